-- Gathered by this session's program wip/tool/shake.py out of its own texts and of what the kit's print and the session's patches of it wrote for this claim.
import Derived.Test.YtjnacjdpggpiiaaDoorCFnDiagnosed6
import Derived.Test.YtjnacjdpggpiiaaDoorCFnDiagnosed7
import Derived.Test.YtjnacjdpggpiiaaDoorCFnDiagnosed8
import Derived.Test.YtjnacjdpggpiiaaDoorCFnDiagnosed9
import Derived.Test.YtjnacjdpggpiiaaDoorCFnDiagnosed10
import Derived.Test.YtjnacjdpggpiiaaDoorCFnDiagnosed11
import Derived.Test.YtjnacjdpggpiiaaDoorCFnDiagnosed13
import Derived.Test.YtjnacjdpggpiiaaDoorCFnDiagnosed14
import Derived.Test.YtjnacjdpggpiiaaDoorCFnDiagnosed15
import Derived.Test.YtjnacjdpggpiiaaDoorCFnDiagnosed24
section
namespace Go.Proofs.YtjnacjdpggpiiaaDoor.PU
open Go.RowKit Go.Proofs.YtjnacjdpggpiiaaDoorW.PrintWords Go.Proofs.YtjnacjdpggpiiaaDoorB
theorem spec_l01In_eq (a b c : Int) : spec_l01In.f a b c = some (decide (b ≤ a ∧ a ≤ c)) := by
  unfold spec_l01In.f
  split <;> simp <;> omega
theorem impl_inRange_eq (a b c : Int) : impl_inRange.f a b c = some (decide (b ≤ a ∧ a ≤ c)) := by
  unfold impl_inRange.f
  split <;> simp <;> omega
end Go.Proofs.YtjnacjdpggpiiaaDoor.PU
end
section
namespace Go.Proofs.YtjnacjdpggpiiaaDoor.PU
open Go.RowKit Go.Proofs.YtjnacjdpggpiiaaDoorW.PrintWords Go.Proofs.YtjnacjdpggpiiaaDoorB
set_option linter.unusedVariables false
set_option linter.unusedSimpArgs false
def unitOk (u : Int) : Bool := decide (u = 4 ∨ u = 8 ∨ u = 16 ∨ u = 32 ∨ u = 64 ∨ u = 128)
theorem bits_unit : ∀ n : Nat, n < 129 → 4 ≤ n → ((Go.bits .and .i64 (n : Int) ((n : Int) - 1)) == 0) = unitOk n := by decide +kernel
theorem impl_IsUnit_eq (u : Int) : impl_IsUnit.f u = some (unitOk u) := by
  unfold impl_IsUnit.f
  simp only [impl_inRange_eq, Option.bind_some, decide_eq_true_eq]
  split
  · rename_i h
    obtain ⟨n, rfl⟩ := Int.eq_ofNat_of_zero_le (show 0 ≤ u by omega)
    rw [w64 (by omega) (by omega), bits_unit n (by omega) (by omega)]
  · simp [unitOk]; omega
theorem spec_IsUnit_ev (u : Int) : Ev (fun k => spec_IsUnit.f k u) (unitOk u) := by
  have h : spec_IsUnit.f 8 u = some (unitOk u) := by
    have w : ∀ n : Nat, n < 10 → wrap64 ((n : Int) + 1) = ((n + 1 : Nat) : Int) := by decide +kernel
    have w0 := w 0 (by omega)
    have w1 := w 1 (by omega)
    have w2 := w 2 (by omega)
    have w3 := w 3 (by omega)
    have w4 := w 4 (by omega)
    have w5 := w 5 (by omega)
    simp only [Int.natCast_zero] at w0 
    simp [spec_IsUnit.f, spec_l01Has.f, spec_l01Has.l0, unitOk, rd, wrap64]
    repeat' split
    all_goals (simp_all <;> omega)
  exact Ev.of (spec_IsUnit.mono u) h
theorem unitOk_iff {u : Int} (h : unitOk u = true) : 4 ≤ u ∧ u ≤ 128 := by
  simp only [unitOk, decide_eq_true_eq] at h; omega
end Go.Proofs.YtjnacjdpggpiiaaDoor.PU
end
section
namespace Go.Proofs.YtjnacjdpggpiiaaDoor.PU
open Go.RowKit Go.Proofs.YtjnacjdpggpiiaaDoorW.PrintWords Go.Proofs.YtjnacjdpggpiiaaDoorB
set_option linter.unusedVariables false
set_option linter.unusedSimpArgs false
def allWithin (n a b : Int) (l : List Int) : Bool := l.all (fun x => decide (a ≤ x ∧ x ≤ b)) && decide ((l.length : Int) ≤ n)
theorem spec_l01Within_l0 (l : List Int) (n a b : Int) (hl : l.length ≤ 9223372036854775806) : ∀ d i, i + d = l.length →
    Ev (fun k => spec_l01Within.l0 k l n a b (i : Int)) ((l.drop i).all (fun x => decide (a ≤ x ∧ x ≤ b)) && decide ((l.length : Int) ≤ n)) := by
  intro d
  induction d with
  | zero =>
    intro i hi
    refine Ev.succ ?_
    simp only [spec_l01Within.l0]
    refine Ev.neg (by omega) (Ev.eq ?_)
    have : l.drop i = [] := List.drop_eq_nil_of_le (by omega)
    rw [this]
    simp
  | succ d ih =>
    intro i hi
    rw [getD_drop l 0 i (by omega)]
    have e1 : wrap64 ((i : Int) + 1) = ((i + 1 : Nat) : Int) := by rw [w64 (by omega) (by omega)]; omega
    refine Ev.succ ?_
    simp only [spec_l01Within.l0, rd_nat, e1]
    generalize l.getD i 0 = x
    refine Ev.pos (by omega) (Ev.pos (by omega) (Ev.bind (Ev.eq (spec_l01In_eq _ _ _)) (Ev.ite (fun h => ?_) (fun h => Ev.eq ?_))))
    · refine (ih (i + 1) (by omega)).cast ?_
      rw [List.all_cons, h, Bool.true_and]
    · simp only [List.all_cons, Bool.eq_false_iff.2 h, Bool.false_and]
theorem spec_l01Within_ev {l : List Int} (hl : l.length ≤ 9223372036854775806) (n a b : Int) : Ev (fun k => spec_l01Within.f k l n a b) (allWithin n a b l) := by
  unfold spec_l01Within.f
  exact (spec_l01Within_l0 l n a b hl l.length 0 (by omega)).cast (by simp [allWithin])
theorem allWithin_iff {n a b : Int} {l : List Int} : allWithin n a b l = true ↔ (∀ x ∈ l, a ≤ x ∧ x ≤ b) ∧ (l.length : Int) ≤ n := by
  simp [allWithin]
end Go.Proofs.YtjnacjdpggpiiaaDoor.PU
end
section
namespace Go.Proofs.YtjnacjdpggpiiaaDoor.PU
open Go.RowKit Go.Proofs.YtjnacjdpggpiiaaDoorW.PrintWords Go.Proofs.YtjnacjdpggpiiaaDoorB
set_option linter.unusedVariables false
set_option linter.unusedSimpArgs false
def lineOk (n u : Int) : Bool := decide (1 ≤ n ∧ n ≤ 12) && unitOk u
theorem lineOk_iff {n u : Int} (h : lineOk n u = true) : (1 ≤ n ∧ n ≤ 12) ∧ unitOk u = true ∧ 4 ≤ u ∧ u ≤ 128 := by
  simp only [lineOk, Bool.and_eq_true, decide_eq_true_eq] at h
  exact ⟨h.1, h.2, unitOk_iff h.2⟩
theorem spec_l28Fits_ev (n u : Int) : Ev (fun k => spec_l28Fits.f k n u) (lineOk n u) := by
  unfold spec_l28Fits.f lineOk
  refine Ev.bind (Ev.eq (spec_l01In_eq _ _ _)) (Ev.ite (fun h => Ev.bind (spec_IsUnit_ev u) (Ev.eq ?_)) (fun h => Ev.eq ?_))
  · rw [h, Bool.true_and]
  · rw [Bool.eq_false_iff.2 h, Bool.false_and]
theorem impl_isLine_eq (n : Int) : impl_isLine.f n 0 = some (decide (1 ≤ n ∧ n ≤ 12)) := by
  unfold impl_isLine.f
  simp only [impl_inRange_eq, Option.bind_some]
  split
  · rename_i h; rw [h]; rfl
  · rename_i h; rw [Bool.eq_false_iff.2 h]
theorem spec_l14Line_eq (n : Int) : spec_l14Line.f n 0 = some (decide (1 ≤ n ∧ n ≤ 12)) := by
  unfold spec_l14Line.f
  simp only [spec_l01In_eq, Option.bind_some]
  split
  · rename_i h; rw [h]; rfl
  · rename_i h; rw [Bool.eq_false_iff.2 h]
theorem impl_isUnitLine_eq (n u : Int) : impl_isUnitLine.f n u = some (lineOk n u) := by
  unfold impl_isUnitLine.f lineOk
  rw [impl_isLine_eq, Option.bind_some]
  split
  · rename_i h; rw [impl_IsUnit_eq, h, Bool.true_and]; rfl
  · rename_i h; rw [Bool.eq_false_iff.2 h, Bool.false_and]
/-- Whether a list has a number. -/
def has (l : List Int) (x : Int) : Bool := l.any (fun y => decide (y = x))
theorem spec_l01Has_l0 (l : List Int) (x : Int) (hl : l.length ≤ 9223372036854775806) : ∀ d i, i + d = l.length → Ev (fun k => spec_l01Has.l0 k l x (i : Int)) (has (l.drop i) x) := by
  intro d
  induction d with
  | zero =>
    intro i hi
    refine Ev.succ ?_
    simp only [spec_l01Has.l0]
    have : l.drop i = [] := List.drop_eq_nil_of_le (by omega)
    rw [this]
    exact Ev.neg (by omega) (Ev.eq rfl)
  | succ d ih =>
    intro i hi
    rw [getD_drop l 0 i (by omega)]
    have e1 : wrap64 ((i : Int) + 1) = ((i + 1 : Nat) : Int) := by rw [w64 (by omega) (by omega)]; omega
    refine Ev.succ ?_
    simp only [spec_l01Has.l0, rd_nat, e1]
    generalize l.getD i 0 = y
    refine Ev.pos (by omega) (Ev.pos (by omega) (Ev.ite (fun h => Ev.eq ?_) (fun h => (ih (i + 1) (by omega)).cast ?_)))
    · simp [has, h]
    · simp only [has, List.any_cons, decide_eq_false h, Bool.false_or]
theorem spec_l01Has_ev {l : List Int} (hl : l.length ≤ 9223372036854775806) (x : Int) : Ev (fun k => spec_l01Has.f k l x) (has l x) := by
  unfold spec_l01Has.f
  exact (spec_l01Has_l0 l x hl l.length 0 (by omega)).cast (by simp)
theorem slices_Index_l0 (l : List Int) (x : Int) (hl : l.length ≤ 9223372036854775806) : ∀ d i, i + d = l.length → ∃ r, Ev (fun k => slices_Index_int64_int64.l0 k l x (l.length : Int) (i : Int)) r ∧ decide (r ≥ 0) = has (l.drop i) x := by
  intro d
  induction d with
  | zero =>
    intro i hi
    have : l.drop i = [] := List.drop_eq_nil_of_le (by omega)
    rw [this]
    refine ⟨-1, Ev.succ ?_, rfl⟩
    simp only [slices_Index_int64_int64.l0]
    exact Ev.neg (by omega) (Ev.eq rfl)
  | succ d ih =>
    intro i hi
    rw [getD_drop l 0 i (by omega)]
    have e1 : wrap64 ((i : Int) + 1) = ((i + 1 : Nat) : Int) := by rw [w64 (by omega) (by omega)]; omega
    obtain ⟨r, h1, h2⟩ := ih (i + 1) (by omega)
    by_cases h : x = l.getD i 0
    · refine ⟨(i : Int), Ev.succ ?_, ?_⟩
      · simp only [slices_Index_int64_int64.l0, rd_nat]
        exact Ev.pos (by omega) (Ev.pos (by omega) (Ev.pos (by omega) (Ev.pos h (Ev.eq rfl))))
      · have : (i : Int) ≥ 0 := by omega
        simp only [has, List.any_cons, h, decide_true, Bool.true_or, this]
    · refine ⟨r, Ev.succ ?_, ?_⟩
      · simp only [slices_Index_int64_int64.l0, rd_nat, e1]
        exact Ev.pos (by omega) (Ev.pos (by omega) (Ev.pos (by omega) (Ev.neg h h1)))
      · have h' : ¬ l.getD i 0 = x := fun e => h e.symm
        rw [h2]
        simp only [has, List.any_cons, decide_eq_false h', Bool.false_or]
theorem slices_Contains_ev {l : List Int} (hl : l.length ≤ 9223372036854775806) (x : Int) : Ev (fun k => slices_Contains_int64_int64.f k l x) (has l x) := by
  obtain ⟨r, h1, h2⟩ := slices_Index_l0 l x hl l.length 0 (by omega)
  unfold slices_Contains_int64_int64.f
  refine Ev.bind (a := r) ?_ (Ev.eq (by rw [h2]; simp))
  unfold slices_Index_int64_int64.f
  exact h1
/-- A block fits a line. -/
def fitsB (n : Int) (l : List Int) : Bool := l.all (fun x => decide (-n ≤ x ∧ x ≤ n)) && decide ((l.length : Int) ≤ 2 * n) && !has l 0
theorem spec_l14Fits_ev {n : Int} {l : List Int} (hn : 1 ≤ n ∧ n ≤ 12) (hl : l.length ≤ 9223372036854775806) : Ev (fun k => spec_l14Fits.f k n l) (fitsB n l) := by
  unfold spec_l14Fits.f fitsB
  rw [w64 (x := -n) (by omega) (by omega), w64 (x := 2 * n) (by omega) (by omega)]
  refine Ev.bind (Ev.eq (spec_l14Line_eq n)) (Ev.pos (by simpa using hn) (Ev.bind (spec_l01Within_ev hl _ _ _) (Ev.ite (fun h => Ev.ite (fun h2 => Ev.bind (spec_l01Has_ev hl 0) (Ev.eq ?_)) (fun h2 => Ev.eq ?_)) (fun h => Ev.eq ?_))))
  · unfold allWithin at h
    simp only [Bool.and_eq_true] at h
    rw [h.1, decide_eq_true h2, Bool.true_and, Bool.true_and]
  · simp [h2]
  · unfold allWithin at h
    cases ha : l.all (fun x => decide (-n ≤ x ∧ x ≤ n)) with
    | false => rfl
    | true =>
      rw [ha, Bool.true_and, decide_eq_true_eq] at h
      have : ¬ (l.length : Int) ≤ 2 * n := by omega
      simp [this]
theorem impl_isBlock_ev {n : Int} {l : List Int} (hn : 1 ≤ n ∧ n ≤ 12) (hl : l.length ≤ 9223372036854775806) : Ev (fun k => impl_isBlock.f k n l) (fitsB n l) := by
  unfold impl_isBlock.f fitsB
  rw [w64 (x := -n) (by omega) (by omega), w64 (x := 2 * n) (by omega) (by omega)]
  refine Ev.bind (Ev.eq (impl_isLine_eq n)) (Ev.pos (by simpa using hn) (Ev.bind (a := (l.length : Int)) (Ev.eq rfl) (Ev.ite (fun h => Ev.bind (a := l.all (fun x => decide (-n ≤ x ∧ x ≤ n))) (Ev.eq rfl) (Ev.ite (fun h2 => Ev.bind (slices_Contains_ev hl 0) (Ev.eq ?_)) (fun h2 => Ev.eq ?_))) (fun h => Ev.eq ?_))))
  · rw [h2, decide_eq_true h, Bool.true_and, Bool.true_and]
  · rw [Bool.eq_false_iff.2 h2, Bool.false_and, Bool.false_and]
  · simp [h]
theorem fitsB_iff {n : Int} {l : List Int} (h : fitsB n l = true) : (∀ x ∈ l, -n ≤ x ∧ x ≤ n ∧ x ≠ 0) ∧ (l.length : Int) ≤ 2 * n := by
  simp only [fitsB, has, Bool.and_eq_true, Bool.not_eq_true', decide_eq_true_eq, List.all_eq_true, List.any_eq_false] at h
  exact ⟨fun x hx => ⟨(h.1.1 x hx).1, (h.1.1 x hx).2, h.2 x hx⟩, h.1.2⟩
/-- The pages of a signature, from one place on. -/
def pg (u s : Int) (j : Int) : Int := if s > 0 then (s - 1) * u + j + 1 else s * u + j
def pgs (u s : Int) : Nat → Nat → List Int
  | 0, _ => []
  | d + 1, j => pg u s (j : Int) :: pgs u s d (j + 1)
theorem pgs_length (u s : Int) : ∀ d j, (pgs u s d j).length = d
  | 0, _ => rfl
  | d + 1, j => by simp [pgs, pgs_length u s d]
def allPages (u : Int) : List Int → List Int
  | [] => []
  | s :: ss => pgs u s u.toNat 0 ++ allPages u ss
theorem allPages_length (u : Int) : ∀ l : List Int, (allPages u l).length = l.length * u.toNat
  | [] => by simp [allPages]
  | s :: ss => by simp [allPages, pgs_length, allPages_length u ss, Nat.succ_mul, Nat.add_comm]
theorem mulB {x u : Int} (h1 : -13 ≤ x) (h2 : x ≤ 12) (h3 : 0 ≤ u) (h4 : u ≤ 128) : -1664 ≤ x * u ∧ x * u ≤ 1536 := by
  have a := Int.mul_le_mul_of_nonneg_right h1 h3
  have b := Int.mul_le_mul_of_nonneg_right h2 h3
  omega
theorem spec_l28Pages_l0 (u s : Int) (hu : 4 ≤ u ∧ u ≤ 128) (hs : -12 ≤ s ∧ s ≤ 12) : ∀ d j : Nat, (j : Int) + d = u → ∀ o : List Int, o.length ≤ j →
    Ev (fun k => spec_l28Pages.l0 k u s o ((j : Int) + 1)) (o ++ pgs u s d j) := by
  have m1 := mulB (x := s - 1) (u := u) (by omega) (by omega) (by omega) (by omega)
  have m2 := mulB (x := s) (u := u) (by omega) (by omega) (by omega) (by omega)
  intro d
  induction d with
  | zero =>
    intro j hj o ho
    refine Ev.succ ?_
    simp only [spec_l28Pages.l0]
    exact Ev.neg (by omega) (Ev.eq (by simp [pgs]))
  | succ d ih =>
    intro j hj o ho
    have h3 := ih (j + 1) (by omega)
    have e1 : wrap64 ((j : Int) + 1 + 1) = ((j + 1 : Nat) : Int) + 1 := by rw [w64 (by omega) (by omega)]; omega
    refine Ev.succ ?_
    simp only [spec_l28Pages.l0, e1]
    rw [w64 (x := s - 1) (by omega) (by omega), w64 (x := (s - 1) * u) (by omega) (by omega), w64 (x := s * u) (by omega) (by omega), w64 (x := (s - 1) * u + ((j : Int) + 1)) (by omega) (by omega), w64 (x := s * u + ((j : Int) + 1)) (by omega) (by omega), w64 (x := s * u + ((j : Int) + 1) - 1) (by omega) (by omega)]
    refine Ev.pos (by omega) (Ev.ite (fun h => Ev.pos (by omega) ?_) (fun h => Ev.pos (by omega) ?_))
    · refine (h3 _ (by simp; omega)).cast ?_
      simp only [pgs, pg, if_pos h, List.append_assoc, List.cons_append, List.nil_append]
      congr 2; omega
    · refine (h3 _ (by simp; omega)).cast ?_
      simp only [pgs, pg, if_neg h, List.append_assoc, List.cons_append, List.nil_append]
      congr 2; omega
theorem impl_pagesOf_l0 (u s : Int) (hu : 4 ≤ u ∧ u ≤ 128) (hs : -12 ≤ s ∧ s ≤ 12) : ∀ d j : Nat, (j : Int) + d = u → ∀ o : List Int, o.length ≤ j →
    Ev (fun k => impl_pagesOf.l0 k u s o u (j : Int)) (o ++ pgs u s d j) := by
  have m1 := mulB (x := s - 1) (u := u) (by omega) (by omega) (by omega) (by omega)
  have m2 := mulB (x := s) (u := u) (by omega) (by omega) (by omega) (by omega)
  intro d
  induction d with
  | zero =>
    intro j hj o ho
    refine Ev.succ ?_
    simp only [impl_pagesOf.l0]
    exact Ev.neg (by omega) (Ev.eq (by simp [pgs]))
  | succ d ih =>
    intro j hj o ho
    have h3 := ih (j + 1) (by omega)
    have e1 : wrap64 ((j : Int) + 1) = ((j + 1 : Nat) : Int) := by rw [w64 (by omega) (by omega)]; omega
    refine Ev.succ ?_
    simp only [impl_pagesOf.l0, e1]
    rw [w64 (x := s - 1) (by omega) (by omega), w64 (x := (s - 1) * u) (by omega) (by omega), w64 (x := s * u) (by omega) (by omega), w64 (x := (s - 1) * u + (j : Int)) (by omega) (by omega), w64 (x := (s - 1) * u + (j : Int) + 1) (by omega) (by omega), w64 (x := s * u + (j : Int)) (by omega) (by omega)]
    refine Ev.pos (by omega) (Ev.ite (fun h => Ev.pos (by omega) ?_) (fun h => Ev.pos (by omega) ?_))
    · refine (h3 _ (by simp; omega)).cast ?_
      simp only [pgs, pg, if_pos h, List.append_assoc, List.cons_append, List.nil_append]
    · refine (h3 _ (by simp; omega)).cast ?_
      simp only [pgs, pg, if_neg h, List.append_assoc, List.cons_append, List.nil_append]
theorem spec_l28Pages_ev {u s : Int} (hu : 4 ≤ u ∧ u ≤ 128) (hs : -12 ≤ s ∧ s ≤ 12) : Ev (fun k => spec_l28Pages.f k u s) (pgs u s u.toNat 0) := by
  unfold spec_l28Pages.f
  exact (spec_l28Pages_l0 u s hu hs u.toNat 0 (by omega) [] (by simp)).cast (by simp)
theorem impl_pagesOf_ev {u s : Int} (hu : 4 ≤ u ∧ u ≤ 128) (hs : -12 ≤ s ∧ s ≤ 12) : Ev (fun k => impl_pagesOf.f k u s) (pgs u s u.toNat 0) := by
  unfold impl_pagesOf.f
  exact (impl_pagesOf_l0 u s hu hs u.toNat 0 (by omega) [] (by simp)).cast (by simp)
theorem spec_l28All_l0 (u : Int) (l : List Int) (hu : 4 ≤ u ∧ u ≤ 128) (hs : ∀ s ∈ l, -12 ≤ s ∧ s ≤ 12) (hl : l.length ≤ 24) : ∀ d i, i + d = l.length → ∀ o : List Int, o.length ≤ 128 * i →
    Ev (fun k => spec_l28All.l0 k u l o (i : Int)) (o ++ allPages u (l.drop i)) := by
  intro d
  induction d with
  | zero =>
    intro i hi o ho
    refine Ev.succ ?_
    simp only [spec_l28All.l0]
    have : l.drop i = [] := List.drop_eq_nil_of_le (by omega)
    rw [this]
    exact Ev.neg (by omega) (Ev.eq (by simp [allPages]))
  | succ d ih =>
    intro i hi o ho
    rw [getD_drop l 0 i (by omega)]
    have hx := hs _ (getD_mem l 0 i (by omega))
    have e1 : wrap64 ((i : Int) + 1) = ((i + 1 : Nat) : Int) := by rw [w64 (by omega) (by omega)]; omega
    refine Ev.succ ?_
    simp only [spec_l28All.l0, rd_nat, e1]
    generalize l.getD i 0 = x at hx ⊢
    have hp := pgs_length u x u.toNat 0
    refine Ev.pos (by omega) (Ev.pos (by omega) (Ev.bind (spec_l28Pages_ev hu hx) (Ev.pos (by omega) ?_)))
    refine (ih (i + 1) (by omega) _ (by rw [List.length_append]; omega)).cast ?_
    simp only [allPages, List.append_assoc]
theorem impl_pagesOfBlock_l0 (u : Int) (l : List Int) (hu : 4 ≤ u ∧ u ≤ 128) (hs : ∀ s ∈ l, -12 ≤ s ∧ s ≤ 12) (hl : l.length ≤ 24) : ∀ d i, i + d = l.length → ∀ o : List Int, o.length ≤ 128 * i →
    Ev (fun k => impl_pagesOfBlock.l0 k u o l (l.length : Int) (i : Int)) (o ++ allPages u (l.drop i)) := by
  intro d
  induction d with
  | zero =>
    intro i hi o ho
    refine Ev.succ ?_
    simp only [impl_pagesOfBlock.l0]
    have : l.drop i = [] := List.drop_eq_nil_of_le (by omega)
    rw [this]
    exact Ev.neg (by omega) (Ev.eq (by simp [allPages]))
  | succ d ih =>
    intro i hi o ho
    rw [getD_drop l 0 i (by omega)]
    have hx := hs _ (getD_mem l 0 i (by omega))
    have e1 : wrap64 ((i : Int) + 1) = ((i + 1 : Nat) : Int) := by rw [w64 (by omega) (by omega)]; omega
    refine Ev.succ ?_
    simp only [impl_pagesOfBlock.l0, rd_nat, e1]
    generalize l.getD i 0 = x at hx ⊢
    have hp := pgs_length u x u.toNat 0
    refine Ev.pos (by omega) (Ev.pos (by omega) (Ev.pos (by omega) (Ev.bind (impl_pagesOf_ev hu hx) (Ev.pos (by omega) ?_))))
    refine (ih (i + 1) (by omega) _ (by rw [List.length_append]; omega)).cast ?_
    simp only [allPages, List.append_assoc]
theorem spec_l28All_ev {u : Int} {l : List Int} (hu : 4 ≤ u ∧ u ≤ 128) (hs : ∀ s ∈ l, -12 ≤ s ∧ s ≤ 12) (hl : l.length ≤ 24) : Ev (fun k => spec_l28All.f k u l) (allPages u l) := by
  unfold spec_l28All.f
  exact (spec_l28All_l0 u l hu hs hl l.length 0 (by omega) [] (by simp)).cast (by simp)
theorem impl_pagesOfBlock_ev {u : Int} {l : List Int} (hu : 4 ≤ u ∧ u ≤ 128) (hs : ∀ s ∈ l, -12 ≤ s ∧ s ≤ 12) (hl : l.length ≤ 24) : Ev (fun k => impl_pagesOfBlock.f k u l) (allPages u l) := by
  unfold impl_pagesOfBlock.f
  exact (impl_pagesOfBlock_l0 u l hu hs hl l.length 0 (by omega) [] (by simp)).cast (by simp)
end Go.Proofs.YtjnacjdpggpiiaaDoor.PU
end
section
namespace Go.Proofs.YtjnacjdpggpiiaaDoor.PU
open Go.RowKit Go.Proofs.YtjnacjdpggpiiaaDoorW.PrintWords Go.Proofs.YtjnacjdpggpiiaaDoorB
set_option linter.unusedVariables false
set_option linter.unusedSimpArgs false
/-- Two lists are the same from a place on. -/
theorem spec_l01Same_l0 (l m : List Int) (hl : l.length ≤ 9223372036854775806) (he : l.length = m.length) : ∀ d i, i + d = l.length → Ev (fun k => spec_l01Same.l0 k l m (i : Int)) (decide (l.drop i = m.drop i)) := by
  intro d
  induction d with
  | zero =>
    intro i hi
    refine Ev.succ ?_
    simp only [spec_l01Same.l0]
    have h1 : l.drop i = [] := List.drop_eq_nil_of_le (by omega)
    have h2 : m.drop i = [] := List.drop_eq_nil_of_le (by omega)
    rw [h1, h2]
    exact Ev.neg (by omega) (Ev.eq rfl)
  | succ d ih =>
    intro i hi
    rw [getD_drop l 0 i (by omega), getD_drop m 0 i (by omega)]
    have e1 : wrap64 ((i : Int) + 1) = ((i + 1 : Nat) : Int) := by rw [w64 (by omega) (by omega)]; omega
    refine Ev.succ ?_
    simp only [spec_l01Same.l0, rd_nat, e1]
    generalize l.getD i 0 = y
    generalize m.getD i 0 = z
    refine Ev.pos (by omega) (Ev.pos (by omega) (Ev.pos (by omega) (Ev.ite (fun h => (ih (i + 1) (by omega)).cast ?_) (fun h => Ev.eq ?_))))
    · simp [h]
    · simp [h]
theorem spec_l01Same_ev {l m : List Int} (hl : l.length ≤ 9223372036854775806) : Ev (fun k => spec_l01Same.f k l m) (decide (l = m)) := by
  unfold spec_l01Same.f
  refine Ev.ite (fun h => (spec_l01Same_l0 l m hl (by omega) l.length 0 (by omega)).cast (by simp)) (fun h => Ev.eq ?_)
  have : ¬ l = m := fun e => h (by rw [e])
  simp [this]
theorem slices_Equal_l0 (l m : List Int) (hl : l.length ≤ 9223372036854775806) (he : l.length = m.length) : ∀ d i, i + d = l.length → Ev (fun k => slices_Equal_int64_int64.l0 k l m (l.length : Int) (i : Int)) (decide (l.drop i = m.drop i)) := by
  intro d
  induction d with
  | zero =>
    intro i hi
    refine Ev.succ ?_
    simp only [slices_Equal_int64_int64.l0]
    have h1 : l.drop i = [] := List.drop_eq_nil_of_le (by omega)
    have h2 : m.drop i = [] := List.drop_eq_nil_of_le (by omega)
    rw [h1, h2]
    exact Ev.neg (by omega) (Ev.eq rfl)
  | succ d ih =>
    intro i hi
    rw [getD_drop l 0 i (by omega), getD_drop m 0 i (by omega)]
    have e1 : wrap64 ((i : Int) + 1) = ((i + 1 : Nat) : Int) := by rw [w64 (by omega) (by omega)]; omega
    refine Ev.succ ?_
    simp only [slices_Equal_int64_int64.l0, rd_nat, e1]
    generalize l.getD i 0 = y
    generalize m.getD i 0 = z
    refine Ev.pos (by omega) (Ev.pos (by omega) (Ev.pos (by omega) (Ev.pos (by omega) (Ev.ite (fun h => (ih (i + 1) (by omega)).cast ?_) (fun h => Ev.eq ?_)))))
    · simp [h]
    · simp [h]
theorem slices_Equal_ev {l m : List Int} (hl : l.length ≤ 9223372036854775806) : Ev (fun k => slices_Equal_int64_int64.f k l m) (decide (l = m)) := by
  unfold slices_Equal_int64_int64.f
  refine Ev.ite (fun h => (slices_Equal_l0 l m hl (by omega) l.length 0 (by omega)).cast (by simp)) (fun h => Ev.eq ?_)
  have : ¬ l = m := fun e => h (by rw [e])
  simp [this]
/-- What each program takes a page for: the signature whose first page it is. -/
def sigS (n u p : Int) : Int :=
  if decide (1 ≤ p ∧ p ≤ wrap64 (n * u)) = true then
    (if decide (1 ≤ wrap64 (-p) ∧ wrap64 (-p) ≤ wrap64 (n * u)) = true then wrap64 (-(wrap64 ((wrap64 (Int.tdiv (wrap64 ((wrap64 (-p)) - 1)) u)) + 1))) else wrap64 ((wrap64 (Int.tdiv (wrap64 (p - 1)) u)) + 1))
  else (if decide (1 ≤ wrap64 (-p) ∧ wrap64 (-p) ≤ wrap64 (n * u)) = true then wrap64 (-(wrap64 ((wrap64 (Int.tdiv (wrap64 ((wrap64 (-p)) - 1)) u)) + 1))) else 0)
def sigI (u p : Int) : Int := if p < 0 then wrap64 (Int.tdiv p u) else wrap64 ((wrap64 (Int.tdiv (wrap64 (p - 1)) u)) + 1)
theorem sigS_tab : ∀ u ∈ [4, 8, 16, 32, 64, 128], ∀ n : Nat, n < 13 → ∀ s : Nat, s < 13 → 1 ≤ s → s ≤ n → sigS (n : Int) u (pg u (s : Int) 0) = (s : Int) ∧ sigS (n : Int) u (pg u (-(s : Int)) 0) = -(s : Int) := by decide +kernel
theorem sigI_tab : ∀ u ∈ [4, 8, 16, 32, 64, 128], ∀ s : Nat, s < 13 → 1 ≤ s → sigI u (pg u (s : Int) 0) = (s : Int) ∧ sigI u (pg u (-(s : Int)) 0) = -(s : Int) := by decide +kernel
theorem unitOk_mem {u : Int} (h : unitOk u = true) : u ∈ [4, 8, 16, 32, 64, 128] := by
  simp only [unitOk, decide_eq_true_eq] at h
  simp only [List.mem_cons, List.not_mem_nil, or_false]
  exact h
theorem sigS_pg {n u s : Int} (hu : unitOk u = true) (hn : 1 ≤ n ∧ n ≤ 12) (hs : -n ≤ s ∧ s ≤ n ∧ s ≠ 0) : sigS n u (pg u s 0) = s := by
  obtain ⟨m, rfl⟩ := Int.eq_ofNat_of_zero_le (show 0 ≤ n by omega)
  by_cases h : 0 ≤ s
  · obtain ⟨t, rfl⟩ := Int.eq_ofNat_of_zero_le h
    exact (sigS_tab u (unitOk_mem hu) m (by omega) t (by omega) (by omega) (by omega)).1
  · obtain ⟨t, ht⟩ := Int.eq_ofNat_of_zero_le (show 0 ≤ -s by omega)
    have e : s = -(t : Int) := by omega
    rw [e]
    exact (sigS_tab u (unitOk_mem hu) m (by omega) t (by omega) (by omega) (by omega)).2
theorem sigI_pg {n u s : Int} (hu : unitOk u = true) (hn : 1 ≤ n ∧ n ≤ 12) (hs : -n ≤ s ∧ s ≤ n ∧ s ≠ 0) : sigI u (pg u s 0) = s := by
  by_cases h : 0 ≤ s
  · obtain ⟨t, rfl⟩ := Int.eq_ofNat_of_zero_le h
    exact (sigI_tab u (unitOk_mem hu) t (by omega) (by omega)).1
  · obtain ⟨t, ht⟩ := Int.eq_ofNat_of_zero_le (show 0 ≤ -s by omega)
    have e : s = -(t : Int) := by omega
    rw [e]
    exact (sigI_tab u (unitOk_mem hu) t (by omega) (by omega)).2
/-- The elements of a list at every U-th place, told by a function. -/
def strides (U : Nat) (f : Int → Int) : Nat → List Int → List Int
  | 0, _ => []
  | _ + 1, [] => []
  | d + 1, x :: xs => f x :: strides U f d ((x :: xs).drop U)
theorem strides_pages (u : Int) (f : Int → Int) (hu : 4 ≤ u) : ∀ (B : List Int), (∀ s ∈ B, f (pg u s 0) = s) → ∀ d, B.length ≤ d → strides u.toNat f d (allPages u B) = B
  | [], _, d, _ => by cases d <;> simp [strides, allPages]
  | s :: B, h, d, hd => by
    simp only [List.length_cons] at hd
    obtain ⟨d, rfl⟩ : ∃ e, d = e + 1 := ⟨d - 1, by omega⟩
    obtain ⟨U, hU⟩ : ∃ U, u.toNat = U + 1 := ⟨u.toNat - 1, by omega⟩
    have e1 : allPages u (s :: B) = pg u s 0 :: (pgs u s U 1 ++ allPages u B) := by
      simp only [allPages, hU, pgs, List.cons_append]; rfl
    have e2 : (allPages u (s :: B)).drop u.toNat = allPages u B := by
      simp only [allPages]
      exact List.drop_left' (pgs_length u s u.toNat 0)
    rw [e1] at e2 ⊢
    simp only [strides]
    rw [e2, strides_pages u f hu B (fun x hx => h x (List.mem_cons_of_mem _ hx)) d (by omega), h s (List.mem_cons_self ..)]
/-- A block is that of some pages. -/
def good (n u : Int) (l B : List Int) : Bool := fitsB n B && decide (allPages u B = l)
def blockS (n u : Int) (l : List Int) : List Int := strides u.toNat (sigS n u) l.length l
def blockI (u : Int) (l : List Int) : List Int := strides u.toNat (sigI u) l.length l
theorem good_len {n u : Int} {l B : List Int} (hn : 1 ≤ n ∧ n ≤ 12) (hu : unitOk u = true) (h : good n u l B = true) : blockS n u l = B ∧ blockI u l = B ∧ Int.tmod (l.length : Int) u = 0 ∧ (l.length : Int) ≤ 2 * n * u := by
  simp only [good, Bool.and_eq_true, decide_eq_true_eq] at h
  have hf := fitsB_iff h.1
  have h4 := unitOk_iff hu
  have hlen := allPages_length u B
  obtain ⟨-, rfl⟩ := h
  have hB : B.length ≤ (allPages u B).length := by
    rw [hlen]; exact Nat.le_mul_of_pos_right _ (by omega)
  refine ⟨strides_pages u _ h4.1 B (fun s hs => sigS_pg hu hn (hf.1 s hs)) _ hB, strides_pages u _ h4.1 B (fun s hs => sigI_pg hu hn (hf.1 s hs)) _ hB, ?_, ?_⟩
  · rw [hlen, Int.natCast_mul, Int.toNat_of_nonneg (by omega)]; simp
  · rw [hlen, Int.natCast_mul, Int.toNat_of_nonneg (by omega)]
    exact Int.mul_le_mul_of_nonneg_right hf.2 (by omega)
/-- The block of some pages, or a code. -/
def blockOfP (n u : Int) (l : List Int) : List Int × Int := if lineOk n u = true then (if good n u l (blockS n u l) = true then (blockS n u l, 0) else ([], 4)) else ([], 2)
theorem good_iff {n u : Int} {l : List Int} (hn : 1 ≤ n ∧ n ≤ 12) (hu : unitOk u = true) : good n u l (blockI u l) = true ↔ good n u l (blockS n u l) = true := by
  constructor
  · intro h
    rw [(good_len hn hu h).1]; exact h
  · intro h
    rw [(good_len hn hu h).2.1]; exact h
theorem spec_l28Block_end {n u : Int} {l B : List Int} (hn : 1 ≤ n ∧ n ≤ 12) (hu : unitOk u = true) (hl : B.length ≤ 1048576) :
    Ev (fun k => (spec_l14Fits.f k n B).bind fun t357 => (if t357 = true then ((spec_l28All.f k u B).bind fun t358 => ((spec_l01Same.f k t358 l).bind fun t361 => (if t361 = true then (some (B, (0 : Int))) else (some (([] : List Int), 4))))) else (some (([] : List Int), 4)))) (if good n u l B = true then (B, 0) else ([], 4)) := by
  refine Ev.bind (spec_l14Fits_ev hn (by omega)) (Ev.ite (fun h => ?_) (fun h => Ev.eq ?_))
  · have hf := fitsB_iff h
    have h4 := unitOk_iff hu
    have hlen := allPages_length u B
    have hb : B.length * u.toNat ≤ 24 * 128 := Nat.mul_le_mul (by omega) (by omega)
    refine Ev.bind (spec_l28All_ev h4 (fun s hs => by have := hf.1 s hs; omega) (by omega)) (Ev.bind (spec_l01Same_ev (by omega)) (Ev.ite (fun h2 => Ev.eq ?_) (fun h2 => Ev.eq ?_)))
    · rw [if_pos (by rw [good, h, h2]; rfl)]
    · rw [if_neg (by rw [good, h, Bool.true_and]; exact h2)]
  · rw [if_neg (by rw [good, Bool.eq_false_iff.2 h, Bool.false_and]; simp)]
theorem impl_blockOfPages_end {n u : Int} {l B : List Int} (hn : 1 ≤ n ∧ n ≤ 12) (hu : unitOk u = true) (hl : B.length ≤ 1048576) :
    Ev (fun k => (impl_isBlock.f k n B).bind fun t357 => (if t357 = true then ((impl_pagesOfBlock.f k u B).bind fun t358 => ((slices_Equal_int64_int64.f k t358 l).bind fun t361 => (if t361 = true then (some (B, (0 : Int))) else (some (([] : List Int), 4))))) else (some (([] : List Int), 4)))) (if good n u l B = true then (B, 0) else ([], 4)) := by
  refine Ev.bind (impl_isBlock_ev hn (by omega)) (Ev.ite (fun h => ?_) (fun h => Ev.eq ?_))
  · have hf := fitsB_iff h
    have h4 := unitOk_iff hu
    have hlen := allPages_length u B
    have hb : B.length * u.toNat ≤ 24 * 128 := Nat.mul_le_mul (by omega) (by omega)
    refine Ev.bind (impl_pagesOfBlock_ev h4 (fun s hs => by have := hf.1 s hs; omega) (by omega)) (Ev.bind (slices_Equal_ev (by omega)) (Ev.ite (fun h2 => Ev.eq ?_) (fun h2 => Ev.eq ?_)))
    · rw [if_pos (by rw [good, h, h2]; rfl)]
    · rw [if_neg (by rw [good, h, Bool.true_and]; exact h2)]
  · rw [if_neg (by rw [good, Bool.eq_false_iff.2 h, Bool.false_and]; simp)]
theorem drop_strides {l : List Int} {U i d : Nat} (f : Int → Int) (hU : 1 ≤ U) (h : i < l.length) : strides U f (d + 1) (l.drop i) = f (l.getD i 0) :: strides U f d (l.drop (i + U)) := by
  have e : l.drop (i + U) = (l.drop i).drop U := by rw [List.drop_drop]
  rw [e, getD_drop l 0 i h]
  simp only [strides]
theorem spec_l28Block_l0 (n u : Int) (l : List Int) (hn : 1 ≤ n ∧ n ≤ 12) (hu : unitOk u = true) (hl : l.length ≤ 1048576) : ∀ d i, l.length ≤ i + d → i ≤ 1048576 + 128 → ∀ o : List Int, o.length + d ≤ l.length →
    Ev (fun k => spec_l28Block.l0 k n u l o (i : Int)) (if good n u l (o ++ strides u.toNat (sigS n u) d (l.drop i)) = true then (o ++ strides u.toNat (sigS n u) d (l.drop i), 0) else ([], 4)) := by
  have h4 := unitOk_iff hu
  intro d
  induction d with
  | zero =>
    intro i hi hi2 o ho
    refine Ev.succ ?_
    simp only [spec_l28Block.l0]
    refine Ev.neg (by omega) ?_
    simp only [strides, List.append_nil]
    exact spec_l28Block_end hn hu (by omega)
  | succ d ih =>
    intro i hi hi2 o ho
    by_cases h : i < l.length
    · rw [drop_strides (sigS n u) (by omega) h]
      have e1 : wrap64 ((i : Int) + u) = ((i + u.toNat : Nat) : Int) := by rw [w64 (by omega) (by omega)]; omega
      have h3 := ih (i + u.toNat) (by omega) (by omega) (o ++ [sigS n u (l.getD i 0)]) (by simp; omega)
      rw [List.append_assoc, List.singleton_append] at h3
      refine Ev.succ ?_
      simp only [spec_l28Block.l0, rd_nat, e1]
      generalize hx : l.getD i 0 = x at h3 ⊢
      refine Ev.pos (by omega) (Ev.pos (by omega) (Ev.bind (Ev.eq (spec_l01In_eq _ _ _)) (Ev.ite (fun c1 => Ev.neg (by omega) (Ev.bind (Ev.eq (spec_l01In_eq _ _ _)) (Ev.ite (fun c2 => Ev.pos (by omega) ?_) (fun c2 => Ev.pos (by omega) ?_)))) (fun c1 => Ev.bind (Ev.eq (spec_l01In_eq _ _ _)) (Ev.ite (fun c2 => Ev.neg (by omega) (Ev.pos (by omega) ?_)) (fun c2 => Ev.pos (by omega) ?_))))))
      · have e : sigS n u x = wrap64 (-(wrap64 ((wrap64 (Int.tdiv (wrap64 ((wrap64 (-x)) - 1)) u)) + 1))) := by rw [sigS, if_pos c1, if_pos c2]
        rw [e] at h3 ⊢
        exact h3
      · have e : sigS n u x = wrap64 ((wrap64 (Int.tdiv (wrap64 (x - 1)) u)) + 1) := by rw [sigS, if_pos c1, if_neg c2]
        rw [e] at h3 ⊢
        exact h3
      · have e : sigS n u x = wrap64 (-(wrap64 ((wrap64 (Int.tdiv (wrap64 ((wrap64 (-x)) - 1)) u)) + 1))) := by rw [sigS, if_neg c1, if_pos c2]
        rw [e] at h3 ⊢
        exact h3
      · have e : sigS n u x = 0 := by rw [sigS, if_neg c1, if_neg c2]
        rw [e] at h3 ⊢
        exact h3
    · have e : l.drop i = [] := List.drop_eq_nil_of_le (by omega)
      rw [e]
      refine Ev.succ ?_
      simp only [spec_l28Block.l0]
      refine Ev.neg (by omega) ?_
      simp only [strides, List.append_nil]
      exact spec_l28Block_end hn hu (by omega)
theorem impl_blockOfPages_l0 (n u : Int) (l : List Int) (hn : 1 ≤ n ∧ n ≤ 12) (hu : unitOk u = true) (hl : l.length ≤ 1048576) : ∀ d i, l.length ≤ i + d → i ≤ 1048576 + 128 → ∀ o : List Int, o.length + d ≤ l.length →
    Ev (fun k => impl_blockOfPages.l0 k n u l o (i : Int)) (if good n u l (o ++ strides u.toNat (sigI u) d (l.drop i)) = true then (o ++ strides u.toNat (sigI u) d (l.drop i), 0) else ([], 4)) := by
  have h4 := unitOk_iff hu
  intro d
  induction d with
  | zero =>
    intro i hi hi2 o ho
    refine Ev.succ ?_
    simp only [impl_blockOfPages.l0]
    refine Ev.neg (by omega) ?_
    simp only [strides, List.append_nil]
    exact impl_blockOfPages_end hn hu (by omega)
  | succ d ih =>
    intro i hi hi2 o ho
    by_cases h : i < l.length
    · rw [drop_strides (sigI u) (by omega) h]
      have e1 : wrap64 ((i : Int) + u) = ((i + u.toNat : Nat) : Int) := by rw [w64 (by omega) (by omega)]; omega
      have h3 := ih (i + u.toNat) (by omega) (by omega) (o ++ [sigI u (l.getD i 0)]) (by simp; omega)
      rw [List.append_assoc, List.singleton_append] at h3
      refine Ev.succ ?_
      simp only [impl_blockOfPages.l0, rd_nat, e1]
      generalize hx : l.getD i 0 = x at h3 ⊢
      refine Ev.pos (by omega) (Ev.pos (by omega) (Ev.neg (by omega) (Ev.ite (fun c1 => Ev.pos (by omega) ?_) (fun c1 => Ev.pos (by omega) ?_))))
      · have e : sigI u x = wrap64 (Int.tdiv x u) := by rw [sigI, if_pos c1]
        rw [e] at h3 ⊢
        exact h3
      · have e : sigI u x = wrap64 ((wrap64 (Int.tdiv (wrap64 (x - 1)) u)) + 1) := by rw [sigI, if_neg c1]
        rw [e] at h3 ⊢
        exact h3
    · have e : l.drop i = [] := List.drop_eq_nil_of_le (by omega)
      rw [e]
      refine Ev.succ ?_
      simp only [impl_blockOfPages.l0]
      refine Ev.neg (by omega) ?_
      simp only [strides, List.append_nil]
      exact impl_blockOfPages_end hn hu (by omega)
theorem spec_l28Block_ev (n u : Int) {l : List Int} (hl : l.length ≤ 1048576) : Ev (fun k => spec_l28Block.f k n u l) (blockOfP n u l) := by
  unfold spec_l28Block.f blockOfP
  refine Ev.bind (spec_l28Fits_ev n u) (Ev.ite (fun h => ?_) (fun h => Ev.eq (by rw [if_neg h])))
  rw [if_pos h]
  have h2 := lineOk_iff h
  exact (spec_l28Block_l0 n u l h2.1 h2.2.1 hl l.length 0 (by omega) (by omega) [] (by simp)).cast (by simp only [List.nil_append, List.drop_zero]; rfl)
theorem impl_blockOfPages_ev (n u : Int) {l : List Int} (hl : l.length ≤ 1048576) : Ev (fun k => impl_blockOfPages.f k n u l) (blockOfP n u l) := by
  unfold impl_blockOfPages.f blockOfP
  refine Ev.bind (Ev.eq (impl_isUnitLine_eq n u)) (Ev.ite (fun h => ?_) (fun h => Ev.eq (by rw [if_neg h])))
  rw [if_pos h]
  have h2 := lineOk_iff h
  have hb : 0 ≤ 2 * n * u ∧ 2 * n * u ≤ 24 * 128 := ⟨Int.mul_nonneg (by omega) (by omega), Int.mul_le_mul (by omega) (by omega) (by omega) (by omega)⟩
  rw [w64 (x := 2 * n) (by omega) (by omega), w64 (x := 2 * n * u) (by omega) (by omega)]
  refine Ev.bind (a := (l.length : Int)) (Ev.eq rfl) (Ev.neg (by omega) (Ev.ite (fun c1 => Ev.bind (a := (l.length : Int)) (Ev.eq rfl) (Ev.ite (fun c2 => Ev.eq ?_) (fun c2 => ?_))) (fun c1 => Ev.eq ?_)))
  · rw [if_neg]
    intro hg
    have := (good_len h2.1 h2.2.1 hg).2.2.2
    omega
  · refine (impl_blockOfPages_l0 n u l h2.1 h2.2.1 hl l.length 0 (by omega) (by omega) [] (by simp)).cast ?_
    simp only [List.nil_append, List.drop_zero]
    show (if good n u l (blockI u l) = true then (blockI u l, (0 : Int)) else ([], 4)) = _
    by_cases hg : good n u l (blockS n u l) = true
    · have e := (good_len h2.1 h2.2.1 hg).2.1
      rw [e]
    · rw [if_neg hg, if_neg (fun x => hg ((good_iff h2.1 h2.2.1).1 x))]
  · rw [if_neg]
    intro hg
    exact c1 (good_len h2.1 h2.2.1 hg).2.2.1
theorem blockOfP_zero {n u : Int} {l : List Int} (h : (blockOfP n u l).2 = 0) : lineOk n u = true ∧ good n u l (blockS n u l) = true := by
  unfold blockOfP at h
  split at h
  · split at h
    · exact ⟨‹_›, ‹_›⟩
    · cases h
  · cases h
end Go.Proofs.YtjnacjdpggpiiaaDoor.PU
end
section
namespace Go.Proofs.YtjnacjdpggpiiaaDoor.PU
open Go.RowKit Go.Proofs.YtjnacjdpggpiiaaDoorW.PrintWords Go.Proofs.YtjnacjdpggpiiaaDoorB
set_option linter.unusedVariables false
set_option linter.unusedSimpArgs false
/-- How many elements are other than 0. -/
def cntL : List Int → Int
  | [] => 0
  | x :: l => mn 1 x + cntL l
/-- What the reference tells of m stations: the best list, if there is one. -/
def bestB (l : List Int) (m st pl : Nat) : List Int × Bool := if xFew l m st pl ≥ 1000000000 then ([], false) else (runE l m st pl (xFew l m st pl), true)
/-- An explanation leaves no more than two sheets a station. -/
theorem few_long (l : List Int) : ∀ m st pl, pl ≤ l.length → xFew l m st pl < 1000000000 → l.length ≤ pl + 2 * m
  | 0, st, pl, hp, h => by
    unfold xFew at h
    split at h
    · omega
    · omega
  | m + 1, st, pl, hp, h => by
    unfold xFew at h
    have key : ∀ (ks : List Nat) (b : Int), (b < 1000000000 → l.length ≤ pl + 2 * (m + 1)) → ks.foldl (xBetter l (xFew l m (st + 1)) st pl) b < 1000000000 → l.length ≤ pl + 2 * (m + 1) := by
      intro ks
      induction ks with
      | nil => intro b hb h; exact hb h
      | cons k ks ih =>
        intro b hb h
        refine ih _ (fun h2 => ?_) h
        unfold xBetter at h2
        split at h2
        · exact hb h2
        · rename_i e he
          have h1 : 0 ≤ xOne k := by unfold xOne; split <;> omega
          rcases Int.lt_or_le b 1000000000 with h3 | h3
          · exact hb h3
          · have h4 : xFew l m (st + 1) e < 1000000000 := by
              unfold mn at h2
              split at h2 <;> omega
            have h5 := few_long l m (st + 1) e (behind_le he) h4
            have h6 : e ≤ pl + 2 := by
              unfold xBehind at he
              split at he
              · split at he
                · cases he
                · split at he
                  · cases he
                  · have := Option.some.inj he; omega
              · split at he
                · have h7 := leftL_le st k
                  have := Option.some.inj he
                  omega
                · cases he
            omega
    exact key _ _ (fun h => by omega) h
theorem attain (l : List Int) (f : Nat → Int) (st pl : Nat) : ∀ (ks : List Nat) (b : Int), ks.foldl (xBetter l f st pl) b = b ∨ ∃ k ∈ ks, ∃ e, xBehind l st pl k = some e ∧ f e + xOne k = ks.foldl (xBetter l f st pl) b
  | [], b => .inl rfl
  | k :: ks, b => by
    rcases attain l f st pl ks (xBetter l f st pl b k) with h | ⟨k', hk, e, h1, h2⟩
    · show ks.foldl (xBetter l f st pl) (xBetter l f st pl b k) = b ∨ _
      rw [h]
      cases hb : xBehind l st pl k with
      | none => left; unfold xBetter; rw [hb]
      | some e =>
        have hv : xBetter l f st pl b k = mn b (f e + xOne k) := by unfold xBetter; rw [hb]
        by_cases hm : f e + xOne k < b
        · right
          refine ⟨k, by simp, e, hb, ?_⟩
          show f e + xOne k = ks.foldl (xBetter l f st pl) (xBetter l f st pl b k)
          rw [h, hv]; unfold mn; rw [if_pos hm]
        · left; rw [hv]; unfold mn; rw [if_neg hm]
    · exact .inr ⟨k', List.mem_cons_of_mem _ hk, e, h1, h2⟩
theorem pick_some (l : List Int) (f : Nat → Int) (st pl : Nat) (lf : Int) : ∀ ks : List Nat, (∃ k ∈ ks, ∃ e, xBehind l st pl k = some e ∧ f e + xOne k = lf) → ∃ k e, xPick l f st pl lf ks = some (k, e) ∧ k ∈ ks ∧ xBehind l st pl k = some e ∧ f e + xOne k = lf
  | [], ⟨_, h, _⟩ => by cases h
  | k :: ks, ⟨k', hk, e', h1, h2⟩ => by
    unfold xPick
    cases hb : xBehind l st pl k with
    | some e =>
      by_cases hq : f e + xOne k = lf
      · exact ⟨k, e, by simp [hq], by simp, hb, hq⟩
      · have h3 : ∃ k ∈ ks, ∃ e, xBehind l st pl k = some e ∧ f e + xOne k = lf := by
          rcases List.mem_cons.1 hk with rfl | hk
          · rw [hb] at h1; cases h1; exact absurd h2 hq
          · exact ⟨k', hk, e', h1, h2⟩
        obtain ⟨k2, e2, g1, g2, g3, g4⟩ := pick_some l f st pl lf ks h3
        exact ⟨k2, e2, by simp [hq, g1], List.mem_cons_of_mem _ g2, g3, g4⟩
    | none =>
      have h3 : ∃ k ∈ ks, ∃ e, xBehind l st pl k = some e ∧ f e + xOne k = lf := by
        rcases List.mem_cons.1 hk with rfl | hk
        · rw [hb] at h1; cases h1
        · exact ⟨k', hk, e', h1, h2⟩
      obtain ⟨k2, e2, g1, g2, g3, g4⟩ := pick_some l f st pl lf ks h3
      exact ⟨k2, e2, by simp [g1], List.mem_cons_of_mem _ g2, g3, g4⟩
/-- The explanation has as many faults as are told. -/
theorem run_count (l : List Int) : ∀ m st pl, xFew l m st pl < 1000000000 → cntL (runE l m st pl (xFew l m st pl)) = xFew l m st pl
  | 0, st, pl, h => by
    unfold xFew at h ⊢
    split at h
    · rename_i hp; rw [if_pos hp]; rfl
    · omega
  | m + 1, st, pl, h => by
    obtain ⟨F, hF⟩ : ∃ F, xFew l (m + 1) st pl = F := ⟨_, rfl⟩
    rw [hF] at h ⊢
    have hF' : ([0, 1, 2, 3, 4] : List Nat).foldl (xBetter l (xFew l m (st + 1)) st pl) 1000000000 = F := hF
    have hex : ∃ k ∈ ([0, 1, 2, 3, 4] : List Nat), ∃ e, xBehind l st pl k = some e ∧ xFew l m (st + 1) e + xOne k = F := by
      rcases attain l (xFew l m (st + 1)) st pl [0, 1, 2, 3, 4] 1000000000 with h1 | h1
      · omega
      · rw [hF'] at h1; exact h1
    obtain ⟨k, e, g1, g2, g3, g4⟩ := pick_some l (xFew l m (st + 1)) st pl F _ hex
    have hk1 : 0 ≤ xOne k := by unfold xOne; split <;> omega
    have hr := run_count l m (st + 1) e (by omega)
    have hone : mn 1 (k : Int) = xOne k := by
      unfold mn xOne
      by_cases h0 : k = 0
      · subst h0; rfl
      · rw [if_neg h0, if_neg (by omega)]
    rw [runE, g1]
    simp only [cntL]
    rw [show F - xOne k = xFew l m (st + 1) e from by omega, hr, hone]
    omega
theorem fold_le0 (l : List Int) (f : Nat → Int) (st pl : Nat) : ∀ (ks : List Nat) (b : Int), ks.foldl (xBetter l f st pl) b ≤ b
  | [], b => Int.le_refl _
  | k :: ks, b => by
    have h1 := fold_le0 l f st pl ks (xBetter l f st pl b k)
    have h2 : xBetter l f st pl b k ≤ b := by
      unfold xBetter
      split
      · exact Int.le_refl _
      · exact mn_le _ _
    exact Int.le_trans h1 h2
theorem fold_le (l : List Int) (f : Nat → Int) (st pl : Nat) : ∀ (ks : List Nat) (b : Int) (k e : Nat), k ∈ ks → xBehind l st pl k = some e → ks.foldl (xBetter l f st pl) b ≤ f e + xOne k
  | [], _, _, _, h, _ => by cases h
  | k' :: ks, b, k, e, hk, he => by
    rcases List.mem_cons.1 hk with rfl | hk
    · have h1 := fold_le0 l f st pl ks (xBetter l f st pl b k)
      have h2 : xBetter l f st pl b k ≤ f e + xOne k := by
        unfold xBetter; rw [he]; unfold mn; simp only; split <;> omega
      exact Int.le_trans h1 h2
    · exact fold_le l f st pl ks _ k e hk he
theorem pick_mem (l : List Int) (f : Nat → Int) (st pl : Nat) (lf : Int) : ∀ (ks : List Nat) (k e : Nat), xPick l f st pl lf ks = some (k, e) → k ∈ ks ∧ xBehind l st pl k = some e ∧ f e + xOne k = lf
  | [], _, _, h => by cases h
  | k' :: ks, k, e, h => by
    unfold xPick at h
    split at h
    · rename_i e' he
      split at h
      · rename_i hq
        cases h
        exact ⟨by simp, he, hq⟩
      · obtain ⟨g1, g2, g3⟩ := pick_mem l f st pl lf ks k e h
        exact ⟨List.mem_cons_of_mem _ g1, g2, g3⟩
    · obtain ⟨g1, g2, g3⟩ := pick_mem l f st pl lf ks k e h
      exact ⟨List.mem_cons_of_mem _ g1, g2, g3⟩
theorem pick_none (l : List Int) (f : Nat → Int) (st pl : Nat) (lf : Int) (ks : List Nat) (h : ∀ k ∈ ks, ∀ e, xBehind l st pl k = some e → ¬ f e + xOne k = lf) : xPick l f st pl lf ks = none := by
  cases hp : xPick l f st pl lf ks with
  | none => rfl
  | some r =>
    obtain ⟨k, e⟩ := r
    obtain ⟨g1, g2, g3⟩ := pick_mem l f st pl lf ks k e hp
    exact absurd g3 (h k g1 e g2)
theorem pick_app (l : List Int) (f : Nat → Int) (st pl : Nat) (lf : Int) : ∀ (ks : List Nat) (k : Nat), xPick l f st pl lf (ks ++ [k]) = (match xPick l f st pl lf ks with | some r => some r | none => xPick l f st pl lf [k])
  | [], k => rfl
  | k' :: ks, k => by
    have ih := pick_app l f st pl lf ks k
    rw [List.cons_append, xPick]
    conv => rhs; rw [xPick]
    split
    · split
      · rfl
      · exact ih
    · exact ih
theorem run_bounds (l : List Int) : ∀ m st pl lf, (runE l m st pl lf).length ≤ m ∧ ∀ x ∈ runE l m st pl lf, 0 ≤ x ∧ x ≤ 4
  | 0, st, pl, lf => by simp [runE]
  | m + 1, st, pl, lf => by
    unfold runE
    cases hp : xPick l (xFew l m (st + 1)) st pl lf [0, 1, 2, 3, 4] with
    | none =>
      have h := run_bounds l m (st + 1) pl lf
      exact ⟨by have := h.1; simp only; omega, h.2⟩
    | some r =>
      obtain ⟨k, e⟩ := r
      obtain ⟨g1, _, _⟩ := pick_mem _ _ _ _ _ _ _ _ hp
      have h := run_bounds l m (st + 1) e (lf - xOne k)
      have hk : k ≤ 4 := by simp at g1; omega
      refine ⟨by have := h.1; simp only [List.length_cons]; omega, fun x hx => ?_⟩
      simp only [List.mem_cons] at hx
      rcases hx with rfl | hx
      · omega
      · exact h.2 x hx
theorem cnt_le : ∀ l : List Int, (∀ x ∈ l, 0 ≤ x ∧ x ≤ 4) → 0 ≤ cntL l ∧ cntL l ≤ l.length
  | [], _ => by simp [cntL]
  | x :: l, h => by
    have h1 := cnt_le l (fun y hy => h y (List.mem_cons_of_mem _ hy))
    have h2 := h x (by simp)
    have h3 : 0 ≤ mn 1 x ∧ mn 1 x ≤ 1 := by unfold mn; split <;> omega
    simp only [cntL, List.length_cons]
    omega
theorem few_small (l : List Int) (m st pl : Nat) (h : xFew l m st pl < 1000000000) : xFew l m st pl ≤ m := by
  have h1 := run_count l m st pl h
  have h2 := run_bounds l m st pl (xFew l m st pl)
  have h3 := cnt_le _ h2.2
  have := h2.1
  omega
/-- The fewest faults by the first kinds. -/
def foldB (l : List Int) (f : Nat → Int) (st pl i : Nat) : Int := (kindsTo i).foldl (xBetter l f st pl) 1000000000
/-- What the reference's rounds have found behind the first kinds. -/
def stB (l : List Int) (m st pl i : Nat) : List Int × Bool := if foldB l (xFew l m (st + 1)) st pl i ≥ 1000000000 then ([], false) else (match xPick l (xFew l m (st + 1)) st pl (foldB l (xFew l m (st + 1)) st pl i) (kindsTo i) with | some (k, e) => ((k : Int) :: runE l m (st + 1) e (foldB l (xFew l m (st + 1)) st pl i - xOne k), true) | none => ([], true))
theorem kinds_app (i : Nat) (hi : i < 5) : kindsTo (i + 1) = kindsTo i ++ [i] := by
  have : i = 0 ∨ i = 1 ∨ i = 2 ∨ i = 3 ∨ i = 4 := by omega
  rcases this with rfl | rfl | rfl | rfl | rfl <;> rfl
theorem foldB_le (l : List Int) (f : Nat → Int) (st pl i : Nat) : foldB l f st pl i ≤ 1000000000 := fold_le0 l f st pl _ _
theorem pick_have (l : List Int) (f : Nat → Int) (st pl i : Nat) (h : foldB l f st pl i < 1000000000) : ∃ k e, xPick l f st pl (foldB l f st pl i) (kindsTo i) = some (k, e) := by
  rcases attain l f st pl (kindsTo i) 1000000000 with h1 | h1
  · unfold foldB at h; omega
  · obtain ⟨k, e, g, _⟩ := pick_some l f st pl _ (kindsTo i) h1
    exact ⟨k, e, g⟩
/-- A round that changes nothing. -/
theorem stB_same {l : List Int} {m st pl i : Nat} (hi : i < 5) (h : foldB l (xFew l m (st + 1)) st pl (i + 1) = foldB l (xFew l m (st + 1)) st pl i) : stB l m st pl (i + 1) = stB l m st pl i := by
  unfold stB
  rw [h]
  by_cases c : foldB l (xFew l m (st + 1)) st pl i ≥ 1000000000
  · rw [if_pos c, if_pos c]
  · rw [if_neg c, if_neg c, kinds_app i hi, pick_app]
    obtain ⟨k, e, g⟩ := pick_have l (xFew l m (st + 1)) st pl i (by omega)
    rw [g]
/-- A round that finds a better one. -/
theorem stB_new {l : List Int} {m st pl i e : Nat} (hi : i < 5) (he : xBehind l st pl i = some e) (hlt : xFew l m (st + 1) e + xOne i < foldB l (xFew l m (st + 1)) st pl i) : stB l m st pl (i + 1) = ((i : Int) :: runE l m (st + 1) e (xFew l m (st + 1) e), true) := by
  have hf : foldB l (xFew l m (st + 1)) st pl (i + 1) = xFew l m (st + 1) e + xOne i := by
    have h := kinds_step (l := l) (f := xFew l m (st + 1)) (st := st) (pl := pl) i hi
    show (kindsTo (i + 1)).foldl _ _ = _
    rw [h, kinds_some he]
    unfold mn
    exact if_pos hlt
  have hle := foldB_le l (xFew l m (st + 1)) st pl i
  unfold stB
  rw [hf, if_neg (by omega), kinds_app i hi, pick_app, pick_none l (xFew l m (st + 1)) st pl _ (kindsTo i) (fun k hk e' he' => by
    have := fold_le l (xFew l m (st + 1)) st pl (kindsTo i) 1000000000 k e' hk he'
    unfold foldB at hlt
    omega)]
  simp only [xPick, he]
  rw [if_pos trivial]
  simp only
  congr 2
  congr 1
  omega
theorem stB_end (l : List Int) (m st pl : Nat) : stB l m st pl 5 = bestB l (m + 1) st pl := by
  have hF : foldB l (xFew l m (st + 1)) st pl 5 = xFew l (m + 1) st pl := rfl
  unfold stB bestB
  rw [hF]
  by_cases c : xFew l (m + 1) st pl ≥ 1000000000
  · rw [if_pos c, if_pos c]
  · rw [if_neg c, if_neg c]
    obtain ⟨k, e, g⟩ := pick_have l (xFew l m (st + 1)) st pl 5 (by rw [hF]; omega)
    rw [hF] at g
    have g' : xPick l (xFew l m (st + 1)) st pl (xFew l (m + 1) st pl) [0, 1, 2, 3, 4] = some (k, e) := g
    rw [g, runE, g']
/-- The count of what was found. -/
theorem stB_count {l : List Int} {m st pl i : Nat} (h : foldB l (xFew l m (st + 1)) st pl i < 1000000000) : (stB l m st pl i).2 = true ∧ cntL (stB l m st pl i).1 = foldB l (xFew l m (st + 1)) st pl i ∧ (stB l m st pl i).1.length ≤ m + 1 ∧ ∀ x ∈ (stB l m st pl i).1, 0 ≤ x ∧ x ≤ 4 := by
  obtain ⟨k, e, g⟩ := pick_have l (xFew l m (st + 1)) st pl i h
  obtain ⟨g1, g2, g3⟩ := pick_mem _ _ _ _ _ _ _ _ g
  have hk1 : 0 ≤ xOne k := by unfold xOne; split <;> omega
  have hk4 : k ≤ 4 := by
    have : k ∈ ([0, 1, 2, 3, 4] : List Nat) := List.mem_of_mem_take g1
    simp at this; omega
  have hone : mn 1 (k : Int) = xOne k := by
    unfold mn xOne
    by_cases h0 : k = 0
    · subst h0; rfl
    · rw [if_neg h0, if_neg (by omega)]
  have hb := run_bounds l m (st + 1) e (foldB l (xFew l m (st + 1)) st pl i - xOne k)
  have hr := run_count l m (st + 1) e (by omega)
  unfold stB
  rw [if_neg (by omega), g]
  refine ⟨rfl, ?_, by have := hb.1; simp only [List.length_cons]; omega, fun x hx => ?_⟩
  · simp only [cntL]
    rw [show foldB l (xFew l m (st + 1)) st pl i - xOne k = xFew l m (st + 1) e from by omega, hr, hone]
    omega
  · simp only [List.mem_cons] at hx
    rcases hx with rfl | hx
    · omega
    · exact hb.2 x hx
theorem spec_l14Kinds_l0 (l : List Int) (hl : l.length ≤ 1000) (hr : ∀ x ∈ l, 0 ≤ x ∧ x ≤ 4) : ∀ d i, i + d = l.length → ∀ s : Int, 0 ≤ s → s ≤ i → Ev (fun k => spec_l14Kinds.l0 k l s (i : Int)) (s + cntL (l.drop i)) := by
  intro d
  induction d with
  | zero =>
    intro i hi s h1 h2
    refine Ev.succ ?_
    simp only [spec_l14Kinds.l0]
    have h3 : l.drop i = [] := List.drop_eq_nil_of_le (by omega)
    rw [h3]
    exact Ev.neg (by omega) (Ev.eq (by simp [cntL]))
  | succ d ih =>
    intro i hi s h1 h2
    rw [getD_drop l 0 i (by omega)]
    have hm := hr _ (getD_mem l 0 i (by omega))
    have e1 : wrap64 ((i : Int) + 1) = ((i + 1 : Nat) : Int) := by rw [w64 (by omega) (by omega)]; omega
    refine Ev.succ ?_
    simp only [spec_l14Kinds.l0, rd_nat, e1]
    generalize l.getD i 0 = y at hm ⊢
    have hb : 0 ≤ mn 1 y ∧ mn 1 y ≤ 1 := by unfold mn; split <;> omega
    rw [w64 (x := s + mn 1 y) (by omega) (by omega)]
    refine Ev.pos (by omega) (Ev.pos (by omega) ((ih (i + 1) (by omega) _ (by omega) (by omega)).cast ?_))
    simp only [cntL]; omega
theorem spec_l14Kinds_ev {l : List Int} (hl : l.length ≤ 1000) (hr : ∀ x ∈ l, 0 ≤ x ∧ x ≤ 4) : Ev (fun k => spec_l14Kinds.f k l) (cntL l) := by
  unfold spec_l14Kinds.f
  exact (spec_l14Kinds_l0 l hl hr l.length 0 (by omega) 0 (by omega) (by omega)).cast (by simp)
theorem bestB_bounds (l : List Int) (m st pl : Nat) : (bestB l m st pl).1.length ≤ m ∧ ∀ x ∈ (bestB l m st pl).1, 0 ≤ x ∧ x ≤ 4 := by
  unfold bestB
  split
  · simp
  · exact run_bounds ..
/-- One kind tried by the reference. -/
theorem round_ev {l : List Int} {n m st pl i : Nat} {R : List Int × Bool} (hi : i < 5) (hst : st + (m + 1) = n) (hn : n ≤ 12) (hpl : pl ≤ l.length) (hl : l.length ≤ 1000)
    (ih : ∀ e, e ≤ l.length → Ev (fun k => spec_l14Explain.f k (n : Int) ((st + 1 : Nat) : Int) (l.drop e)) (bestB l m (st + 1) e))
    (next : Ev (fun k => spec_l14Explain.l0 k (n : Int) (st : Int) (l.drop pl) (stB l m st pl (i + 1)).1 (stB l m st pl (i + 1)).2 ((i + 1 : Nat) : Int)) R)
    (pt : List Int) (hb : xBehind l st pl i = if pt.length ≤ (l.drop pl).length ∧ (l.drop pl).take pt.length = pt then some (pl + pt.length) else none) :
    Ev (fun k => spec_l14Explain.j2 k (n : Int) (st : Int) (l.drop pl) (stB l m st pl i).1 (stB l m st pl i).2 (i : Int) pt) R := by
  have e1 : wrap64 ((i : Int) + 1) = ((i + 1 : Nat) : Int) := by rw [w64 (by omega) (by omega)]; omega
  have e2 : wrap64 ((st : Int) + 1) = ((st + 1 : Nat) : Int) := by rw [w64 (by omega) (by omega)]; omega
  have hstep : foldB l (xFew l m (st + 1)) st pl (i + 1) = xBetter l (xFew l m (st + 1)) st pl (foldB l (xFew l m (st + 1)) st pl i) i := kinds_step i hi
  have hsame : foldB l (xFew l m (st + 1)) st pl (i + 1) = foldB l (xFew l m (st + 1)) st pl i → Ev (fun k => spec_l14Explain.l0 k (n : Int) (st : Int) (l.drop pl) (stB l m st pl i).1 (stB l m st pl i).2 ((i + 1 : Nat) : Int)) R := by
    intro h
    rw [stB_same hi h] at next
    exact next
  have hfits : ¬ (pt.length ≤ (l.drop pl).length ∧ (l.drop pl).take pt.length = pt) → Ev (fun k => spec_l14Explain.l0 k (n : Int) (st : Int) (l.drop pl) (stB l m st pl i).1 (stB l m st pl i).2 ((i + 1 : Nat) : Int)) R := by
    intro h
    rw [if_neg h] at hb
    exact hsame (by rw [hstep, kinds_none hb])
  refine Ev.succ ?_
  simp only [spec_l14Explain.j2]
  refine Ev.ite (fun h1 => Ev.succ ?_) (fun h1 => Ev.pos (by omega) (Ev.pos (by omega) ?_))
  · simp only [spec_l14Explain.j3, e1]
    exact Ev.pos (by trivial) (hfits (fun h => by omega))
  · have hdl : (l.drop pl).length = l.length - pl := by simp
    refine Ev.bind (spec_l01Same_ev (l := pt) (m := (l.drop pl).take ((pt.length : Int)).toNat) (by omega)) (Ev.succ ?_)
    simp only [spec_l14Explain.j3, e1, e2]
    refine Ev.ite (fun h2 => hfits (fun h => ?_)) (fun h2 => Ev.pos (by omega) (Ev.pos (by omega) ?_))
    · rw [Int.toNat_natCast, h.2] at h2
      simp at h2
    · have h3 : (l.drop pl).take pt.length = pt := by
        simp at h2
        exact h2.symm
      rw [if_pos ⟨by omega, h3⟩] at hb
      have hk1 : 0 ≤ xOne i ∧ xOne i ≤ 1 := by unfold xOne; split <;> omega
      have hone : mn 1 (i : Int) = xOne i := by
        unfold mn xOne
        by_cases h0 : i = 0
        · subst h0; rfl
        · rw [if_neg h0, if_neg (by omega)]
      have hfl := foldB_le l (xFew l m (st + 1)) st pl i
      have hsm := few_small l m (st + 1) (pl + pt.length)
      have hr := run_count l m (st + 1) (pl + pt.length)
      have hbb := bestB_bounds l m (st + 1) (pl + pt.length)
      have hcount := @stB_count l m st pl i
      have hnew := @stB_new l m st pl i (pl + pt.length) hi hb
      have hsm' : xFew l m (st + 1) (pl + pt.length) + xOne i ≥ foldB l (xFew l m (st + 1)) st pl i → foldB l (xFew l m (st + 1)) st pl (i + 1) = foldB l (xFew l m (st + 1)) st pl i := by
        intro h
        rw [hstep, kinds_some hb]
        unfold mn
        exact if_neg (by omega)
      have e3 : (l.drop pl).drop ((pt.length : Int)).toNat = l.drop (pl + pt.length) := by rw [Int.toNat_natCast, List.drop_drop]
      simp only [e3]
      refine Ev.bind (ih (pl + pt.length) (by omega)) ?_
      by_cases hF : xFew l m (st + 1) (pl + pt.length) ≥ 1000000000
      · have hB : bestB l m (st + 1) (pl + pt.length) = ([], false) := if_pos hF
        rw [hB]
        exact Ev.neg (by simp) (hsame (hsm' (by omega)))
      · have hB : bestB l m (st + 1) (pl + pt.length) = (runE l m (st + 1) (pl + pt.length) (xFew l m (st + 1) (pl + pt.length)), true) := if_neg hF
        rw [hB] at hbb ⊢
        have hr := hr (by omega)
        have hsm := hsm (by omega)
        simp only at hbb
        generalize hE : runE l m (st + 1) (pl + pt.length) (xFew l m (st + 1) (pl + pt.length)) = E at hr hnew hbb
        refine Ev.pos (by trivial) (Ev.bind (Ev.eq rfl) (Ev.pos (by simp; omega) (Ev.bind (a := (i : Int) :: E) (Ev.eq rfl) (Ev.ite (fun h4 => ?_) (fun h4 => ?_)))))
        · have hlt : foldB l (xFew l m (st + 1)) st pl i < 1000000000 := by
            refine Int.not_le.1 (fun h => ?_)
            have : (stB l m st pl i).2 = false := by unfold stB; rw [if_pos h]
            rw [this] at h4; cases h4
          obtain ⟨g1, g2, g3, g4⟩ := hcount hlt
          refine Ev.bind (spec_l14Kinds_ev (l := (i : Int) :: E) (by simp; omega) (fun x hx => ?_)) (Ev.bind (spec_l14Kinds_ev (by omega) g4) (Ev.ite (fun h5 => ?_) (fun h5 => ?_)))
          · simp only [List.mem_cons] at hx
            rcases hx with rfl | hx
            · omega
            · exact hbb.2 x hx
          · rw [g2] at h5
            simp only [cntL, hr, hone] at h5
            rw [hnew (by omega)] at next
            exact next
          · rw [g2] at h5
            simp only [cntL, hr, hone] at h5
            exact hsame (hsm' (by omega))
        · have hge : foldB l (xFew l m (st + 1)) st pl i ≥ 1000000000 := by
            refine Int.not_lt.1 (fun h => h4 (hcount h).1)
          rw [hnew (by omega)] at next
          exact next
theorem part_three (st : Nat) (hst : st ≤ 12) (i : Nat) (hi : i < 4) : spec_l14Part.f (st : Int) (i : Int) 0 = some (leftL st i) := by
  have e2 : wrap64 ((st : Int) + 1) = (st : Int) + 1 := w64 (by omega) (by omega)
  have e3 : wrap64 (-((st : Int) + 1)) = -((st : Int) + 1) := w64 (by omega) (by omega)
  have : i = 0 ∨ i = 1 ∨ i = 2 ∨ i = 3 := by omega
  rcases this with rfl | rfl | rfl | rfl <;> simp [spec_l14Part.f, leftL, e2, e3]
theorem take_drop_iff (l : List Int) (pl L : Nat) : (l.take (pl + L)).drop pl = (l.drop pl).take L := by
  rw [List.drop_take]; congr 1; omega
theorem kinds_ev {l : List Int} {n m st pl : Nat} (hst : st + (m + 1) = n) (hn : n ≤ 12) (hpl : pl ≤ l.length) (hl : l.length ≤ 1000)
    (ih : ∀ e, e ≤ l.length → Ev (fun k => spec_l14Explain.f k (n : Int) ((st + 1 : Nat) : Int) (l.drop e)) (bestB l m (st + 1) e)) :
    ∀ d i, i + d = 5 → Ev (fun k => spec_l14Explain.l0 k (n : Int) (st : Int) (l.drop pl) (stB l m st pl i).1 (stB l m st pl i).2 (i : Int)) (stB l m st pl 5) := by
  obtain ⟨R, hR⟩ : ∃ R, stB l m st pl 5 = R := ⟨_, rfl⟩
  rw [hR]
  intro d
  induction d with
  | zero =>
    intro i hi
    have hi : i = 5 := by omega
    subst hi
    rw [hR]
    refine Ev.succ ?_
    simp only [spec_l14Explain.l0]
    exact Ev.neg (by omega) (Ev.eq rfl)
  | succ d ihd =>
    intro i hi
    have hi5 : i < 5 := by omega
    have e1 : wrap64 ((i : Int) + 1) = ((i + 1 : Nat) : Int) := by rw [w64 (by omega) (by omega)]; omega
    have e2 : wrap64 ((st : Int) + 1) = (st : Int) + 1 := w64 (by omega) (by omega)
    have next := ihd (i + 1) (by omega)
    have hrnd := fun pt => round_ev (R := R) hi5 hst hn hpl hl ih next pt
    refine Ev.succ ?_
    simp only [spec_l14Explain.l0]
    by_cases h4 : i = 4
    · subst h4
      have hstep : foldB l (xFew l m (st + 1)) st pl (4 + 1) = xBetter l (xFew l m (st + 1)) st pl (foldB l (xFew l m (st + 1)) st pl 4) 4 := kinds_step 4 hi5
      have hskip : xBehind l st pl 4 = none → Ev (fun k => spec_l14Explain.l0 k (n : Int) (st : Int) (l.drop pl) (stB l m st pl 4).1 (stB l m st pl 4).2 ((4 + 1 : Nat) : Int)) R := by
        intro h
        rw [stB_same hi5 (by rw [hstep, kinds_none h])] at next
        exact next
      have e5 : wrap64 (((4 : Nat) : Int) + 1) = ((4 + 1 : Nat) : Int) := e1
      have hj : ∀ t, xBehind l st pl 4 = none → Ev (fun k => spec_l14Explain.j1 k (n : Int) (st : Int) (l.drop pl) (stB l m st pl 4).1 (stB l m st pl 4).2 ((4 : Nat) : Int) t false) R := by
        intro t h
        refine Ev.succ ?_
        simp only [spec_l14Explain.j1, e5]
        exact Ev.neg (by simp) (Ev.pos (by rfl) (hskip h))
      refine Ev.pos (by omega) (Ev.bind (a := [wrap64 (0 + 1)]) (Ev.eq (by simp [spec_l14Part.f])) (Ev.pos (by rfl) ?_))
      cases hd : l.drop pl with
      | nil =>
        rw [hd] at hj
        exact Ev.neg (by simp) (hj _ (by simp [xBehind, hd]))
      | cons x xs =>
        rw [hd] at hj hskip hrnd
        have er : rd (x :: xs) 0 = x := rfl
        have ht : pl < l.length := by
          refine Nat.not_le.1 (fun h => ?_)
          rw [List.drop_eq_nil_of_le h] at hd
          cases hd
        simp only [er, e2]
        refine Ev.pos (by simp) (Ev.pos (by simp) (Ev.ite (fun h1 => ?_) (fun h1 => hj _ ?_)))
        · by_cases h2 : x = (st : Int) + 1
          · have h3 : (x != (st : Int) + 1) = false := by simp [h2]
            rw [h3]
            exact hj _ (by simp [xBehind, hd, h2])
          · have h3 : (x != (st : Int) + 1) = true := by simp [h2]
            rw [h3]
            refine Ev.succ ?_
            simp only [spec_l14Explain.j1, er]
            refine Ev.pos (by trivial) (Ev.pos (by simp) (hrnd [x] ?_))
            have : ¬ (x < 1 ∨ x = (st : Int) + 1) := by omega
            simp [xBehind, hd, this]
        · have : x < 1 := by omega
          simp [xBehind, hd, this]
    · refine Ev.pos (by omega) (Ev.bind (Ev.eq (part_three st (by omega) i (by omega))) (Ev.neg (by omega) (Ev.succ ?_)))
      simp only [spec_l14Explain.j1]
      refine Ev.neg (by simp) (Ev.neg (by omega) (hrnd (leftL st i) ?_))
      unfold xBehind
      rw [if_neg h4, take_drop_iff]
      have : pl + (leftL st i).length ≤ l.length ↔ (leftL st i).length ≤ (l.drop pl).length := by simp; omega
      simp only [this]
theorem spec_l14Explain_ev {l : List Int} {n : Nat} (hn : n ≤ 12) (hl : l.length ≤ 1000) : ∀ m st pl, st + m = n → pl ≤ l.length → Ev (fun k => spec_l14Explain.f k (n : Int) (st : Int) (l.drop pl)) (bestB l m st pl) := by
  intro m
  induction m with
  | zero =>
    intro st pl hst hpl
    refine Ev.succ ?_
    simp only [spec_l14Explain.f]
    refine Ev.pos (by omega) (Ev.eq ?_)
    unfold bestB xFew
    by_cases h : pl = l.length
    · simp [h, runE]
    · have : ¬ l.length - pl = 0 := by omega
      simp [h, this]
  | succ m ih =>
    intro st pl hst hpl
    refine Ev.succ ?_
    simp only [spec_l14Explain.f]
    rw [w64 (x := (n : Int) - st) (by omega) (by omega), w64 (x := 2 * ((n : Int) - st)) (by omega) (by omega)]
    refine Ev.neg (by omega) (Ev.ite (fun h => Ev.eq ?_) (fun h => ?_))
    · have hf := few_long l (m + 1) st pl hpl
      have : xFew l (m + 1) st pl ≥ 1000000000 := by
        refine Int.not_lt.1 (fun h2 => ?_)
        have := hf h2
        simp at h
        omega
      unfold bestB
      rw [if_pos this]
    · rw [← stB_end]
      exact kinds_ev hst hn hpl hl (fun e he => ih (st + 1) e (by omega) he) 5 0 (by omega)
/-- The explanation of a block, or a code. -/
def explP (n : Int) (l : List Int) : List Int × Int := if xFew l n.toNat 0 0 ≥ 1000000000 then ([], 4) else (runE l n.toNat 0 0 (xFew l n.toNat 0 0), 0)
theorem spec_ExplainBlock_ev {n : Int} {l : List Int} (hn : 1 ≤ n ∧ n ≤ 12) (hf : fitsB n l = true) : Ev (fun k => spec_ExplainBlock.f k n l) (explP n l) := by
  have h1 := fitsB_iff hf
  obtain ⟨m, rfl⟩ := Int.eq_ofNat_of_zero_le (show 0 ≤ n by omega)
  unfold spec_ExplainBlock.f
  refine Ev.bind (spec_l14Fits_ev hn (by omega)) (Ev.pos hf (Ev.bind (spec_l14Explain_ev (l := l) (n := m) (by omega) (by omega) m 0 0 (by omega) (by omega)) ?_))
  unfold bestB explP
  simp only [Int.toNat_natCast]
  by_cases c : xFew l m 0 0 ≥ 1000000000
  · rw [if_pos c, if_pos c]; exact Ev.neg (by simp) (Ev.eq rfl)
  · rw [if_neg c, if_neg c]; exact Ev.pos (by trivial) (Ev.eq rfl)
theorem impl_ExplainBlock_ev {n : Int} {l : List Int} (hn : 1 ≤ n ∧ n ≤ 12) (hf : fitsB n l = true) : Ev (fun k => impl_ExplainBlock.f k n l) (explP n l) := by
  have h1 := fitsB_iff hf
  unfold impl_ExplainBlock.f
  refine Ev.bind (impl_isBlock_ev hn (by omega)) (Ev.pos hf (Ev.pos ⟨by omega, by omega, by omega, fun x hx => by have := h1.1 x hx; omega⟩ (Ev.eq ?_)))
  unfold explP
  split <;> rfl
theorem explP_length (n : Int) (l : List Int) : (explP n l).1.length ≤ n.toNat := by
  unfold explP
  split
  · simp
  · exact (run_bounds ..).1
end Go.Proofs.YtjnacjdpggpiiaaDoor.PU
end
section
namespace Go.Proofs.YtjnacjdpggpiiaaDoor.PU
open Go.RowKit Go.Proofs.YtjnacjdpggpiiaaDoorW.PrintWords Go.Proofs.YtjnacjdpggpiiaaDoorB
set_option linter.unusedVariables false
set_option linter.unusedSimpArgs false
def diagV (n u : Int) (l : List Int) : List Int × Int := if (blockOfP n u l).2 = 0 then (if (explP n (blockOfP n u l).1).2 = 0 then ((explP n (blockOfP n u l).1).1, 0) else ([], 5)) else ([], (blockOfP n u l).2)
theorem fits_of {n u : Int} {l : List Int} (h : (blockOfP n u l).2 = 0) : (1 ≤ n ∧ n ≤ 12) ∧ fitsB n (blockOfP n u l).1 = true := by
  obtain ⟨h1, h2⟩ := blockOfP_zero h
  refine ⟨(lineOk_iff h1).1, ?_⟩
  have e : (blockOfP n u l).1 = blockS n u l := by unfold blockOfP; rw [if_pos h1, if_pos h2]
  rw [e]
  simp only [good, Bool.and_eq_true] at h2
  exact h2.1
theorem diagV_length (n u : Int) (l : List Int) : (diagV n u l).1.length ≤ 1048576 := by
  unfold diagV
  split
  · rename_i h
    have h1 := (fits_of h).1
    have h2 := explP_length n (blockOfP n u l).1
    split
    · simp only; omega
    · simp
  · simp
theorem spec_DiagnosePages_ev (n u : Int) {l : List Int} (hl : l.length ≤ 1048576) : Ev (fun k => spec_DiagnosePages.f k n u l) (diagV n u l) := by
  unfold spec_DiagnosePages.f diagV
  refine Ev.bind (spec_l28Block_ev n u hl) (Ev.ite (fun h => ?_) (fun h => Ev.eq (by rw [if_neg h])))
  have hf := fits_of h
  rw [if_pos h]
  refine Ev.bind (spec_ExplainBlock_ev hf.1 hf.2) (Ev.ite (fun h2 => Ev.eq (by rw [if_pos h2])) (fun h2 => Ev.eq (by rw [if_neg h2])))
theorem impl_DiagnosePages_ev (n u : Int) {l : List Int} (hl : l.length ≤ 1048576) : Ev (fun k => impl_DiagnosePages.f k n u l) (diagV n u l) := by
  unfold impl_DiagnosePages.f diagV
  refine Ev.bind (impl_blockOfPages_ev n u hl) (Ev.ite (fun h => ?_) (fun h => Ev.eq (by rw [if_neg h])))
  have hf := fits_of h
  rw [if_pos h]
  refine Ev.bind (impl_ExplainBlock_ev hf.1 hf.2) (Ev.ite (fun h2 => Ev.eq (by rw [if_pos h2])) (fun h2 => Ev.eq (by rw [if_neg h2])))
end Go.Proofs.YtjnacjdpggpiiaaDoor.PU
end
section
namespace Go.Proofs.YtjnacjdpggpiiaaDoor.PU
open Go.RowKit Go.Proofs.YtjnacjdpggpiiaaDoorW.PrintWords Go.Proofs.YtjnacjdpggpiiaaDoorB
set_option linter.unusedVariables false
set_option linter.unusedSimpArgs false
/-- The numbers after one number. -/
def upTo : Int → Nat → List Int
  | _, 0 => []
  | a, d + 1 => (a + 1) :: upTo (a + 1) d
theorem upTo_length : ∀ (d : Nat) (a : Int), (upTo a d).length = d
  | 0, _ => rfl
  | d + 1, a => by simp [upTo, upTo_length d]
theorem upTo_getD : ∀ (d : Nat) (a : Int) (i : Nat), i < d → (upTo a d).getD i 0 = a + i + 1
  | 0, _, _, h => by omega
  | d + 1, a, 0, h => by simp [upTo]
  | d + 1, a, i + 1, h => by
    have := upTo_getD d (a + 1) i (by omega)
    simp only [upTo, List.getD_cons_succ, this]
    omega
theorem upTo_append : ∀ (d e : Nat) (a : Int), upTo a d ++ upTo (a + d) e = upTo a (d + e)
  | 0, e, a => by simp [upTo]
  | d + 1, e, a => by
    have := upTo_append d e (a + 1)
    have e1 : d + 1 + e = (d + e) + 1 := by omega
    have e2 : a + ((d + 1 : Nat) : Int) = a + 1 + (d : Int) := by omega
    rw [e1, e2]
    simp only [upTo, List.cons_append, this]
theorem pgs_upTo (u s : Int) (hs : s > 0) : ∀ d j : Nat, pgs u s d j = upTo ((s - 1) * u + j) d
  | 0, _ => rfl
  | d + 1, j => by
    have e : (s - 1) * u + ((j + 1 : Nat) : Int) = (s - 1) * u + (j : Int) + 1 := by omega
    simp only [pgs, upTo, pgs_upTo u s hs d (j + 1), pg, if_pos hs, e]
theorem allPages_upTo (u : Int) (hu : 0 ≤ u) : ∀ (m : Nat) (s : Nat), allPages u (upTo (s : Int) m) = upTo ((s : Int) * u) (m * u.toNat)
  | 0, s => by simp [upTo, allPages]
  | m + 1, s => by
    have ih := allPages_upTo u hu m (s + 1)
    have e1 : ((s + 1 : Nat) : Int) = (s : Int) + 1 := by omega
    have e2 : ((s : Int) + 1 - 1) * u + ((0 : Nat) : Int) = (s : Int) * u := by rw [Int.add_sub_cancel]; omega
    have e3 : ((s : Int) + 1) * u = (s : Int) * u + (u.toNat : Int) := by rw [Int.add_mul, Int.one_mul, Int.toNat_of_nonneg hu]
    rw [e1, e3] at ih
    have e4 : (m + 1) * u.toNat = u.toNat + m * u.toNat := by rw [Nat.succ_mul, Nat.add_comm]
    simp only [upTo, allPages]
    rw [ih, pgs_upTo u ((s : Int) + 1) (by omega), e2, e4]
    exact upTo_append ..
theorem impl_rightBlock_l0 (n : Int) (hn : 1 ≤ n ∧ n ≤ 12) : ∀ d j : Nat, (j : Int) + d = n → ∀ o : List Int, o.length ≤ j → Ev (fun k => impl_rightBlock.l0 k o n (j : Int)) (o ++ upTo (j : Int) d) := by
  intro d
  induction d with
  | zero =>
    intro j hj o ho
    refine Ev.succ ?_
    simp only [impl_rightBlock.l0]
    exact Ev.neg (by omega) (Ev.eq (by simp [upTo]))
  | succ d ih =>
    intro j hj o ho
    have e1 : wrap64 ((j : Int) + 1) = ((j + 1 : Nat) : Int) := by rw [w64 (by omega) (by omega)]; omega
    refine Ev.succ ?_
    simp only [impl_rightBlock.l0, e1]
    refine Ev.pos (by omega) (Ev.pos (by omega) ?_)
    refine (ih (j + 1) (by omega) _ (by simp; omega)).cast ?_
    have e2 : ((j + 1 : Nat) : Int) = (j : Int) + 1 := by omega
    simp only [upTo, List.append_assoc, List.singleton_append, e2]
theorem impl_rightBlock_ev {n : Int} (hn : 1 ≤ n ∧ n ≤ 12) : Ev (fun k => impl_rightBlock.f k n) (upTo ((0 : Nat) : Int) n.toNat) := by
  unfold impl_rightBlock.f
  exact (impl_rightBlock_l0 n hn n.toNat 0 (by omega) [] (by simp)).cast (by simp)
/-- The first place where a list is not the numbers from one on. -/
def firstBad (N : Int) (l : List Int) : Nat → Nat → Int × Int
  | 0, _ => (0, 5)
  | d + 1, i => if N ≤ (i : Int) then ((i : Int), 0) else if (l.length : Int) ≤ (i : Int) then ((i : Int), 0) else if l.getD i 0 = (i : Int) + 1 then firstBad N l d (i + 1) else ((i : Int), 0)
theorem mx_comm (a b : Int) : mx a b = mx b a := by unfold mx; split <;> split <;> omega
theorem mx_le {a b M : Int} (h1 : a ≤ M) (h2 : b ≤ M) : mx a b ≤ M := by unfold mx; split <;> omega
theorem spec_FirstBadPage_l0 (n u : Int) (l : List Int) (hl : l.length ≤ 1048576) (hb : 0 ≤ n * u ∧ n * u ≤ 1536) : ∀ d i : Nat, (i : Int) + d = mx (n * u) (l.length : Int) → Ev (fun k => spec_FirstBadPage.l0 k n u l (i : Int)) (firstBad (n * u) l d i) := by
  have hM : mx (n * u) (l.length : Int) ≤ 1048576 := mx_le (by omega) (by omega)
  intro d
  induction d with
  | zero =>
    intro i hi
    refine Ev.succ ?_
    simp only [spec_FirstBadPage.l0]
    rw [w64 (x := n * u) (by omega) (by omega)]
    exact Ev.neg (by omega) (Ev.eq rfl)
  | succ d ih =>
    intro i hi
    have e1 : wrap64 ((i : Int) + 1) = (i : Int) + 1 := w64 (by omega) (by omega)
    have h3 := ih (i + 1) (by omega)
    rw [show ((i + 1 : Nat) : Int) = (i : Int) + 1 by omega] at h3
    refine Ev.succ ?_
    simp only [spec_FirstBadPage.l0, rd_nat, e1]
    rw [w64 (x := n * u) (by omega) (by omega)]
    refine Ev.pos (by omega) (Ev.ite (fun c1 => Ev.eq ?_) (fun c1 => Ev.ite (fun c2 => Ev.eq ?_) (fun c2 => Ev.pos (by omega) (Ev.pos (by omega) (Ev.ite (fun c3 => h3.cast ?_) (fun c3 => Ev.eq ?_))))))
    · simp only [firstBad]; rw [if_pos c1]
    · simp only [firstBad]; rw [if_neg (by omega), if_pos c2]
    · simp only [firstBad]; rw [if_neg (by omega), if_neg (by omega), if_pos c3]
    · simp only [firstBad]; rw [if_neg (by omega), if_neg (by omega), if_neg c3]
theorem impl_FirstBadPage_l0 (N : Nat) (l : List Int) (hl : l.length ≤ 1048576) (hb : N ≤ 1536) : ∀ d i : Nat, (i : Int) + d = mx (l.length : Int) (N : Int) → Ev (fun k => impl_FirstBadPage.l0 k l (upTo 0 N) (mx (l.length : Int) (N : Int)) (i : Int)) (firstBad (N : Int) l d i) := by
  have hM : mx (l.length : Int) (N : Int) ≤ 1048576 := mx_le (by omega) (by omega)
  have hlen := upTo_length N 0
  intro d
  induction d with
  | zero =>
    intro i hi
    refine Ev.succ ?_
    simp only [impl_FirstBadPage.l0]
    exact Ev.neg (by omega) (Ev.eq rfl)
  | succ d ih =>
    intro i hi
    have e1 : wrap64 ((i : Int) + 1) = (i : Int) + 1 := w64 (by omega) (by omega)
    have h3 := ih (i + 1) (by omega)
    rw [show ((i + 1 : Nat) : Int) = (i : Int) + 1 by omega] at h3
    refine Ev.succ ?_
    simp only [impl_FirstBadPage.l0, rd_nat, e1, hlen]
    refine Ev.pos (by omega) (Ev.ite (fun c1 => Ev.eq ?_) (fun c1 => Ev.ite (fun c2 => Ev.eq ?_) (fun c2 => Ev.pos (by omega) (Ev.pos (by omega) (Ev.pos (by omega) ?_)))))
    · simp only [firstBad]
      split
      · rfl
      · first | rfl | rw [if_pos c1]
    · simp only [firstBad]; rw [if_pos c2]
    · rw [upTo_getD N 0 i (by omega), Int.zero_add]
      refine Ev.ite (fun c3 => h3.cast ?_) (fun c3 => Ev.eq ?_)
      · simp only [firstBad]; rw [if_neg (by omega), if_neg (by omega), if_pos c3]
      · simp only [firstBad]; rw [if_neg (by omega), if_neg (by omega), if_neg c3]
def firstBadV (n u : Int) (l : List Int) : Int × Int := if (blockOfP n u l).2 = 0 then firstBad (n * u) l (mx (n * u) (l.length : Int)).toNat 0 else (0, (blockOfP n u l).2)
theorem mx_nonneg {a b : Int} (h1 : 0 ≤ a) (h2 : 0 ≤ b) : 0 ≤ mx a b := by unfold mx; split <;> omega
theorem spec_FirstBadPage_ev (n u : Int) {l : List Int} (hl : l.length ≤ 1048576) : Ev (fun k => spec_FirstBadPage.f k n u l) (firstBadV n u l) := by
  unfold spec_FirstBadPage.f firstBadV
  refine Ev.bind (spec_l28Block_ev n u hl) (Ev.ite (fun h => ?_) (fun h => Ev.eq (by rw [if_neg h])))
  rw [if_pos h]
  have h3 := lineOk_iff (blockOfP_zero h).1
  have hb : 0 ≤ n * u ∧ n * u ≤ 12 * 128 := ⟨Int.mul_nonneg (by omega) (by omega), Int.mul_le_mul (by omega) (by omega) (by omega) (by omega)⟩
  have hm := mx_nonneg hb.1 (show (0 : Int) ≤ (l.length : Int) by omega)
  exact spec_FirstBadPage_l0 n u l hl (by omega) _ 0 (by omega)
theorem impl_FirstBadPage_ev (n u : Int) {l : List Int} (hl : l.length ≤ 1048576) : Ev (fun k => impl_FirstBadPage.f k n u l) (firstBadV n u l) := by
  unfold impl_FirstBadPage.f firstBadV
  refine Ev.bind (impl_blockOfPages_ev n u hl) (Ev.ite (fun h => ?_) (fun h => Ev.eq (by rw [if_neg h])))
  rw [if_pos h]
  have h3 := lineOk_iff (blockOfP_zero h).1
  have hb : 0 ≤ n * u ∧ n * u ≤ 12 * 128 := ⟨Int.mul_nonneg (by omega) (by omega), Int.mul_le_mul (by omega) (by omega) (by omega) (by omega)⟩
  have hN : ((n.toNat * u.toNat : Nat) : Int) = n * u := by rw [Int.natCast_mul, Int.toNat_of_nonneg (by omega), Int.toNat_of_nonneg (by omega)]
  have hm := mx_nonneg hb.1 (show (0 : Int) ≤ (l.length : Int) by omega)
  have hA : allPages u (upTo ((0 : Nat) : Int) n.toNat) = upTo 0 (n.toNat * u.toNat) := by
    have := allPages_upTo u (by omega) n.toNat 0
    simpa using this
  have hr : ∀ s ∈ upTo ((0 : Nat) : Int) n.toNat, -12 ≤ s ∧ s ≤ 12 := by
    have key : ∀ (d : Nat) (a : Int), 0 ≤ a → a + d ≤ 12 → ∀ s ∈ upTo a d, -12 ≤ s ∧ s ≤ 12 := by
      intro d
      induction d with
      | zero => intro a _ _ s hs; cases hs
      | succ d ih =>
        intro a h0 h1 s hs
        rcases List.mem_cons.1 hs with rfl | hs
        · omega
        · exact ih (a + 1) (by omega) (by omega) s hs
    exact key n.toNat _ (by omega) (by omega)
  have hall := impl_pagesOfBlock_ev h3.2.2 hr (by rw [upTo_length]; omega)
  rw [hA] at hall
  refine Ev.bind (impl_rightBlock_ev h3.1) (Ev.bind hall ?_)
  rw [upTo_length]
  rw [← hN] at hm ⊢
  rw [mx_comm ((n.toNat * u.toNat : Nat) : Int)] at hm ⊢
  exact impl_FirstBadPage_l0 (n.toNat * u.toNat) l hl (by omega) (mx (l.length : Int) ((n.toNat * u.toNat : Nat) : Int)).toNat 0 (by omega)
end Go.Proofs.YtjnacjdpggpiiaaDoor.PU
end
