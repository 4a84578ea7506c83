-- Gathered by this session's program wip/tool/shake.py out of its own texts and of what the kit's print and the session's patches of it wrote for this claim.
import Derived.Test.YtanokgpnmbbajabProg
import Derived.ArgAppend
import Derived.Below
import Derived.BigQuiet
import Derived.Deep.AppendLies
import Derived.Deep.CutBlock
import Derived.Deep.DeepCutAuto
import Derived.Deep.Draws
import Derived.Deep.LoopGhost
import Derived.Deep.OwnRows
import Derived.Deep.QuietTactic
import Derived.Deep.RegionHeld3
import Derived.KernelRfl
import Derived.Laws.BitsLemmas
import Derived.Laws.BytesArg
import Derived.Laws.IdiomCopy
import Derived.Laws.MakeOwn
import Derived.Laws.OwnMore
import Derived.Laws.Rows
import Derived.Laws.Slices
import Derived.Laws.StructEq
import Derived.Lib.AppendStr
import Derived.Lib.ConvBytes
import Derived.Maps.AppendAt
import Derived.OrdersHeld
import Derived.OwnWalk
import Derived.RowKit
import Derived.RowKit3
import Derived.Tactics
import Derived.WalkKit
import Derived.WideLaws
import Derived.Test.YtanokgpnmbbajabCFnPagesOfBlocks6
import Derived.Test.YtanokgpnmbbajabCFnPagesOfBlocks7
import Derived.Test.YtanokgpnmbbajabCFnPagesOfBlocks8
import Derived.Test.YtanokgpnmbbajabCFnPagesOfBlocks10
section
namespace Go.Proofs.Ytanokgpnmbbajab.PA
open Go.RowKit Go.Proofs.YtanokgpnmbbajabW.PrintWords Go.Proofs.YtanokgpnmbbajabB
theorem spec_l01In_eq (a b c : Int) : spec_l01In.f a b c = some (decide (b ≤ a ∧ a ≤ c)) := by
  unfold spec_l01In.f
  split <;> simp <;> omega
theorem impl_inRange_eq (a b c : Int) : impl_inRange.f a b c = some (decide (b ≤ a ∧ a ≤ c)) := by
  unfold impl_inRange.f
  split <;> simp <;> omega
end Go.Proofs.Ytanokgpnmbbajab.PA
end
section
namespace Go.Proofs.Ytanokgpnmbbajab.PA
open Go.RowKit Go.Proofs.YtanokgpnmbbajabW.PrintWords Go.Proofs.YtanokgpnmbbajabB
set_option linter.unusedVariables false
set_option linter.unusedSimpArgs false
def unitOk (u : Int) : Bool := decide (u = 4 ∨ u = 8 ∨ u = 16 ∨ u = 32 ∨ u = 64 ∨ u = 128)
theorem bits_unit : ∀ n : Nat, n < 129 → 4 ≤ n → ((Go.bits .and .i64 (n : Int) ((n : Int) - 1)) == 0) = unitOk n := by decide +kernel
theorem impl_IsUnit_eq (u : Int) : impl_IsUnit.f u = some (unitOk u) := by
  unfold impl_IsUnit.f
  simp only [impl_inRange_eq, Option.bind_some, decide_eq_true_eq]
  split
  · rename_i h
    obtain ⟨n, rfl⟩ := Int.eq_ofNat_of_zero_le (show 0 ≤ u by omega)
    rw [w64 (by omega) (by omega), bits_unit n (by omega) (by omega)]
  · simp [unitOk]; omega
theorem spec_IsUnit_ev (u : Int) : Ev (fun k => spec_IsUnit.f k u) (unitOk u) := by
  have h : spec_IsUnit.f 8 u = some (unitOk u) := by
    have w : ∀ n : Nat, n < 10 → wrap64 ((n : Int) + 1) = ((n + 1 : Nat) : Int) := by decide +kernel
    have w0 := w 0 (by omega)
    have w1 := w 1 (by omega)
    have w2 := w 2 (by omega)
    have w3 := w 3 (by omega)
    have w4 := w 4 (by omega)
    have w5 := w 5 (by omega)
    simp only [Int.natCast_zero] at w0 
    simp [spec_IsUnit.f, spec_l01Has.f, spec_l01Has.l0, unitOk, rd, wrap64]
    repeat' split
    all_goals (simp_all <;> omega)
  exact Ev.of (spec_IsUnit.mono u) h
theorem unitOk_iff {u : Int} (h : unitOk u = true) : 4 ≤ u ∧ u ≤ 128 := by
  simp only [unitOk, decide_eq_true_eq] at h; omega
end Go.Proofs.Ytanokgpnmbbajab.PA
end
section
namespace Go.Proofs.Ytanokgpnmbbajab.PA
open Go.RowKit Go.Proofs.YtanokgpnmbbajabW.PrintWords Go.Proofs.YtanokgpnmbbajabB
set_option linter.unusedVariables false
set_option linter.unusedSimpArgs false
def allWithin (n a b : Int) (l : List Int) : Bool := l.all (fun x => decide (a ≤ x ∧ x ≤ b)) && decide ((l.length : Int) ≤ n)
theorem spec_l01Within_l0 (l : List Int) (n a b : Int) (hl : l.length ≤ 9223372036854775806) : ∀ d i, i + d = l.length →
    Ev (fun k => spec_l01Within.l0 k l n a b (i : Int)) ((l.drop i).all (fun x => decide (a ≤ x ∧ x ≤ b)) && decide ((l.length : Int) ≤ n)) := by
  intro d
  induction d with
  | zero =>
    intro i hi
    refine Ev.succ ?_
    simp only [spec_l01Within.l0]
    refine Ev.neg (by omega) (Ev.eq ?_)
    have : l.drop i = [] := List.drop_eq_nil_of_le (by omega)
    rw [this]
    simp
  | succ d ih =>
    intro i hi
    rw [getD_drop l 0 i (by omega)]
    have e1 : wrap64 ((i : Int) + 1) = ((i + 1 : Nat) : Int) := by rw [w64 (by omega) (by omega)]; omega
    refine Ev.succ ?_
    simp only [spec_l01Within.l0, rd_nat, e1]
    generalize l.getD i 0 = x
    refine Ev.pos (by omega) (Ev.pos (by omega) (Ev.bind (Ev.eq (spec_l01In_eq _ _ _)) (Ev.ite (fun h => ?_) (fun h => Ev.eq ?_))))
    · refine (ih (i + 1) (by omega)).cast ?_
      rw [List.all_cons, h, Bool.true_and]
    · simp only [List.all_cons, Bool.eq_false_iff.2 h, Bool.false_and]
theorem spec_l01Within_ev {l : List Int} (hl : l.length ≤ 9223372036854775806) (n a b : Int) : Ev (fun k => spec_l01Within.f k l n a b) (allWithin n a b l) := by
  unfold spec_l01Within.f
  exact (spec_l01Within_l0 l n a b hl l.length 0 (by omega)).cast (by simp [allWithin])
end Go.Proofs.Ytanokgpnmbbajab.PA
end
section
namespace Go.Proofs.Ytanokgpnmbbajab.PA
open Go.RowKit Go.Proofs.YtanokgpnmbbajabW.PrintWords Go.Proofs.YtanokgpnmbbajabB
set_option linter.unusedVariables false
set_option linter.unusedSimpArgs false
def lineOk (n u : Int) : Bool := decide (1 ≤ n ∧ n ≤ 12) && unitOk u
theorem lineOk_iff {n u : Int} (h : lineOk n u = true) : (1 ≤ n ∧ n ≤ 12) ∧ unitOk u = true ∧ 4 ≤ u ∧ u ≤ 128 := by
  simp only [lineOk, Bool.and_eq_true, decide_eq_true_eq] at h
  exact ⟨h.1, h.2, unitOk_iff h.2⟩
theorem spec_l28Fits_ev (n u : Int) : Ev (fun k => spec_l28Fits.f k n u) (lineOk n u) := by
  unfold spec_l28Fits.f lineOk
  refine Ev.bind (Ev.eq (spec_l01In_eq _ _ _)) (Ev.ite (fun h => Ev.bind (spec_IsUnit_ev u) (Ev.eq ?_)) (fun h => Ev.eq ?_))
  · rw [h, Bool.true_and]
  · rw [Bool.eq_false_iff.2 h, Bool.false_and]
theorem impl_isLine_eq (n : Int) : impl_isLine.f n 0 = some (decide (1 ≤ n ∧ n ≤ 12)) := by
  unfold impl_isLine.f
  simp only [impl_inRange_eq, Option.bind_some]
  split
  · rename_i h; rw [h]; rfl
  · rename_i h; rw [Bool.eq_false_iff.2 h]
theorem spec_l14Line_eq (n : Int) : spec_l14Line.f n 0 = some (decide (1 ≤ n ∧ n ≤ 12)) := by
  unfold spec_l14Line.f
  simp only [spec_l01In_eq, Option.bind_some]
  split
  · rename_i h; rw [h]; rfl
  · rename_i h; rw [Bool.eq_false_iff.2 h]
theorem impl_isUnitLine_eq (n u : Int) : impl_isUnitLine.f n u = some (lineOk n u) := by
  unfold impl_isUnitLine.f lineOk
  rw [impl_isLine_eq, Option.bind_some]
  split
  · rename_i h; rw [impl_IsUnit_eq, h, Bool.true_and]; rfl
  · rename_i h; rw [Bool.eq_false_iff.2 h, Bool.false_and]
/-- Whether a list has a number. -/
def has (l : List Int) (x : Int) : Bool := l.any (fun y => decide (y = x))
theorem spec_l01Has_l0 (l : List Int) (x : Int) (hl : l.length ≤ 9223372036854775806) : ∀ d i, i + d = l.length → Ev (fun k => spec_l01Has.l0 k l x (i : Int)) (has (l.drop i) x) := by
  intro d
  induction d with
  | zero =>
    intro i hi
    refine Ev.succ ?_
    simp only [spec_l01Has.l0]
    have : l.drop i = [] := List.drop_eq_nil_of_le (by omega)
    rw [this]
    exact Ev.neg (by omega) (Ev.eq rfl)
  | succ d ih =>
    intro i hi
    rw [getD_drop l 0 i (by omega)]
    have e1 : wrap64 ((i : Int) + 1) = ((i + 1 : Nat) : Int) := by rw [w64 (by omega) (by omega)]; omega
    refine Ev.succ ?_
    simp only [spec_l01Has.l0, rd_nat, e1]
    generalize l.getD i 0 = y
    refine Ev.pos (by omega) (Ev.pos (by omega) (Ev.ite (fun h => Ev.eq ?_) (fun h => (ih (i + 1) (by omega)).cast ?_)))
    · simp [has, h]
    · simp only [has, List.any_cons, decide_eq_false h, Bool.false_or]
theorem spec_l01Has_ev {l : List Int} (hl : l.length ≤ 9223372036854775806) (x : Int) : Ev (fun k => spec_l01Has.f k l x) (has l x) := by
  unfold spec_l01Has.f
  exact (spec_l01Has_l0 l x hl l.length 0 (by omega)).cast (by simp)
theorem slices_Index_l0 (l : List Int) (x : Int) (hl : l.length ≤ 9223372036854775806) : ∀ d i, i + d = l.length → ∃ r, Ev (fun k => slices_Index_int64_int64.l0 k l x (l.length : Int) (i : Int)) r ∧ decide (r ≥ 0) = has (l.drop i) x := by
  intro d
  induction d with
  | zero =>
    intro i hi
    have : l.drop i = [] := List.drop_eq_nil_of_le (by omega)
    rw [this]
    refine ⟨-1, Ev.succ ?_, rfl⟩
    simp only [slices_Index_int64_int64.l0]
    exact Ev.neg (by omega) (Ev.eq rfl)
  | succ d ih =>
    intro i hi
    rw [getD_drop l 0 i (by omega)]
    have e1 : wrap64 ((i : Int) + 1) = ((i + 1 : Nat) : Int) := by rw [w64 (by omega) (by omega)]; omega
    obtain ⟨r, h1, h2⟩ := ih (i + 1) (by omega)
    by_cases h : x = l.getD i 0
    · refine ⟨(i : Int), Ev.succ ?_, ?_⟩
      · simp only [slices_Index_int64_int64.l0, rd_nat]
        exact Ev.pos (by omega) (Ev.pos (by omega) (Ev.pos (by omega) (Ev.pos h (Ev.eq rfl))))
      · have : (i : Int) ≥ 0 := by omega
        simp only [has, List.any_cons, h, decide_true, Bool.true_or, this]
    · refine ⟨r, Ev.succ ?_, ?_⟩
      · simp only [slices_Index_int64_int64.l0, rd_nat, e1]
        exact Ev.pos (by omega) (Ev.pos (by omega) (Ev.pos (by omega) (Ev.neg h h1)))
      · have h' : ¬ l.getD i 0 = x := fun e => h e.symm
        rw [h2]
        simp only [has, List.any_cons, decide_eq_false h', Bool.false_or]
theorem slices_Contains_ev {l : List Int} (hl : l.length ≤ 9223372036854775806) (x : Int) : Ev (fun k => slices_Contains_int64_int64.f k l x) (has l x) := by
  obtain ⟨r, h1, h2⟩ := slices_Index_l0 l x hl l.length 0 (by omega)
  unfold slices_Contains_int64_int64.f
  refine Ev.bind (a := r) ?_ (Ev.eq (by rw [h2]; simp))
  unfold slices_Index_int64_int64.f
  exact h1
/-- A block fits a line. -/
def fitsB (n : Int) (l : List Int) : Bool := l.all (fun x => decide (-n ≤ x ∧ x ≤ n)) && decide ((l.length : Int) ≤ 2 * n) && !has l 0
theorem spec_l14Fits_ev {n : Int} {l : List Int} (hn : 1 ≤ n ∧ n ≤ 12) (hl : l.length ≤ 9223372036854775806) : Ev (fun k => spec_l14Fits.f k n l) (fitsB n l) := by
  unfold spec_l14Fits.f fitsB
  rw [w64 (x := -n) (by omega) (by omega), w64 (x := 2 * n) (by omega) (by omega)]
  refine Ev.bind (Ev.eq (spec_l14Line_eq n)) (Ev.pos (by simpa using hn) (Ev.bind (spec_l01Within_ev hl _ _ _) (Ev.ite (fun h => Ev.ite (fun h2 => Ev.bind (spec_l01Has_ev hl 0) (Ev.eq ?_)) (fun h2 => Ev.eq ?_)) (fun h => Ev.eq ?_))))
  · unfold allWithin at h
    simp only [Bool.and_eq_true] at h
    rw [h.1, decide_eq_true h2, Bool.true_and, Bool.true_and]
  · simp [h2]
  · unfold allWithin at h
    cases ha : l.all (fun x => decide (-n ≤ x ∧ x ≤ n)) with
    | false => rfl
    | true =>
      rw [ha, Bool.true_and, decide_eq_true_eq] at h
      have : ¬ (l.length : Int) ≤ 2 * n := by omega
      simp [this]
theorem impl_isBlock_ev {n : Int} {l : List Int} (hn : 1 ≤ n ∧ n ≤ 12) (hl : l.length ≤ 9223372036854775806) : Ev (fun k => impl_isBlock.f k n l) (fitsB n l) := by
  unfold impl_isBlock.f fitsB
  rw [w64 (x := -n) (by omega) (by omega), w64 (x := 2 * n) (by omega) (by omega)]
  refine Ev.bind (Ev.eq (impl_isLine_eq n)) (Ev.pos (by simpa using hn) (Ev.bind (a := (l.length : Int)) (Ev.eq rfl) (Ev.ite (fun h => Ev.bind (a := l.all (fun x => decide (-n ≤ x ∧ x ≤ n))) (Ev.eq rfl) (Ev.ite (fun h2 => Ev.bind (slices_Contains_ev hl 0) (Ev.eq ?_)) (fun h2 => Ev.eq ?_))) (fun h => Ev.eq ?_))))
  · rw [h2, decide_eq_true h, Bool.true_and, Bool.true_and]
  · rw [Bool.eq_false_iff.2 h2, Bool.false_and, Bool.false_and]
  · simp [h]
theorem fitsB_iff {n : Int} {l : List Int} (h : fitsB n l = true) : (∀ x ∈ l, -n ≤ x ∧ x ≤ n ∧ x ≠ 0) ∧ (l.length : Int) ≤ 2 * n := by
  simp only [fitsB, has, Bool.and_eq_true, Bool.not_eq_true', decide_eq_true_eq, List.all_eq_true, List.any_eq_false] at h
  exact ⟨fun x hx => ⟨(h.1.1 x hx).1, (h.1.1 x hx).2, h.2 x hx⟩, h.1.2⟩
/-- The pages of a signature, from one place on. -/
def pg (u s : Int) (j : Int) : Int := if s > 0 then (s - 1) * u + j + 1 else s * u + j
def pgs (u s : Int) : Nat → Nat → List Int
  | 0, _ => []
  | d + 1, j => pg u s (j : Int) :: pgs u s d (j + 1)
theorem pgs_length (u s : Int) : ∀ d j, (pgs u s d j).length = d
  | 0, _ => rfl
  | d + 1, j => by simp [pgs, pgs_length u s d]
def allPages (u : Int) : List Int → List Int
  | [] => []
  | s :: ss => pgs u s u.toNat 0 ++ allPages u ss
theorem allPages_length (u : Int) : ∀ l : List Int, (allPages u l).length = l.length * u.toNat
  | [] => by simp [allPages]
  | s :: ss => by simp [allPages, pgs_length, allPages_length u ss, Nat.succ_mul, Nat.add_comm]
theorem mulB {x u : Int} (h1 : -13 ≤ x) (h2 : x ≤ 12) (h3 : 0 ≤ u) (h4 : u ≤ 128) : -1664 ≤ x * u ∧ x * u ≤ 1536 := by
  have a := Int.mul_le_mul_of_nonneg_right h1 h3
  have b := Int.mul_le_mul_of_nonneg_right h2 h3
  omega
theorem spec_l28Pages_l0 (u s : Int) (hu : 4 ≤ u ∧ u ≤ 128) (hs : -12 ≤ s ∧ s ≤ 12) : ∀ d j : Nat, (j : Int) + d = u → ∀ o : List Int, o.length ≤ j →
    Ev (fun k => spec_l28Pages.l0 k u s o ((j : Int) + 1)) (o ++ pgs u s d j) := by
  have m1 := mulB (x := s - 1) (u := u) (by omega) (by omega) (by omega) (by omega)
  have m2 := mulB (x := s) (u := u) (by omega) (by omega) (by omega) (by omega)
  intro d
  induction d with
  | zero =>
    intro j hj o ho
    refine Ev.succ ?_
    simp only [spec_l28Pages.l0]
    exact Ev.neg (by omega) (Ev.eq (by simp [pgs]))
  | succ d ih =>
    intro j hj o ho
    have h3 := ih (j + 1) (by omega)
    have e1 : wrap64 ((j : Int) + 1 + 1) = ((j + 1 : Nat) : Int) + 1 := by rw [w64 (by omega) (by omega)]; omega
    refine Ev.succ ?_
    simp only [spec_l28Pages.l0, e1]
    rw [w64 (x := s - 1) (by omega) (by omega), w64 (x := (s - 1) * u) (by omega) (by omega), w64 (x := s * u) (by omega) (by omega), w64 (x := (s - 1) * u + ((j : Int) + 1)) (by omega) (by omega), w64 (x := s * u + ((j : Int) + 1)) (by omega) (by omega), w64 (x := s * u + ((j : Int) + 1) - 1) (by omega) (by omega)]
    refine Ev.pos (by omega) (Ev.ite (fun h => Ev.pos (by omega) ?_) (fun h => Ev.pos (by omega) ?_))
    · refine (h3 _ (by simp; omega)).cast ?_
      simp only [pgs, pg, if_pos h, List.append_assoc, List.cons_append, List.nil_append]
      congr 2; omega
    · refine (h3 _ (by simp; omega)).cast ?_
      simp only [pgs, pg, if_neg h, List.append_assoc, List.cons_append, List.nil_append]
      congr 2; omega
theorem impl_pagesOf_l0 (u s : Int) (hu : 4 ≤ u ∧ u ≤ 128) (hs : -12 ≤ s ∧ s ≤ 12) : ∀ d j : Nat, (j : Int) + d = u → ∀ o : List Int, o.length ≤ j →
    Ev (fun k => impl_pagesOf.l0 k u s o u (j : Int)) (o ++ pgs u s d j) := by
  have m1 := mulB (x := s - 1) (u := u) (by omega) (by omega) (by omega) (by omega)
  have m2 := mulB (x := s) (u := u) (by omega) (by omega) (by omega) (by omega)
  intro d
  induction d with
  | zero =>
    intro j hj o ho
    refine Ev.succ ?_
    simp only [impl_pagesOf.l0]
    exact Ev.neg (by omega) (Ev.eq (by simp [pgs]))
  | succ d ih =>
    intro j hj o ho
    have h3 := ih (j + 1) (by omega)
    have e1 : wrap64 ((j : Int) + 1) = ((j + 1 : Nat) : Int) := by rw [w64 (by omega) (by omega)]; omega
    refine Ev.succ ?_
    simp only [impl_pagesOf.l0, e1]
    rw [w64 (x := s - 1) (by omega) (by omega), w64 (x := (s - 1) * u) (by omega) (by omega), w64 (x := s * u) (by omega) (by omega), w64 (x := (s - 1) * u + (j : Int)) (by omega) (by omega), w64 (x := (s - 1) * u + (j : Int) + 1) (by omega) (by omega), w64 (x := s * u + (j : Int)) (by omega) (by omega)]
    refine Ev.pos (by omega) (Ev.ite (fun h => Ev.pos (by omega) ?_) (fun h => Ev.pos (by omega) ?_))
    · refine (h3 _ (by simp; omega)).cast ?_
      simp only [pgs, pg, if_pos h, List.append_assoc, List.cons_append, List.nil_append]
    · refine (h3 _ (by simp; omega)).cast ?_
      simp only [pgs, pg, if_neg h, List.append_assoc, List.cons_append, List.nil_append]
theorem spec_l28Pages_ev {u s : Int} (hu : 4 ≤ u ∧ u ≤ 128) (hs : -12 ≤ s ∧ s ≤ 12) : Ev (fun k => spec_l28Pages.f k u s) (pgs u s u.toNat 0) := by
  unfold spec_l28Pages.f
  exact (spec_l28Pages_l0 u s hu hs u.toNat 0 (by omega) [] (by simp)).cast (by simp)
theorem impl_pagesOf_ev {u s : Int} (hu : 4 ≤ u ∧ u ≤ 128) (hs : -12 ≤ s ∧ s ≤ 12) : Ev (fun k => impl_pagesOf.f k u s) (pgs u s u.toNat 0) := by
  unfold impl_pagesOf.f
  exact (impl_pagesOf_l0 u s hu hs u.toNat 0 (by omega) [] (by simp)).cast (by simp)
theorem spec_l28All_l0 (u : Int) (l : List Int) (hu : 4 ≤ u ∧ u ≤ 128) (hs : ∀ s ∈ l, -12 ≤ s ∧ s ≤ 12) (hl : l.length ≤ 24) : ∀ d i, i + d = l.length → ∀ o : List Int, o.length ≤ 128 * i →
    Ev (fun k => spec_l28All.l0 k u l o (i : Int)) (o ++ allPages u (l.drop i)) := by
  intro d
  induction d with
  | zero =>
    intro i hi o ho
    refine Ev.succ ?_
    simp only [spec_l28All.l0]
    have : l.drop i = [] := List.drop_eq_nil_of_le (by omega)
    rw [this]
    exact Ev.neg (by omega) (Ev.eq (by simp [allPages]))
  | succ d ih =>
    intro i hi o ho
    rw [getD_drop l 0 i (by omega)]
    have hx := hs _ (getD_mem l 0 i (by omega))
    have e1 : wrap64 ((i : Int) + 1) = ((i + 1 : Nat) : Int) := by rw [w64 (by omega) (by omega)]; omega
    refine Ev.succ ?_
    simp only [spec_l28All.l0, rd_nat, e1]
    generalize l.getD i 0 = x at hx ⊢
    have hp := pgs_length u x u.toNat 0
    refine Ev.pos (by omega) (Ev.pos (by omega) (Ev.bind (spec_l28Pages_ev hu hx) (Ev.pos (by omega) ?_)))
    refine (ih (i + 1) (by omega) _ (by rw [List.length_append]; omega)).cast ?_
    simp only [allPages, List.append_assoc]
theorem impl_pagesOfBlock_l0 (u : Int) (l : List Int) (hu : 4 ≤ u ∧ u ≤ 128) (hs : ∀ s ∈ l, -12 ≤ s ∧ s ≤ 12) (hl : l.length ≤ 24) : ∀ d i, i + d = l.length → ∀ o : List Int, o.length ≤ 128 * i →
    Ev (fun k => impl_pagesOfBlock.l0 k u o l (l.length : Int) (i : Int)) (o ++ allPages u (l.drop i)) := by
  intro d
  induction d with
  | zero =>
    intro i hi o ho
    refine Ev.succ ?_
    simp only [impl_pagesOfBlock.l0]
    have : l.drop i = [] := List.drop_eq_nil_of_le (by omega)
    rw [this]
    exact Ev.neg (by omega) (Ev.eq (by simp [allPages]))
  | succ d ih =>
    intro i hi o ho
    rw [getD_drop l 0 i (by omega)]
    have hx := hs _ (getD_mem l 0 i (by omega))
    have e1 : wrap64 ((i : Int) + 1) = ((i + 1 : Nat) : Int) := by rw [w64 (by omega) (by omega)]; omega
    refine Ev.succ ?_
    simp only [impl_pagesOfBlock.l0, rd_nat, e1]
    generalize l.getD i 0 = x at hx ⊢
    have hp := pgs_length u x u.toNat 0
    refine Ev.pos (by omega) (Ev.pos (by omega) (Ev.pos (by omega) (Ev.bind (impl_pagesOf_ev hu hx) (Ev.pos (by omega) ?_))))
    refine (ih (i + 1) (by omega) _ (by rw [List.length_append]; omega)).cast ?_
    simp only [allPages, List.append_assoc]
theorem spec_l28All_ev {u : Int} {l : List Int} (hu : 4 ≤ u ∧ u ≤ 128) (hs : ∀ s ∈ l, -12 ≤ s ∧ s ≤ 12) (hl : l.length ≤ 24) : Ev (fun k => spec_l28All.f k u l) (allPages u l) := by
  unfold spec_l28All.f
  exact (spec_l28All_l0 u l hu hs hl l.length 0 (by omega) [] (by simp)).cast (by simp)
theorem impl_pagesOfBlock_ev {u : Int} {l : List Int} (hu : 4 ≤ u ∧ u ≤ 128) (hs : ∀ s ∈ l, -12 ≤ s ∧ s ≤ 12) (hl : l.length ≤ 24) : Ev (fun k => impl_pagesOfBlock.f k u l) (allPages u l) := by
  unfold impl_pagesOfBlock.f
  exact (impl_pagesOfBlock_l0 u l hu hs hl l.length 0 (by omega) [] (by simp)).cast (by simp)
end Go.Proofs.Ytanokgpnmbbajab.PA
end
section
namespace Go.Proofs.Ytanokgpnmbbajab.PA
open Go.RowKit Go.Proofs.YtanokgpnmbbajabW.PrintWords Go.Proofs.YtanokgpnmbbajabB
set_option linter.unusedVariables false
set_option linter.unusedSimpArgs false
/-- Two lists are the same from a place on. -/
theorem spec_l01Same_l0 (l m : List Int) (hl : l.length ≤ 9223372036854775806) (he : l.length = m.length) : ∀ d i, i + d = l.length → Ev (fun k => spec_l01Same.l0 k l m (i : Int)) (decide (l.drop i = m.drop i)) := by
  intro d
  induction d with
  | zero =>
    intro i hi
    refine Ev.succ ?_
    simp only [spec_l01Same.l0]
    have h1 : l.drop i = [] := List.drop_eq_nil_of_le (by omega)
    have h2 : m.drop i = [] := List.drop_eq_nil_of_le (by omega)
    rw [h1, h2]
    exact Ev.neg (by omega) (Ev.eq rfl)
  | succ d ih =>
    intro i hi
    rw [getD_drop l 0 i (by omega), getD_drop m 0 i (by omega)]
    have e1 : wrap64 ((i : Int) + 1) = ((i + 1 : Nat) : Int) := by rw [w64 (by omega) (by omega)]; omega
    refine Ev.succ ?_
    simp only [spec_l01Same.l0, rd_nat, e1]
    generalize l.getD i 0 = y
    generalize m.getD i 0 = z
    refine Ev.pos (by omega) (Ev.pos (by omega) (Ev.pos (by omega) (Ev.ite (fun h => (ih (i + 1) (by omega)).cast ?_) (fun h => Ev.eq ?_))))
    · simp [h]
    · simp [h]
theorem spec_l01Same_ev {l m : List Int} (hl : l.length ≤ 9223372036854775806) : Ev (fun k => spec_l01Same.f k l m) (decide (l = m)) := by
  unfold spec_l01Same.f
  refine Ev.ite (fun h => (spec_l01Same_l0 l m hl (by omega) l.length 0 (by omega)).cast (by simp)) (fun h => Ev.eq ?_)
  have : ¬ l = m := fun e => h (by rw [e])
  simp [this]
theorem slices_Equal_l0 (l m : List Int) (hl : l.length ≤ 9223372036854775806) (he : l.length = m.length) : ∀ d i, i + d = l.length → Ev (fun k => slices_Equal_int64_int64.l0 k l m (l.length : Int) (i : Int)) (decide (l.drop i = m.drop i)) := by
  intro d
  induction d with
  | zero =>
    intro i hi
    refine Ev.succ ?_
    simp only [slices_Equal_int64_int64.l0]
    have h1 : l.drop i = [] := List.drop_eq_nil_of_le (by omega)
    have h2 : m.drop i = [] := List.drop_eq_nil_of_le (by omega)
    rw [h1, h2]
    exact Ev.neg (by omega) (Ev.eq rfl)
  | succ d ih =>
    intro i hi
    rw [getD_drop l 0 i (by omega), getD_drop m 0 i (by omega)]
    have e1 : wrap64 ((i : Int) + 1) = ((i + 1 : Nat) : Int) := by rw [w64 (by omega) (by omega)]; omega
    refine Ev.succ ?_
    simp only [slices_Equal_int64_int64.l0, rd_nat, e1]
    generalize l.getD i 0 = y
    generalize m.getD i 0 = z
    refine Ev.pos (by omega) (Ev.pos (by omega) (Ev.pos (by omega) (Ev.pos (by omega) (Ev.ite (fun h => (ih (i + 1) (by omega)).cast ?_) (fun h => Ev.eq ?_)))))
    · simp [h]
    · simp [h]
theorem slices_Equal_ev {l m : List Int} (hl : l.length ≤ 9223372036854775806) : Ev (fun k => slices_Equal_int64_int64.f k l m) (decide (l = m)) := by
  unfold slices_Equal_int64_int64.f
  refine Ev.ite (fun h => (slices_Equal_l0 l m hl (by omega) l.length 0 (by omega)).cast (by simp)) (fun h => Ev.eq ?_)
  have : ¬ l = m := fun e => h (by rw [e])
  simp [this]
/-- What each program takes a page for: the signature whose first page it is. -/
def sigS (n u p : Int) : Int :=
  if decide (1 ≤ p ∧ p ≤ wrap64 (n * u)) = true then
    (if decide (1 ≤ wrap64 (-p) ∧ wrap64 (-p) ≤ wrap64 (n * u)) = true then wrap64 (-(wrap64 ((wrap64 (Int.tdiv (wrap64 ((wrap64 (-p)) - 1)) u)) + 1))) else wrap64 ((wrap64 (Int.tdiv (wrap64 (p - 1)) u)) + 1))
  else (if decide (1 ≤ wrap64 (-p) ∧ wrap64 (-p) ≤ wrap64 (n * u)) = true then wrap64 (-(wrap64 ((wrap64 (Int.tdiv (wrap64 ((wrap64 (-p)) - 1)) u)) + 1))) else 0)
def sigI (u p : Int) : Int := if p < 0 then wrap64 (Int.tdiv p u) else wrap64 ((wrap64 (Int.tdiv (wrap64 (p - 1)) u)) + 1)
theorem sigS_tab : ∀ u ∈ [4, 8, 16, 32, 64, 128], ∀ n : Nat, n < 13 → ∀ s : Nat, s < 13 → 1 ≤ s → s ≤ n → sigS (n : Int) u (pg u (s : Int) 0) = (s : Int) ∧ sigS (n : Int) u (pg u (-(s : Int)) 0) = -(s : Int) := by decide +kernel
theorem sigI_tab : ∀ u ∈ [4, 8, 16, 32, 64, 128], ∀ s : Nat, s < 13 → 1 ≤ s → sigI u (pg u (s : Int) 0) = (s : Int) ∧ sigI u (pg u (-(s : Int)) 0) = -(s : Int) := by decide +kernel
theorem unitOk_mem {u : Int} (h : unitOk u = true) : u ∈ [4, 8, 16, 32, 64, 128] := by
  simp only [unitOk, decide_eq_true_eq] at h
  simp only [List.mem_cons, List.not_mem_nil, or_false]
  exact h
theorem sigS_pg {n u s : Int} (hu : unitOk u = true) (hn : 1 ≤ n ∧ n ≤ 12) (hs : -n ≤ s ∧ s ≤ n ∧ s ≠ 0) : sigS n u (pg u s 0) = s := by
  obtain ⟨m, rfl⟩ := Int.eq_ofNat_of_zero_le (show 0 ≤ n by omega)
  by_cases h : 0 ≤ s
  · obtain ⟨t, rfl⟩ := Int.eq_ofNat_of_zero_le h
    exact (sigS_tab u (unitOk_mem hu) m (by omega) t (by omega) (by omega) (by omega)).1
  · obtain ⟨t, ht⟩ := Int.eq_ofNat_of_zero_le (show 0 ≤ -s by omega)
    have e : s = -(t : Int) := by omega
    rw [e]
    exact (sigS_tab u (unitOk_mem hu) m (by omega) t (by omega) (by omega) (by omega)).2
theorem sigI_pg {n u s : Int} (hu : unitOk u = true) (hn : 1 ≤ n ∧ n ≤ 12) (hs : -n ≤ s ∧ s ≤ n ∧ s ≠ 0) : sigI u (pg u s 0) = s := by
  by_cases h : 0 ≤ s
  · obtain ⟨t, rfl⟩ := Int.eq_ofNat_of_zero_le h
    exact (sigI_tab u (unitOk_mem hu) t (by omega) (by omega)).1
  · obtain ⟨t, ht⟩ := Int.eq_ofNat_of_zero_le (show 0 ≤ -s by omega)
    have e : s = -(t : Int) := by omega
    rw [e]
    exact (sigI_tab u (unitOk_mem hu) t (by omega) (by omega)).2
/-- The elements of a list at every U-th place, told by a function. -/
def strides (U : Nat) (f : Int → Int) : Nat → List Int → List Int
  | 0, _ => []
  | _ + 1, [] => []
  | d + 1, x :: xs => f x :: strides U f d ((x :: xs).drop U)
theorem strides_length (U : Nat) (f : Int → Int) : ∀ (d : Nat) (l : List Int), (strides U f d l).length ≤ d
  | 0, _ => by simp [strides]
  | _ + 1, [] => by simp [strides]
  | d + 1, x :: xs => by simpa [strides] using strides_length U f d ((x :: xs).drop U)
theorem strides_pages (u : Int) (f : Int → Int) (hu : 4 ≤ u) : ∀ (B : List Int), (∀ s ∈ B, f (pg u s 0) = s) → ∀ d, B.length ≤ d → strides u.toNat f d (allPages u B) = B
  | [], _, d, _ => by cases d <;> simp [strides, allPages]
  | s :: B, h, d, hd => by
    simp only [List.length_cons] at hd
    obtain ⟨d, rfl⟩ : ∃ e, d = e + 1 := ⟨d - 1, by omega⟩
    obtain ⟨U, hU⟩ : ∃ U, u.toNat = U + 1 := ⟨u.toNat - 1, by omega⟩
    have e1 : allPages u (s :: B) = pg u s 0 :: (pgs u s U 1 ++ allPages u B) := by
      simp only [allPages, hU, pgs, List.cons_append]; rfl
    have e2 : (allPages u (s :: B)).drop u.toNat = allPages u B := by
      simp only [allPages]
      exact List.drop_left' (pgs_length u s u.toNat 0)
    rw [e1] at e2 ⊢
    simp only [strides]
    rw [e2, strides_pages u f hu B (fun x hx => h x (List.mem_cons_of_mem _ hx)) d (by omega), h s (List.mem_cons_self ..)]
/-- A block is that of some pages. -/
def good (n u : Int) (l B : List Int) : Bool := fitsB n B && decide (allPages u B = l)
def blockS (n u : Int) (l : List Int) : List Int := strides u.toNat (sigS n u) l.length l
def blockI (u : Int) (l : List Int) : List Int := strides u.toNat (sigI u) l.length l
theorem good_len {n u : Int} {l B : List Int} (hn : 1 ≤ n ∧ n ≤ 12) (hu : unitOk u = true) (h : good n u l B = true) : blockS n u l = B ∧ blockI u l = B ∧ Int.tmod (l.length : Int) u = 0 ∧ (l.length : Int) ≤ 2 * n * u := by
  simp only [good, Bool.and_eq_true, decide_eq_true_eq] at h
  have hf := fitsB_iff h.1
  have h4 := unitOk_iff hu
  have hlen := allPages_length u B
  obtain ⟨-, rfl⟩ := h
  have hB : B.length ≤ (allPages u B).length := by
    rw [hlen]; exact Nat.le_mul_of_pos_right _ (by omega)
  refine ⟨strides_pages u _ h4.1 B (fun s hs => sigS_pg hu hn (hf.1 s hs)) _ hB, strides_pages u _ h4.1 B (fun s hs => sigI_pg hu hn (hf.1 s hs)) _ hB, ?_, ?_⟩
  · rw [hlen, Int.natCast_mul, Int.toNat_of_nonneg (by omega)]; simp
  · rw [hlen, Int.natCast_mul, Int.toNat_of_nonneg (by omega)]
    exact Int.mul_le_mul_of_nonneg_right hf.2 (by omega)
/-- The block of some pages, or a code. -/
def blockOfP (n u : Int) (l : List Int) : List Int × Int := if lineOk n u = true then (if good n u l (blockS n u l) = true then (blockS n u l, 0) else ([], 4)) else ([], 2)
theorem good_iff {n u : Int} {l : List Int} (hn : 1 ≤ n ∧ n ≤ 12) (hu : unitOk u = true) : good n u l (blockI u l) = true ↔ good n u l (blockS n u l) = true := by
  constructor
  · intro h
    rw [(good_len hn hu h).1]; exact h
  · intro h
    rw [(good_len hn hu h).2.1]; exact h
theorem spec_l28Block_end {n u : Int} {l B : List Int} (hn : 1 ≤ n ∧ n ≤ 12) (hu : unitOk u = true) (hl : B.length ≤ 1048576) :
    Ev (fun k => (spec_l14Fits.f k n B).bind fun t357 => (if t357 = true then ((spec_l28All.f k u B).bind fun t358 => ((spec_l01Same.f k t358 l).bind fun t361 => (if t361 = true then (some (B, (0 : Int))) else (some (([] : List Int), 4))))) else (some (([] : List Int), 4)))) (if good n u l B = true then (B, 0) else ([], 4)) := by
  refine Ev.bind (spec_l14Fits_ev hn (by omega)) (Ev.ite (fun h => ?_) (fun h => Ev.eq ?_))
  · have hf := fitsB_iff h
    have h4 := unitOk_iff hu
    have hlen := allPages_length u B
    have hb : B.length * u.toNat ≤ 24 * 128 := Nat.mul_le_mul (by omega) (by omega)
    refine Ev.bind (spec_l28All_ev h4 (fun s hs => by have := hf.1 s hs; omega) (by omega)) (Ev.bind (spec_l01Same_ev (by omega)) (Ev.ite (fun h2 => Ev.eq ?_) (fun h2 => Ev.eq ?_)))
    · rw [if_pos (by rw [good, h, h2]; rfl)]
    · rw [if_neg (by rw [good, h, Bool.true_and]; exact h2)]
  · rw [if_neg (by rw [good, Bool.eq_false_iff.2 h, Bool.false_and]; simp)]
theorem impl_blockOfPages_end {n u : Int} {l B : List Int} (hn : 1 ≤ n ∧ n ≤ 12) (hu : unitOk u = true) (hl : B.length ≤ 1048576) :
    Ev (fun k => (impl_isBlock.f k n B).bind fun t357 => (if t357 = true then ((impl_pagesOfBlock.f k u B).bind fun t358 => ((slices_Equal_int64_int64.f k t358 l).bind fun t361 => (if t361 = true then (some (B, (0 : Int))) else (some (([] : List Int), 4))))) else (some (([] : List Int), 4)))) (if good n u l B = true then (B, 0) else ([], 4)) := by
  refine Ev.bind (impl_isBlock_ev hn (by omega)) (Ev.ite (fun h => ?_) (fun h => Ev.eq ?_))
  · have hf := fitsB_iff h
    have h4 := unitOk_iff hu
    have hlen := allPages_length u B
    have hb : B.length * u.toNat ≤ 24 * 128 := Nat.mul_le_mul (by omega) (by omega)
    refine Ev.bind (impl_pagesOfBlock_ev h4 (fun s hs => by have := hf.1 s hs; omega) (by omega)) (Ev.bind (slices_Equal_ev (by omega)) (Ev.ite (fun h2 => Ev.eq ?_) (fun h2 => Ev.eq ?_)))
    · rw [if_pos (by rw [good, h, h2]; rfl)]
    · rw [if_neg (by rw [good, h, Bool.true_and]; exact h2)]
  · rw [if_neg (by rw [good, Bool.eq_false_iff.2 h, Bool.false_and]; simp)]
theorem drop_strides {l : List Int} {U i d : Nat} (f : Int → Int) (hU : 1 ≤ U) (h : i < l.length) : strides U f (d + 1) (l.drop i) = f (l.getD i 0) :: strides U f d (l.drop (i + U)) := by
  have e : l.drop (i + U) = (l.drop i).drop U := by rw [List.drop_drop]
  rw [e, getD_drop l 0 i h]
  simp only [strides]
theorem spec_l28Block_l0 (n u : Int) (l : List Int) (hn : 1 ≤ n ∧ n ≤ 12) (hu : unitOk u = true) (hl : l.length ≤ 1048576) : ∀ d i, l.length ≤ i + d → i ≤ 1048576 + 128 → ∀ o : List Int, o.length + d ≤ l.length →
    Ev (fun k => spec_l28Block.l0 k n u l o (i : Int)) (if good n u l (o ++ strides u.toNat (sigS n u) d (l.drop i)) = true then (o ++ strides u.toNat (sigS n u) d (l.drop i), 0) else ([], 4)) := by
  have h4 := unitOk_iff hu
  intro d
  induction d with
  | zero =>
    intro i hi hi2 o ho
    refine Ev.succ ?_
    simp only [spec_l28Block.l0]
    refine Ev.neg (by omega) ?_
    simp only [strides, List.append_nil]
    exact spec_l28Block_end hn hu (by omega)
  | succ d ih =>
    intro i hi hi2 o ho
    by_cases h : i < l.length
    · rw [drop_strides (sigS n u) (by omega) h]
      have e1 : wrap64 ((i : Int) + u) = ((i + u.toNat : Nat) : Int) := by rw [w64 (by omega) (by omega)]; omega
      have h3 := ih (i + u.toNat) (by omega) (by omega) (o ++ [sigS n u (l.getD i 0)]) (by simp; omega)
      rw [List.append_assoc, List.singleton_append] at h3
      refine Ev.succ ?_
      simp only [spec_l28Block.l0, rd_nat, e1]
      generalize hx : l.getD i 0 = x at h3 ⊢
      refine Ev.pos (by omega) (Ev.pos (by omega) (Ev.bind (Ev.eq (spec_l01In_eq _ _ _)) (Ev.ite (fun c1 => Ev.neg (by omega) (Ev.bind (Ev.eq (spec_l01In_eq _ _ _)) (Ev.ite (fun c2 => Ev.pos (by omega) ?_) (fun c2 => Ev.pos (by omega) ?_)))) (fun c1 => Ev.bind (Ev.eq (spec_l01In_eq _ _ _)) (Ev.ite (fun c2 => Ev.neg (by omega) (Ev.pos (by omega) ?_)) (fun c2 => Ev.pos (by omega) ?_))))))
      · have e : sigS n u x = wrap64 (-(wrap64 ((wrap64 (Int.tdiv (wrap64 ((wrap64 (-x)) - 1)) u)) + 1))) := by rw [sigS, if_pos c1, if_pos c2]
        rw [e] at h3 ⊢
        exact h3
      · have e : sigS n u x = wrap64 ((wrap64 (Int.tdiv (wrap64 (x - 1)) u)) + 1) := by rw [sigS, if_pos c1, if_neg c2]
        rw [e] at h3 ⊢
        exact h3
      · have e : sigS n u x = wrap64 (-(wrap64 ((wrap64 (Int.tdiv (wrap64 ((wrap64 (-x)) - 1)) u)) + 1))) := by rw [sigS, if_neg c1, if_pos c2]
        rw [e] at h3 ⊢
        exact h3
      · have e : sigS n u x = 0 := by rw [sigS, if_neg c1, if_neg c2]
        rw [e] at h3 ⊢
        exact h3
    · have e : l.drop i = [] := List.drop_eq_nil_of_le (by omega)
      rw [e]
      refine Ev.succ ?_
      simp only [spec_l28Block.l0]
      refine Ev.neg (by omega) ?_
      simp only [strides, List.append_nil]
      exact spec_l28Block_end hn hu (by omega)
theorem impl_blockOfPages_l0 (n u : Int) (l : List Int) (hn : 1 ≤ n ∧ n ≤ 12) (hu : unitOk u = true) (hl : l.length ≤ 1048576) : ∀ d i, l.length ≤ i + d → i ≤ 1048576 + 128 → ∀ o : List Int, o.length + d ≤ l.length →
    Ev (fun k => impl_blockOfPages.l0 k n u l o (i : Int)) (if good n u l (o ++ strides u.toNat (sigI u) d (l.drop i)) = true then (o ++ strides u.toNat (sigI u) d (l.drop i), 0) else ([], 4)) := by
  have h4 := unitOk_iff hu
  intro d
  induction d with
  | zero =>
    intro i hi hi2 o ho
    refine Ev.succ ?_
    simp only [impl_blockOfPages.l0]
    refine Ev.neg (by omega) ?_
    simp only [strides, List.append_nil]
    exact impl_blockOfPages_end hn hu (by omega)
  | succ d ih =>
    intro i hi hi2 o ho
    by_cases h : i < l.length
    · rw [drop_strides (sigI u) (by omega) h]
      have e1 : wrap64 ((i : Int) + u) = ((i + u.toNat : Nat) : Int) := by rw [w64 (by omega) (by omega)]; omega
      have h3 := ih (i + u.toNat) (by omega) (by omega) (o ++ [sigI u (l.getD i 0)]) (by simp; omega)
      rw [List.append_assoc, List.singleton_append] at h3
      refine Ev.succ ?_
      simp only [impl_blockOfPages.l0, rd_nat, e1]
      generalize hx : l.getD i 0 = x at h3 ⊢
      refine Ev.pos (by omega) (Ev.pos (by omega) (Ev.neg (by omega) (Ev.ite (fun c1 => Ev.pos (by omega) ?_) (fun c1 => Ev.pos (by omega) ?_))))
      · have e : sigI u x = wrap64 (Int.tdiv x u) := by rw [sigI, if_pos c1]
        rw [e] at h3 ⊢
        exact h3
      · have e : sigI u x = wrap64 ((wrap64 (Int.tdiv (wrap64 (x - 1)) u)) + 1) := by rw [sigI, if_neg c1]
        rw [e] at h3 ⊢
        exact h3
    · have e : l.drop i = [] := List.drop_eq_nil_of_le (by omega)
      rw [e]
      refine Ev.succ ?_
      simp only [impl_blockOfPages.l0]
      refine Ev.neg (by omega) ?_
      simp only [strides, List.append_nil]
      exact impl_blockOfPages_end hn hu (by omega)
theorem spec_l28Block_ev (n u : Int) {l : List Int} (hl : l.length ≤ 1048576) : Ev (fun k => spec_l28Block.f k n u l) (blockOfP n u l) := by
  unfold spec_l28Block.f blockOfP
  refine Ev.bind (spec_l28Fits_ev n u) (Ev.ite (fun h => ?_) (fun h => Ev.eq (by rw [if_neg h])))
  rw [if_pos h]
  have h2 := lineOk_iff h
  exact (spec_l28Block_l0 n u l h2.1 h2.2.1 hl l.length 0 (by omega) (by omega) [] (by simp)).cast (by simp only [List.nil_append, List.drop_zero]; rfl)
theorem impl_blockOfPages_ev (n u : Int) {l : List Int} (hl : l.length ≤ 1048576) : Ev (fun k => impl_blockOfPages.f k n u l) (blockOfP n u l) := by
  unfold impl_blockOfPages.f blockOfP
  refine Ev.bind (Ev.eq (impl_isUnitLine_eq n u)) (Ev.ite (fun h => ?_) (fun h => Ev.eq (by rw [if_neg h])))
  rw [if_pos h]
  have h2 := lineOk_iff h
  have hb : 0 ≤ 2 * n * u ∧ 2 * n * u ≤ 24 * 128 := ⟨Int.mul_nonneg (by omega) (by omega), Int.mul_le_mul (by omega) (by omega) (by omega) (by omega)⟩
  rw [w64 (x := 2 * n) (by omega) (by omega), w64 (x := 2 * n * u) (by omega) (by omega)]
  refine Ev.bind (a := (l.length : Int)) (Ev.eq rfl) (Ev.neg (by omega) (Ev.ite (fun c1 => Ev.bind (a := (l.length : Int)) (Ev.eq rfl) (Ev.ite (fun c2 => Ev.eq ?_) (fun c2 => ?_))) (fun c1 => Ev.eq ?_)))
  · rw [if_neg]
    intro hg
    have := (good_len h2.1 h2.2.1 hg).2.2.2
    omega
  · refine (impl_blockOfPages_l0 n u l h2.1 h2.2.1 hl l.length 0 (by omega) (by omega) [] (by simp)).cast ?_
    simp only [List.nil_append, List.drop_zero]
    show (if good n u l (blockI u l) = true then (blockI u l, (0 : Int)) else ([], 4)) = _
    by_cases hg : good n u l (blockS n u l) = true
    · have e := (good_len h2.1 h2.2.1 hg).2.1
      rw [e]
    · rw [if_neg hg, if_neg (fun x => hg ((good_iff h2.1 h2.2.1).1 x))]
  · rw [if_neg]
    intro hg
    exact c1 (good_len h2.1 h2.2.1 hg).2.2.1
theorem blockOfP_length (n u : Int) (l : List Int) : (blockOfP n u l).1.length ≤ l.length := by
  unfold blockOfP
  split
  · split
    · exact strides_length ..
    · simp
  · simp
theorem blockOfP_zero {n u : Int} {l : List Int} (h : (blockOfP n u l).2 = 0) : lineOk n u = true ∧ good n u l (blockS n u l) = true := by
  unfold blockOfP at h
  split at h
  · split at h
    · exact ⟨‹_›, ‹_›⟩
    · cases h
  · cases h
end Go.Proofs.Ytanokgpnmbbajab.PA
end
section
namespace Go.Proofs.Ytanokgpnmbbajab.Pure
open Go.RowKit Go.Proofs.YtanokgpnmbbajabW.PrintWords Go.Proofs.YtanokgpnmbbajabB Go.Proofs.Ytanokgpnmbbajab.PA
set_option linter.unusedVariables false
set_option linter.unusedSimpArgs false
def pagesV (n u : Int) (l : List Int) : List Int × Int := if lineOk n u = true then (if fitsB n l = true then (allPages u l, 0) else ([], 2)) else ([], 2)
theorem pagesV_length (n u : Int) {l : List Int} (hl : l.length ≤ 1048576) : (pagesV n u l).1.length ≤ 1048576 := by
  unfold pagesV
  split
  · split
    · rename_i h h2
      have h3 := lineOk_iff h
      have h4 := fitsB_iff h2
      have hb : l.length * u.toNat ≤ 24 * 128 := Nat.mul_le_mul (by omega) (by omega)
      rw [allPages_length]; omega
    · simp
  · simp
theorem spec_PagesOfBlock_ev (n u : Int) {l : List Int} (hl : l.length ≤ 1048576) : Ev (fun k => spec_PagesOfBlock.f k n u l) (pagesV n u l) := by
  unfold spec_PagesOfBlock.f pagesV
  refine Ev.bind (spec_l28Fits_ev n u) (Ev.ite (fun h => ?_) (fun h => Ev.eq (by rw [if_neg h])))
  rw [if_pos h]
  have h3 := lineOk_iff h
  refine Ev.bind (spec_l14Fits_ev h3.1 (by omega)) (Ev.ite (fun h2 => ?_) (fun h2 => Ev.eq (by rw [if_neg h2])))
  rw [if_pos h2]
  have h4 := fitsB_iff h2
  exact Ev.bind (spec_l28All_ev h3.2.2 (fun s hs => by have := h4.1 s hs; omega) (by omega)) (Ev.eq rfl)
theorem impl_PagesOfBlock_ev (n u : Int) {l : List Int} (hl : l.length ≤ 1048576) : Ev (fun k => impl_PagesOfBlock.f k n u l) (pagesV n u l) := by
  unfold impl_PagesOfBlock.f pagesV
  refine Ev.bind (Ev.eq (impl_isUnitLine_eq n u)) (Ev.ite (fun h => ?_) (fun h => Ev.eq (by rw [if_neg h])))
  rw [if_pos h]
  have h3 := lineOk_iff h
  refine Ev.bind (impl_isBlock_ev h3.1 (by omega)) (Ev.ite (fun h2 => ?_) (fun h2 => Ev.eq (by rw [if_neg h2])))
  rw [if_pos h2]
  have h4 := fitsB_iff h2
  exact Ev.bind (impl_pagesOfBlock_ev h3.2.2 (fun s hs => by have := h4.1 s hs; omega) (by omega)) (Ev.eq rfl)
/-- The pages from one on that a list has not. -/
def missing (l : List Int) : Nat → Int → List Int
  | 0, _ => []
  | d + 1, p => if has l p = true then missing l d (p + 1) else (if has l (-p) = true then missing l d (p + 1) else p :: missing l d (p + 1))
theorem missing_length (l : List Int) : ∀ d p, (missing l d p).length ≤ d
  | 0, _ => by simp [missing]
  | d + 1, p => by
    have := missing_length l d (p + 1)
    simp only [missing]
    split
    · omega
    · split
      · omega
      · simp; omega
theorem spec_MissingPages_l0 (n u : Int) (l : List Int) (hl : l.length ≤ 1048576) (hb : 0 ≤ n * u ∧ n * u ≤ 1536) : ∀ (d : Nat) (p : Int), 1 ≤ p → p + d = n * u + 1 → ∀ o : List Int, o.length ≤ p → Ev (fun k => spec_MissingPages.l0 k n u l o p) (o ++ missing l d p, 0) := by
  intro d
  induction d with
  | zero =>
    intro p hp he o ho
    refine Ev.succ ?_
    simp only [spec_MissingPages.l0]
    rw [w64 (x := n * u) (by omega) (by omega)]
    exact Ev.neg (by omega) (Ev.eq (by simp [missing]))
  | succ d ih =>
    intro p hp he o ho
    have h3 := ih (p + 1) (by omega) (by omega)
    refine Ev.succ ?_
    simp only [spec_MissingPages.l0]
    rw [w64 (x := n * u) (by omega) (by omega), w64 (x := p + 1) (by omega) (by omega), w64 (x := -p) (by omega) (by omega)]
    refine Ev.pos (by omega) (Ev.bind (spec_l01Has_ev (by omega) p) (Ev.ite (fun c1 => ?_) (fun c1 => Ev.bind (spec_l01Has_ev (by omega) (-p)) (Ev.ite (fun c2 => ?_) (fun c2 => Ev.pos (by omega) ?_)))))
    · exact (h3 o (by omega)).cast (by simp only [missing, if_pos c1])
    · exact (h3 o (by omega)).cast (by simp only [missing, if_neg c1, if_pos c2])
    · exact (h3 _ (by simp; omega)).cast (by simp only [missing, if_neg c1, if_neg c2, List.append_assoc, List.singleton_append])
theorem impl_MissingPages_l0 (n u : Int) (l : List Int) (hl : l.length ≤ 1048576) (hb : 0 ≤ n * u ∧ n * u ≤ 1536) : ∀ (d : Nat) (p : Int), 1 ≤ p → p + d = n * u + 1 → ∀ o : List Int, o.length ≤ p → Ev (fun k => impl_MissingPages.l0 k n u l o p) (o ++ missing l d p, 0) := by
  intro d
  induction d with
  | zero =>
    intro p hp he o ho
    refine Ev.succ ?_
    simp only [impl_MissingPages.l0]
    rw [w64 (x := n * u) (by omega) (by omega)]
    exact Ev.neg (by omega) (Ev.eq (by simp [missing]))
  | succ d ih =>
    intro p hp he o ho
    have h3 := ih (p + 1) (by omega) (by omega)
    refine Ev.succ ?_
    simp only [impl_MissingPages.l0]
    rw [w64 (x := n * u) (by omega) (by omega), w64 (x := p + 1) (by omega) (by omega), w64 (x := -p) (by omega) (by omega)]
    refine Ev.pos (by omega) (Ev.bind (slices_Contains_ev (by omega) p) (Ev.ite (fun c1 => ?_) (fun c1 => Ev.bind (slices_Contains_ev (by omega) (-p)) (Ev.ite (fun c2 => ?_) (fun c2 => Ev.pos (by omega) ?_)))))
    · exact (h3 o (by omega)).cast (by simp only [missing, if_pos c1])
    · exact (h3 o (by omega)).cast (by simp only [missing, if_neg c1, if_pos c2])
    · exact (h3 _ (by simp; omega)).cast (by simp only [missing, if_neg c1, if_neg c2, List.append_assoc, List.singleton_append])
def missV (n u : Int) (l : List Int) : List Int × Int := if (blockOfP n u l).2 = 0 then (missing l (n * u).toNat 1, 0) else ([], (blockOfP n u l).2)
theorem missV_length (n u : Int) {l : List Int} (hl : l.length ≤ 1048576) : (missV n u l).1.length ≤ 1048576 := by
  unfold missV
  split
  · rename_i h
    have h3 := lineOk_iff (blockOfP_zero h).1
    have hb : n * u ≤ 12 * 128 := Int.mul_le_mul (by omega) (by omega) (by omega) (by omega)
    have := missing_length l (n * u).toNat 1
    simp only; omega
  · simp
theorem spec_MissingPages_ev (n u : Int) {l : List Int} (hl : l.length ≤ 1048576) : Ev (fun k => spec_MissingPages.f k n u l) (missV n u l) := by
  unfold spec_MissingPages.f missV
  refine Ev.bind (spec_l28Block_ev n u hl) (Ev.ite (fun h => ?_) (fun h => Ev.eq (by rw [if_neg h])))
  rw [if_pos h]
  have h3 := lineOk_iff (blockOfP_zero h).1
  have hb : 0 ≤ n * u ∧ n * u ≤ 12 * 128 := ⟨Int.mul_nonneg (by omega) (by omega), Int.mul_le_mul (by omega) (by omega) (by omega) (by omega)⟩
  exact (spec_MissingPages_l0 n u l hl (by omega) (n * u).toNat 1 (by omega) (by omega) [] (by simp)).cast (by simp)
theorem impl_MissingPages_ev (n u : Int) {l : List Int} (hl : l.length ≤ 1048576) : Ev (fun k => impl_MissingPages.f k n u l) (missV n u l) := by
  unfold impl_MissingPages.f missV
  refine Ev.bind (impl_blockOfPages_ev n u hl) (Ev.ite (fun h => ?_) (fun h => Ev.eq (by rw [if_neg h])))
  rw [if_pos h]
  have h3 := lineOk_iff (blockOfP_zero h).1
  have hb : 0 ≤ n * u ∧ n * u ≤ 12 * 128 := ⟨Int.mul_nonneg (by omega) (by omega), Int.mul_le_mul (by omega) (by omega) (by omega) (by omega)⟩
  exact (impl_MissingPages_l0 n u l hl (by omega) (n * u).toNat 1 (by omega) (by omega) [] (by simp)).cast (by simp)
theorem spec_BlockOfPages_ev (n u : Int) {l : List Int} (hl : l.length ≤ 1048576) : Ev (fun k => spec_BlockOfPages.f k n u l) (blockOfP n u l) := by
  unfold spec_BlockOfPages.f
  exact Ev.bind (spec_l28Block_ev n u hl) (Ev.eq rfl)
theorem impl_BlockOfPages_ev (n u : Int) {l : List Int} (hl : l.length ≤ 1048576) : Ev (fun k => impl_BlockOfPages.f k n u l) (blockOfP n u l) := by
  unfold impl_BlockOfPages.f
  exact Ev.bind (impl_blockOfPages_ev n u hl) (Ev.eq rfl)
end Go.Proofs.Ytanokgpnmbbajab.Pure
end
section
namespace Go.Proofs.Ytanokgpnmbbajab.PA
open Go.RowKit Go.Proofs.YtanokgpnmbbajabW.PrintWords Go.Proofs.YtanokgpnmbbajabB
set_option linter.unusedVariables false
set_option linter.unusedSimpArgs false
/-- A source of draws: bytes, a place, a seed. -/
def Src (c : List Int) (at_ seed : Int) : Prop := (∀ y ∈ c, 0 ≤ y ∧ y ≤ 255) ∧ c.length ≤ 1048576 ∧ 0 ≤ at_ ∧ at_ ≤ (c.length : Int) ∧ 0 ≤ seed ∧ seed < 2147483647
theorem tmod_pos {a n : Int} (h : 0 ≤ a) (hn : 0 < n) : 0 ≤ Int.tmod a n ∧ Int.tmod a n < n := ⟨Int.tmod_nonneg n h, Int.tmod_lt_of_pos a hn⟩
theorem byte_at {c : List Int} (h : ∀ y ∈ c, 0 ≤ y ∧ y ≤ 255) (i : Int) : 0 ≤ rd c i ∧ rd c i ≤ 255 := by
  unfold rd
  by_cases hi : i.toNat < c.length
  · exact h _ (getD_mem c 0 _ hi)
  · have e : c.getD i.toNat 0 = 0 := by simp [List.getD, List.getElem?_eq_none (show c.length ≤ i.toNat by omega)]
    rw [e]; omega
theorem spec_l01From_ev {c : List Int} (hc : ∀ y ∈ c, 0 ≤ y ∧ y ≤ 255) (hl : c.length ≤ 1048576) : ∃ seed, Ev (fun k => spec_l01From.f k c) (c, 0, seed) ∧ Src c 0 seed := by
  have key : ∀ d i : Nat, i + d = c.length → ∀ seed : Int, 0 ≤ seed → seed < 2147483647 → ∃ s, Ev (fun k => spec_l01From.l0 k c (i : Int) c 0 seed) (c, 0, s) ∧ 0 ≤ s ∧ s < 2147483647 := by
    intro d
    induction d with
    | zero =>
      intro i hi seed h0 h1
      refine ⟨seed, Ev.succ ?_, h0, h1⟩
      simp only [spec_l01From.l0]
      exact Ev.neg (by omega) (Ev.eq rfl)
    | succ d ih =>
      intro i hi seed h0 h1
      have hb := byte_at hc (i : Int)
      have e1 : wrap64 ((i : Int) + 1) = ((i + 1 : Nat) : Int) := by rw [w64 (by omega) (by omega)]; omega
      have e2 : wrap64 (wrap64 (seed * 71) + wrap64 (rd c (i : Int))) = seed * 71 + rd c (i : Int) := by
        rw [w64 (x := seed * 71) (by omega) (by omega), w64 (x := rd c (i : Int)) (by omega) (by omega), w64 (by omega) (by omega)]
      have ht := tmod_pos (a := seed * 71 + rd c (i : Int)) (n := 2147483647) (by omega) (by omega)
      obtain ⟨s, hs, hs2⟩ := ih (i + 1) (by omega) _ ht.1 ht.2
      by_cases h64 : (i : Int) < 64
      · refine ⟨s, Ev.succ ?_, hs2⟩
        simp only [spec_l01From.l0, e1, e2]
        exact Ev.pos (by omega) (Ev.pos h64 (Ev.pos (by omega) hs))
      · refine ⟨seed, Ev.succ ?_, h0, h1⟩
        simp only [spec_l01From.l0]
        exact Ev.pos (by omega) (Ev.neg h64 (Ev.eq rfl))
  obtain ⟨s, hs, h1, h2⟩ := key c.length 0 (by omega) 88007 (by omega) (by omega)
  refine ⟨s, ?_, hc, hl, by omega, by omega, h1, h2⟩
  unfold spec_l01From.f
  exact hs
theorem spec_l01Next_ok {c : List Int} {p s : Int} (h : Src c p s) (n : Int) : ∃ r p' s', spec_l01Next.f c p s n = some (r, p', s') ∧ Src c p' s' ∧ 0 ≤ r ∧ (r = 0 ∨ r < n) := by
  obtain ⟨hc, hl, h0, h1, hs0, hs1⟩ := h
  unfold spec_l01Next.f
  by_cases hn : n ≤ 1
  · rw [if_pos hn]
    exact ⟨0, p, s, rfl, ⟨hc, hl, h0, h1, hs0, hs1⟩, Int.le_refl 0, .inl rfl⟩
  rw [if_neg hn]
  have es : wrap64 (wrap64 (s * 48271) + 61) = s * 48271 + 61 := by
    rw [w64 (x := s * 48271) (by omega) (by omega), w64 (by omega) (by omega)]
  have ht := tmod_pos (a := s * 48271 + 61) (n := 2147483647) (by omega) (by omega)
  rw [es]
  generalize Int.tmod (s * 48271 + 61) 2147483647 = s' at ht ⊢
  have ex : Int.tdiv s' 31 = s' / 31 := Int.tdiv_eq_ediv_of_nonneg ht.1
  have ew : wrap64 (Int.tdiv s' 31) = s' / 31 := by rw [ex, w64 (by omega) (by omega)]
  rw [ew]
  have hb := byte_at hc p
  have eb : wrap64 (rd c p) = rd c p := w64 (by omega) (by omega)
  have eq : wrap64 (s' / 31 + wrap64 (rd c p)) = s' / 31 + rd c p := by rw [eb, w64 (by omega) (by omega)]
  have ep : wrap64 (p + 1) = p + 1 := w64 (by omega) (by omega)
  have ep2 : wrap64 (p + 1 - 1) = p := by rw [w64 (by omega) (by omega)]; omega
  have t1 := tmod_pos (a := rd c p) (n := n) hb.1 (by omega)
  have t2 := tmod_pos (a := s' / 31 + rd c p) (n := n) (by omega) (by omega)
  have t3 := tmod_pos (a := s' / 31) (n := n) (by omega) (by omega)
  have n0 : ¬ n = 0 := by omega
  by_cases hp : p < (c.length : Int)
  · rw [if_pos hp, if_pos h0, ep, ep2, if_pos h0, if_pos hp, if_neg n0, if_neg n0, eq, eb]
    have hS : Src c (p + 1) s' := ⟨hc, hl, by omega, by omega, ht⟩
    split
    · split
      · exact ⟨_, _, _, rfl, hS, t1.1, .inr t1.2⟩
      · exact ⟨_, _, _, rfl, hS, t2.1, .inr t2.2⟩
    · exact ⟨_, _, _, rfl, hS, t2.1, .inr t2.2⟩
  · rw [if_neg hp, if_neg n0]
    exact ⟨_, _, _, rfl, ⟨hc, hl, h0, h1, ht⟩, t3.1, .inr t3.2⟩
theorem spec_l01Pick_ok {c : List Int} {p s : Int} (h : Src c p s) (l : List Int) (h0 : 1 ≤ l.length) (hl : l.length ≤ 1048576) : ∃ r p' s', spec_l01Pick.f c p s l = some (r, p', s') ∧ Src c p' s' ∧ r ∈ l := by
  obtain ⟨r, p', s', h1, h2, h3, h4⟩ := spec_l01Next_ok h (l.length : Int)
  have hr : r < (l.length : Int) := by omega
  refine ⟨rd l r, p', s', ?_, h2, getD_mem l 0 r.toNat (by omega)⟩
  unfold spec_l01Pick.f
  rw [h1, Option.bind_some]
  simp only
  rw [if_pos h3, if_pos hr]
end Go.Proofs.Ytanokgpnmbbajab.PA
end
section
namespace Go.Proofs.Ytanokgpnmbbajab.Pure
open Go.RowKit Go.Proofs.YtanokgpnmbbajabW.PrintWords Go.Proofs.YtanokgpnmbbajabB Go.Proofs.Ytanokgpnmbbajab.PA
set_option linter.unusedVariables false
set_option linter.unusedSimpArgs false
/-- A drawn block: few signatures, all small. -/
def small (n : Nat) (l : List Int) : Prop := l.length ≤ n ∧ ∀ x ∈ l, -12 ≤ x ∧ x ≤ 12
theorem small_append {m n : Nat} {a b : List Int} (ha : small m a) (hb : small n b) : small (m + n) (a ++ b) := by
  refine ⟨by rw [List.length_append]; have := ha.1; have := hb.1; omega, fun x hx => ?_⟩
  rcases List.mem_append.1 hx with hx | hx
  · exact ha.2 x hx
  · exact hb.2 x hx
theorem spec_l14Part_ok {a b c : Int} (ha : 0 ≤ a ∧ a ≤ 6) (hc : 0 ≤ c ∧ c ≤ 6) : ∃ l, spec_l14Part.f a b c = some l ∧ small 2 l := by
  have e1 : wrap64 (a + 1) = a + 1 := w64 (by omega) (by omega)
  have e2 : wrap64 (-(a + 1)) = -(a + 1) := w64 (by omega) (by omega)
  have e3 : wrap64 (c + 1) = c + 1 := w64 (by omega) (by omega)
  unfold spec_l14Part.f
  rw [e1, e2, e3]
  split
  · exact ⟨_, rfl, by simp, fun x hx => by cases hx⟩
  · split
    · exact ⟨_, rfl, by simp, fun x hx => by simp at hx; omega⟩
    · split
      · exact ⟨_, rfl, by simp, fun x hx => by simp at hx; omega⟩
      · split
        · exact ⟨_, rfl, by simp, fun x hx => by simp at hx; omega⟩
        · exact ⟨_, rfl, by simp, fun x hx => by simp at hx; omega⟩
theorem spec_l14DrawBlock_ok {c : List Int} {p s : Int} (h : Src c p s) : ∃ n l p' s', Ev (fun k => spec_l14DrawBlock.f k c p s) (n, l, p', s') ∧ Src c p' s' ∧ small 24 l := by
  have key : ∀ (n : Int), 1 ≤ n → n ≤ 6 → ∀ d i : Nat, (i : Int) + d = n → ∀ (o : List Int) (p s : Int), small (2 * i) o → Src c p s →
      ∃ n' l p' s', Ev (fun k => spec_l14DrawBlock.l0 k n o (i : Int) c p s) (n', l, p', s') ∧ Src c p' s' ∧ small 24 l := by
    intro n hn1 hn6 d
    induction d with
    | zero =>
      intro i hi o p s ho hS
      have hlt : ¬ (i : Int) < n := by omega
      have hi6 : i ≤ 6 := by omega
      have ho12 : small 12 o := ⟨by have := ho.1; omega, ho.2⟩
      obtain ⟨r, p1, s1, e1, S1, hr0, hr1⟩ := spec_l01Next_ok hS 20
      have w1 : wrap64 (n + 1) = n + 1 := w64 (by omega) (by omega)
      have w2 : wrap64 (-n) = -n := w64 (by omega) (by omega)
      have w3 : wrap64 (-n - 1) = -n - 1 := w64 (by omega) (by omega)
      by_cases c0 : r = 0
      · obtain ⟨q, p2, s2, e2, S2, hq⟩ := spec_l01Pick_ok S1 [0, n, wrap64 (n + 1), wrap64 (-n), wrap64 ((wrap64 (-n)) - 1)] (by simp) (by simp)
        have hqs : small 1 [q] := by
          refine ⟨by simp, fun x hx => ?_⟩
          rw [List.mem_singleton.1 hx]
          rw [w1, w2, w3] at hq
          simp only [List.mem_cons, List.not_mem_nil, or_false] at hq
          omega
        have hs := small_append ho12 hqs
        refine ⟨n, o ++ [q], p2, s2, Ev.succ ?_, S2, ⟨by have := hs.1; omega, hs.2⟩⟩
        simp only [spec_l14DrawBlock.l0]
        have := ho12.1
        exact Ev.neg hlt (Ev.bind (Ev.eq e1) (Ev.pos c0 (Ev.bind (Ev.eq e2) (Ev.pos (by omega) (Ev.eq rfl)))))
      · by_cases c1 : r = 1
        · have hs := small_append ho12 ho12
          refine ⟨n, o ++ o, p1, s1, Ev.succ ?_, S1, ⟨by have := hs.1; omega, hs.2⟩⟩
          simp only [spec_l14DrawBlock.l0]
          have := ho12.1
          exact Ev.neg hlt (Ev.bind (Ev.eq e1) (Ev.neg c0 (Ev.pos c1 (Ev.pos (by omega) (Ev.eq rfl)))))
        · by_cases c2 : r = 2
          · obtain ⟨q, p2, s2, e2, S2, hq⟩ := spec_l01Pick_ok S1 [0, wrap64 (n + 1), 13] (by simp) (by simp)
            refine ⟨q, o, p2, s2, Ev.succ ?_, S2, ⟨by have := ho12.1; omega, ho12.2⟩⟩
            simp only [spec_l14DrawBlock.l0]
            exact Ev.neg hlt (Ev.bind (Ev.eq e1) (Ev.neg c0 (Ev.neg c1 (Ev.pos c2 (Ev.bind (Ev.eq e2) (Ev.eq rfl))))))
          · refine ⟨n, o, p1, s1, Ev.succ ?_, S1, ⟨by have := ho12.1; omega, ho12.2⟩⟩
            simp only [spec_l14DrawBlock.l0]
            exact Ev.neg hlt (Ev.bind (Ev.eq e1) (Ev.neg c0 (Ev.neg c1 (Ev.neg c2 (Ev.eq rfl)))))
    | succ d ih =>
      intro i hi o p s ho hS
      obtain ⟨r, p1, s1, e1, S1, hr0, hr1⟩ := spec_l01Next_ok hS 10
      obtain ⟨q, p2, s2, e2, S2, hq0, hq1⟩ := spec_l01Next_ok S1 n
      obtain ⟨t, e3, ht⟩ := spec_l14Part_ok (a := (i : Int)) (b := mx 0 (wrap64 (r - 5))) (c := q) (by omega) (by omega)
      have ew : wrap64 ((i : Int) + 1) = ((i + 1 : Nat) : Int) := by rw [w64 (by omega) (by omega)]; omega
      have hs := small_append ho ht
      obtain ⟨n', l, p', s', E, S', hl⟩ := ih (i + 1) (by omega) (o ++ t) p2 s2 ⟨by have := hs.1; omega, hs.2⟩ S2
      refine ⟨n', l, p', s', Ev.succ ?_, S', hl⟩
      simp only [spec_l14DrawBlock.l0, ew]
      have h1 := ho.1
      have h2 := ht.1
      exact Ev.pos (by omega) (Ev.bind (Ev.eq e1) (Ev.bind (Ev.eq e2) (Ev.bind (Ev.eq e3) (Ev.pos (by omega) E))))
  obtain ⟨r, p1, s1, e1, S1, hr0, hr1⟩ := spec_l01Next_ok h 6
  have ew : wrap64 (1 + r) = 1 + r := w64 (by omega) (by omega)
  obtain ⟨n', l, p', s', E, S', hl⟩ := key (1 + r) (by omega) (by omega) (1 + r).toNat 0 (by omega) [] p1 s1 ⟨by simp, fun x hx => by cases hx⟩ S1
  refine ⟨n', l, p', s', ?_, S', hl⟩
  unfold spec_l14DrawBlock.f
  refine Ev.bind (Ev.eq e1) ?_
  simp only
  rw [ew]
  exact E
theorem spec_l28DrawBlock_ok {c : List Int} {p s : Int} (h : Src c p s) : ∃ n u l p' s', Ev (fun k => spec_l28DrawBlock.f k c p s) (n, u, l, p', s') ∧ Src c p' s' ∧ small 24 l := by
  obtain ⟨n, l, p1, s1, E1, S1, hl⟩ := spec_l14DrawBlock_ok h
  obtain ⟨u, p2, s2, e2, S2, hu⟩ := spec_l01Pick_ok S1 [4, 4, 8, 16] (by simp) (by simp)
  obtain ⟨r, p3, s3, e3, S3, hr0, hr1⟩ := spec_l01Next_ok S2 30
  by_cases c0 : r = 0
  · obtain ⟨v, p4, s4, e4, S4, hv⟩ := spec_l01Pick_ok S3 [0, 5, 256] (by simp) (by simp)
    refine ⟨n, v, l, p4, s4, ?_, S4, hl⟩
    unfold spec_l28DrawBlock.f
    exact Ev.bind E1 (Ev.bind (Ev.eq e2) (Ev.bind (Ev.eq e3) (Ev.pos c0 (Ev.bind (Ev.eq e4) (Ev.eq rfl)))))
  · refine ⟨n, u, l, p3, s3, ?_, S3, hl⟩
    unfold spec_l28DrawBlock.f
    exact Ev.bind E1 (Ev.bind (Ev.eq e2) (Ev.bind (Ev.eq e3) (Ev.neg c0 (Ev.eq rfl))))
theorem spec_DrawPagesOfBlock_ok {c : List Int} (hc : ∀ y ∈ c, 0 ≤ y ∧ y ≤ 255) (hl : c.length ≤ 1048576) : ∃ n u l, Ev (fun k => spec_DrawPagesOfBlock.f k c) (n, u, l) ∧ l.length ≤ 24 := by
  obtain ⟨s0, E0, S0⟩ := spec_l01From_ev hc hl
  obtain ⟨n, u, l, p1, s1, E1, S1, h1⟩ := spec_l28DrawBlock_ok S0
  refine ⟨n, u, l, ?_, h1.1⟩
  unfold spec_DrawPagesOfBlock.f
  exact Ev.bind E0 (Ev.bind E1 (Ev.eq rfl))
theorem spec_l28DrawPages_j0 {c : List Int} (n u : Int) (l : List Int) (hl : l.length ≤ 100000) {p s : Int} (h : Src c p s) : ∃ l' p' s', Ev (fun k => spec_l28DrawPages.j0 k n u l c p s) (n, u, l', p', s') ∧ l'.length ≤ 100000 := by
  by_cases h0 : (l.length : Int) > 0
  · obtain ⟨r, p1, s1, e1, S1, hr0, hr1⟩ := spec_l01Next_ok h (l.length : Int)
    obtain ⟨q, p2, s2, e2, S2, hq0, hq1⟩ := spec_l01Next_ok S1 16
    by_cases c0 : q = 0
    · obtain ⟨v, p3, s3, e3, S3, hv⟩ := spec_l01Pick_ok S2 [0, wrap64 (-(rd l r)), wrap64 ((rd l r) + 1)] (by simp) (by simp)
      refine ⟨l.set r.toNat v, p3, s3, Ev.succ ?_, by simpa using hl⟩
      simp only [spec_l28DrawPages.j0]
      exact Ev.pos h0 (Ev.bind (Ev.eq e1) (Ev.bind (Ev.eq e2) (Ev.pos c0 (Ev.pos hr0 (Ev.pos (by omega) (Ev.bind (Ev.eq e3) (Ev.eq rfl)))))))
    · by_cases c1 : q = 1
      · refine ⟨l.take r.toNat, p2, s2, Ev.succ ?_, by rw [List.length_take]; omega⟩
        simp only [spec_l28DrawPages.j0]
        exact Ev.pos h0 (Ev.bind (Ev.eq e1) (Ev.bind (Ev.eq e2) (Ev.neg c0 (Ev.pos c1 (Ev.pos hr0 (Ev.pos (by omega) (Ev.eq rfl)))))))
      · refine ⟨l, p2, s2, Ev.succ ?_, hl⟩
        simp only [spec_l28DrawPages.j0]
        exact Ev.pos h0 (Ev.bind (Ev.eq e1) (Ev.bind (Ev.eq e2) (Ev.neg c0 (Ev.neg c1 (Ev.eq rfl)))))
  · refine ⟨l, p, s, Ev.succ ?_, hl⟩
    simp only [spec_l28DrawPages.j0]
    exact Ev.neg h0 (Ev.eq rfl)
theorem spec_DrawBlockOfPages_ok {c : List Int} (hc : ∀ y ∈ c, 0 ≤ y ∧ y ≤ 255) (hl : c.length ≤ 1048576) : ∃ n u l, Ev (fun k => spec_DrawBlockOfPages.f k c) (n, u, l) ∧ l.length ≤ 100000 := by
  obtain ⟨s0, E0, S0⟩ := spec_l01From_ev hc hl
  obtain ⟨n, u, l, p1, s1, E1, S1, h1⟩ := spec_l28DrawBlock_ok S0
  by_cases hu : unitOk u = true
  · have h4 := unitOk_iff hu
    have hlen := allPages_length u l
    have hb : l.length * u.toNat ≤ 24 * 128 := Nat.mul_le_mul h1.1 (by omega)
    have hall : (allPages u l).length ≤ 100000 := by rw [hlen]; exact Nat.le_trans hb (by decide)
    obtain ⟨l', p', s', E2, h2⟩ := spec_l28DrawPages_j0 n u (allPages u l) hall S1
    refine ⟨n, u, l', ?_, h2⟩
    unfold spec_DrawBlockOfPages.f
    refine Ev.bind E0 (Ev.bind (a := (n, u, l', p', s')) ?_ (Ev.eq rfl))
    unfold spec_l28DrawPages.f
    exact Ev.bind E1 (Ev.bind (spec_IsUnit_ev u) (Ev.pos hu (Ev.bind (spec_l28All_ev h4 h1.2 h1.1) E2)))
  · obtain ⟨l', p', s', E2, h2⟩ := spec_l28DrawPages_j0 n u [] (by simp) S1
    refine ⟨n, u, l', ?_, h2⟩
    unfold spec_DrawBlockOfPages.f
    refine Ev.bind E0 (Ev.bind (a := (n, u, l', p', s')) ?_ (Ev.eq rfl))
    unfold spec_l28DrawPages.f
    exact Ev.bind E1 (Ev.bind (spec_IsUnit_ev u) (Ev.neg hu E2))
theorem likeInts_refl {l : List Int} (hl : l.length ≤ 9223372036854775806) : Ev (fun k => laws_likeInts.f k l l) true := by
  have key : ∀ d i, i + d = l.length → Ev (fun k => laws_likeInts.l0 k l l (i : Int)) true := by
    intro d
    induction d with
    | zero =>
      intro i hi
      refine Ev.succ ?_
      simp only [laws_likeInts.l0]
      exact Ev.neg (by omega) (Ev.eq rfl)
    | succ d ih =>
      intro i hi
      have e1 : wrap64 ((i : Int) + 1) = ((i + 1 : Nat) : Int) := by rw [w64 (by omega) (by omega)]; omega
      refine Ev.succ ?_
      simp only [laws_likeInts.l0, e1]
      exact Ev.pos (by omega) (Ev.pos (by omega) (Ev.pos (by omega) (Ev.pos (by trivial) (ih (i + 1) (by omega)))))
  unfold laws_likeInts.f
  exact Ev.pos rfl (key l.length 0 (by omega))
theorem hasInt_ev {l : List Int} (hl : l.length ≤ 9223372036854775806) (x : Int) : Ev (fun k => laws_hasInt.f k l x) (has l x) := by
  have key : ∀ d i, i + d = l.length → Ev (fun k => laws_hasInt.l0 k l x (i : Int)) (has (l.drop i) x) := by
    intro d
    induction d with
    | zero =>
      intro i hi
      refine Ev.succ ?_
      simp only [laws_hasInt.l0]
      have : l.drop i = [] := List.drop_eq_nil_of_le (by omega)
      rw [this]
      exact Ev.neg (by omega) (Ev.eq rfl)
    | succ d ih =>
      intro i hi
      rw [getD_drop l 0 i (by omega)]
      have e1 : wrap64 ((i : Int) + 1) = ((i + 1 : Nat) : Int) := by rw [w64 (by omega) (by omega)]; omega
      refine Ev.succ ?_
      simp only [laws_hasInt.l0, rd_nat, e1]
      generalize l.getD i 0 = y
      refine Ev.pos (by omega) (Ev.pos (by omega) (Ev.ite (fun h => Ev.eq ?_) (fun h => (ih (i + 1) (by omega)).cast ?_)))
      · simp [has, h]
      · simp only [has, List.any_cons, decide_eq_false h, Bool.false_or]
  unfold laws_hasInt.f
  exact (key l.length 0 (by omega)).cast (by simp)
theorem has_true {l : List Int} {x : Int} (h : x ∈ l) : has l x = true := by
  unfold has
  exact List.any_eq_true.2 ⟨x, h, by simp⟩
theorem has_mem {l : List Int} {x : Int} (h : has l x = true) : x ∈ l := by
  unfold has at h
  obtain ⟨y, hy, e⟩ := List.any_eq_true.1 h
  have : y = x := by simpa using e
  exact this ▸ hy
theorem mem_pgs (u s : Int) : ∀ (d j i : Nat), j ≤ i → i < j + d → pg u s (i : Int) ∈ pgs u s d j
  | 0, j, i, h1, h2 => by omega
  | d + 1, j, i, h1, h2 => by
    rcases Nat.lt_or_ge j i with h | h
    · exact List.mem_cons_of_mem _ (mem_pgs u s d (j + 1) i h (by omega))
    · have e : i = j := by omega
      subst e
      exact List.mem_cons_self ..
theorem mem_all (u : Int) : ∀ (B : List Int) (s x : Int), s ∈ B → x ∈ pgs u s u.toNat 0 → x ∈ allPages u B
  | [], _, _, h, _ => by cases h
  | t :: B, s, x, h, hx => by
    rcases List.mem_cons.1 h with rfl | h
    · exact List.mem_append_left _ hx
    · exact List.mem_append_right _ (mem_all u B s x h hx)
theorem mem_missing (l : List Int) : ∀ (d : Nat) (p0 p : Int), p ∈ missing l d p0 → has l p = false ∧ has l (-p) = false ∧ p0 ≤ p ∧ p < p0 + d
  | 0, _, _, h => by cases h
  | d + 1, p0, p, h => by
    simp only [missing] at h
    by_cases c1 : has l p0 = true
    · rw [if_pos c1] at h
      have := mem_missing l d (p0 + 1) p h
      exact ⟨this.1, this.2.1, by omega, by omega⟩
    · rw [if_neg c1] at h
      by_cases c2 : has l (-p0) = true
      · rw [if_pos c2] at h
        have := mem_missing l d (p0 + 1) p h
        exact ⟨this.1, this.2.1, by omega, by omega⟩
      · rw [if_neg c2] at h
        rcases List.mem_cons.1 h with rfl | h
        · exact ⟨Bool.eq_false_iff.2 c1, Bool.eq_false_iff.2 c2, by omega, by omega⟩
        · have := mem_missing l d (p0 + 1) p h
          exact ⟨this.1, this.2.1, by omega, by omega⟩
/-- The signature of a page that lies in a block brings the page, whichever way up. -/
theorem sig_page {u p : Int} {B : List Int} (hu : 4 ≤ u) (hp : 1 ≤ p) : ((p - 1) / u + 1 ∈ B → p ∈ allPages u B) ∧ (-((p - 1) / u + 1) ∈ B → -p ∈ allPages u B) := by
  have h1 : u * ((p - 1) / u) + (p - 1) % u = p - 1 := Int.mul_ediv_add_emod (p - 1) u
  have h2 := Int.emod_nonneg (p - 1) (show u ≠ 0 by omega)
  have h3 := Int.emod_lt_of_pos (p - 1) (show 0 < u by omega)
  have h4 : 0 ≤ (p - 1) / u := Int.ediv_nonneg (by omega) (by omega)
  generalize (p - 1) / u = q at h1 h4 ⊢
  generalize (p - 1) % u = r at h1 h2 h3
  have hc : u * q = q * u := Int.mul_comm u q
  constructor
  · intro h
    have hm := mem_pgs u (q + 1) u.toNat 0 r.toNat (Nat.zero_le _) (by omega)
    have e : pg u (q + 1) (r.toNat : Int) = p := by
      unfold pg
      rw [if_pos (by omega), Int.add_sub_cancel]
      omega
    rw [e] at hm
    exact mem_all u B _ _ h hm
  · intro h
    have hm := mem_pgs u (-(q + 1)) u.toNat 0 (u - 1 - r).toNat (Nat.zero_le _) (by omega)
    have e : pg u (-(q + 1)) ((u - 1 - r).toNat : Int) = -p := by
      unfold pg
      have e2 : -(q + 1) * u = -(q * u) - u := by rw [Int.neg_mul, Int.add_mul, Int.one_mul]; omega
      rw [if_neg (by omega), e2]
      omega
    rw [e] at hm
    exact mem_all u B _ _ h hm
theorem blockOfP_ok {n u : Int} {l : List Int} (h : (blockOfP n u l).2 = 0) : lineOk n u = true ∧ fitsB n (blockOfP n u l).1 = true ∧ allPages u (blockOfP n u l).1 = l := by
  obtain ⟨h1, h2⟩ := blockOfP_zero h
  have e : (blockOfP n u l).1 = blockS n u l := by unfold blockOfP; rw [if_pos h1, if_pos h2]
  rw [e]
  simp only [good, Bool.and_eq_true, decide_eq_true_eq] at h2
  exact ⟨h1, h2.1, h2.2⟩
theorem law_j3 (n u : Int) (l : List Int) : Ev (fun k => laws_FnPagesOfBlocks.j3 k n u l (pagesV n u l).1 (pagesV n u l).2) true := by
  refine Ev.succ ?_
  simp only [laws_FnPagesOfBlocks.j3]
  refine Ev.ite (fun h => ?_) (fun h => Ev.eq rfl)
  unfold pagesV at h ⊢
  by_cases c1 : lineOk n u = true
  · rw [if_pos c1] at h ⊢
    by_cases c2 : fitsB n l = true
    · rw [if_pos c2] at h ⊢
      have h3 := lineOk_iff c1
      have h4 := fitsB_iff c2
      have hg : good n u (allPages u l) l = true := by simp only [good, Bool.and_eq_true, decide_eq_true_eq]; exact ⟨c2, trivial⟩
      have hS := (good_len h3.1 h3.2.1 hg).1
      have e : blockOfP n u (allPages u l) = (l, 0) := by
        unfold blockOfP
        rw [if_pos c1, hS, if_pos hg]
      have hlen := allPages_length u l
      have hb : l.length * u.toNat ≤ 24 * 128 := Nat.mul_le_mul (by omega) (by omega)
      have hE := impl_BlockOfPages_ev n u (l := allPages u l) (by rw [hlen]; omega)
      rw [e] at hE
      refine Ev.bind hE (Ev.pos rfl (Ev.bind (likeInts_refl (l := l) (by omega)) (Ev.pos rfl (Ev.eq ?_))))
      have hb2 : 0 ≤ u * (l.length : Int) ∧ u * (l.length : Int) ≤ 128 * 24 := ⟨Int.mul_nonneg (by omega) (by omega), Int.mul_le_mul (by omega) (by omega) (by omega) (by omega)⟩
      have e3 : ((allPages u l).length : Int) = u * (l.length : Int) := by
        rw [hlen, Int.natCast_mul, Int.toNat_of_nonneg (by omega), Int.mul_comm]
      simp only
      rw [w64 (by omega) (by omega), e3]
      simp
    · rw [if_neg c2] at h; cases h
  · rw [if_neg c1] at h; cases h
theorem law_l0 (n u : Int) (l : List Int) (a b : Int) (pages : List Int) (hp : pages.length ≤ 100000) (h : (blockOfP a b pages).2 = 0) : ∀ d i : Nat, i + d = (missing pages (a * b).toNat 1).length →
    Ev (fun k => laws_FnPagesOfBlocks.l0 k n u l (pagesV n u l).1 (pagesV n u l).2 b (blockOfP a b pages).1 (missing pages (a * b).toNat 1) (i : Int)) true := by
  obtain ⟨h1, h2, h3⟩ := blockOfP_ok h
  have h4 := lineOk_iff h1
  have hB := fitsB_iff h2
  have hab : 0 ≤ a * b ∧ a * b ≤ 12 * 128 := ⟨Int.mul_nonneg (by omega) (by omega), Int.mul_le_mul (by omega) (by omega) (by omega) (by omega)⟩
  have hml := missing_length pages (a * b).toNat 1
  have hmm := mem_missing pages (a * b).toNat 1
  generalize (blockOfP a b pages).1 = B at h2 h3 hB
  generalize missing pages (a * b).toNat 1 = M at hml hmm
  have hab2 : ((a * b).toNat : Int) ≤ 1536 := by omega
  have hml2 : M.length ≤ 1536 := by omega
  generalize (a * b).toNat = N at hml hmm hab2
  clear h h1 h2 hab hml
  intro d
  induction d with
  | zero =>
    intro i hi
    refine Ev.succ ?_
    simp only [laws_FnPagesOfBlocks.l0]
    exact Ev.neg (by omega) (law_j3 n u l)
  | succ d ih =>
    intro i hi
    have hil : i < M.length := by rw [← hi]; exact Nat.lt_add_of_pos_right (Nat.succ_pos d)
    have hx := hmm _ (getD_mem M 0 i hil)
    have ih2 := ih (i + 1) (by rw [← hi, Nat.add_assoc, Nat.add_comm 1 d])
    clear ih hi
    have hMi : (i : Int) < (M.length : Int) := Int.ofNat_lt.2 hil
    have hBl : B.length ≤ 9223372036854775806 := by have := hB.2; have := h4.1; omega
    have e1 : wrap64 ((i : Int) + 1) = ((i + 1 : Nat) : Int) := by rw [w64 (by omega) (by omega)]; omega
    refine Ev.succ ?_
    simp only [laws_FnPagesOfBlocks.l0, rd_nat, e1]
    generalize M.getD i 0 = p at hx ⊢
    have hq := Int.ediv_nonneg (a := p - 1) (b := b) (by omega) (by omega)
    have hq2 : (p - 1) / b ≤ p - 1 := Int.ediv_le_self _ (by omega)
    have e2 : wrap64 ((wrap64 (Int.tdiv (wrap64 (p - 1)) b)) + 1) = (p - 1) / b + 1 := by
      rw [w64 (x := p - 1) (by omega) (by omega), Int.tdiv_eq_ediv_of_nonneg (by omega), w64 (x := (p - 1) / b) (by omega) (by omega), w64 (by omega) (by omega)]
    have e3 : wrap64 (-((p - 1) / b + 1)) = -((p - 1) / b + 1) := w64 (by omega) (by omega)
    have hs := sig_page (u := b) (p := p) (B := B) (by omega) (by omega)
    rw [h3] at hs
    have n1 : ¬ has B ((p - 1) / b + 1) = true := fun hh => by
      have := has_true (hs.1 (has_mem hh)); rw [hx.1] at this; cases this
    have n2 : ¬ has B (-((p - 1) / b + 1)) = true := fun hh => by
      have := has_true (hs.2 (has_mem hh)); rw [hx.2.1] at this; cases this
    rw [e2, e3]
    exact Ev.pos hMi (Ev.pos (by omega) (Ev.neg (by omega) (Ev.bind (hasInt_ev hBl _) (Ev.neg n1 (Ev.bind (hasInt_ev hBl _) (Ev.neg n2 ih2))))))
theorem FnPagesOfBlocks : laws_FnPagesOfBlocks.Pure := by
  intro c hg
  refine Ev.rounds (g := fun k => laws_FnPagesOfBlocks.f k c) ?_
  unfold laws_FnPagesOfBlocks.f
  refine Ev.bind (a := decide ((c.length : Int) > 4096)) (Ev.eq rfl) (Ev.ite (fun _ => Ev.eq rfl) (fun h => ?_))
  have hc : c.length ≤ 1048576 := by
    simp only [decide_eq_true_eq] at h; omega
  obtain ⟨n, u, l, E1, hl⟩ := spec_DrawPagesOfBlock_ok hg.2 hc
  obtain ⟨a, b, pages, E2, hp⟩ := spec_DrawBlockOfPages_ok hg.2 hc
  have hl2 : l.length ≤ 1048576 := by omega
  have hp2 : pages.length ≤ 1048576 := by omega
  have t1 := pagesV_length n u hl2
  have t2 := blockOfP_length a b pages
  have t3 := missV_length a b hp2
  refine Ev.bind E1 (Ev.bind (impl_PagesOfBlock_ev n u hl2) (Ev.bind (spec_PagesOfBlock_ev n u hl2) (Ev.bind E2 (Ev.bind (impl_BlockOfPages_ev a b hp2) (Ev.bind (spec_BlockOfPages_ev a b hp2) (Ev.bind (impl_MissingPages_ev a b hp2) (Ev.bind (spec_MissingPages_ev a b hp2) ?_)))))))
  refine Ev.pos rfl (Ev.bind (likeInts_refl (l := (pagesV n u l).1) (by omega)) (Ev.pos rfl (Ev.pos rfl (Ev.bind (likeInts_refl (l := (blockOfP a b pages).1) (by omega)) (Ev.pos rfl (Ev.pos rfl (Ev.bind (likeInts_refl (l := (missV a b pages).1) (by omega)) (Ev.pos rfl (Ev.succ ?_)))))))))
  have e : (missV a b pages).2 = (blockOfP a b pages).2 := by
    unfold missV
    by_cases c0 : (blockOfP a b pages).2 = 0
    · rw [if_pos c0, c0]
    · rw [if_neg c0]
  simp only [laws_FnPagesOfBlocks.j0]
  rw [e]
  refine Ev.neg (by simp) (Ev.ite (fun h0 => ?_) (fun h0 => law_j3 n u l))
  obtain ⟨h1, h2, h3⟩ := blockOfP_ok h0
  have hB : (blockOfP a b pages).1.length ≤ 1048576 := by omega
  have hP := impl_PagesOfBlock_ev a b hB
  have eP : pagesV a b (blockOfP a b pages).1 = (pages, 0) := by unfold pagesV; rw [if_pos h1, if_pos h2, h3]
  rw [eP] at hP
  refine Ev.bind hP (Ev.pos rfl (Ev.bind (likeInts_refl (l := pages) (by omega)) (Ev.succ ?_)))
  simp only [laws_FnPagesOfBlocks.j1]
  refine Ev.neg (by simp) ?_
  have eM : (missV a b pages).1 = missing pages (a * b).toNat 1 := by unfold missV; rw [if_pos h0]
  rw [eM]
  exact law_l0 n u l a b pages hp h0 (missing pages (a * b).toNat 1).length 0 (Nat.zero_add _)
end Go.Proofs.Ytanokgpnmbbajab.Pure
end
