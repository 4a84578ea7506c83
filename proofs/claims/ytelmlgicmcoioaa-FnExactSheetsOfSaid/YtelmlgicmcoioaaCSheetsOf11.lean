-- Gathered by this session's program wip/tool/shake.py out of its own texts and of what the kit's print and the session's patches of it wrote for this claim.
import Derived.Test.YtelmlgicmcoioaaProg
import Derived.ArgAppend
import Derived.Below
import Derived.BigQuiet
import Derived.Deep.AppendLies
import Derived.Deep.CutBlock
import Derived.Deep.DeepCutAuto
import Derived.Deep.Draws
import Derived.Deep.LoopGhost
import Derived.Deep.OwnRows
import Derived.Deep.QuietTactic
import Derived.Deep.RegionHeld3
import Derived.KernelRfl
import Derived.Laws.BitsLemmas
import Derived.Laws.BytesArg
import Derived.Laws.IdiomCopy
import Derived.Laws.MakeOwn
import Derived.Laws.OwnMore
import Derived.Laws.Rows
import Derived.Laws.Slices
import Derived.Laws.StructEq
import Derived.Lib.AppendStr
import Derived.Lib.ConvBytes
import Derived.Maps.AppendAt
import Derived.OrdersHeld
import Derived.OwnWalk
import Derived.RowKit
import Derived.RowKit3
import Derived.Tactics
import Derived.WalkKit
import Derived.WideLaws
import Derived.Test.YtelmlgicmcoioaaCSheetsOf6
import Derived.Test.YtelmlgicmcoioaaCSheetsOf7
import Derived.Test.YtelmlgicmcoioaaCSheetsOf10
section
namespace Go.Proofs.Ytelmlgicmcoioaa.PA
open Go.RowKit Go.Proofs.YtelmlgicmcoioaaW.PrintWords Go.Proofs.YtelmlgicmcoioaaB
theorem spec_l01In_eq (a b c : Int) : spec_l01In.f a b c = some (decide (b ≤ a ∧ a ≤ c)) := by
  unfold spec_l01In.f
  split <;> simp <;> omega
theorem impl_inRange_eq (a b c : Int) : impl_inRange.f a b c = some (decide (b ≤ a ∧ a ≤ c)) := by
  unfold impl_inRange.f
  split <;> simp <;> omega
end Go.Proofs.Ytelmlgicmcoioaa.PA
end
section
namespace Go.Proofs.Ytelmlgicmcoioaa.PA
open Go.RowKit Go.Proofs.YtelmlgicmcoioaaW.PrintWords Go.Proofs.YtelmlgicmcoioaaB
set_option linter.unusedVariables false
set_option linter.unusedSimpArgs false
theorem rd_Lot (l : List S81) (i : Nat) : rd_T81 l (i : Int) = l.getD i z81 := by simp [rd_T81]
theorem rdL_Lot (l : List S83) (i : Nat) : rd_T83 l (i : Int) = l.getD i z83 := by simp [rd_T83]
def toLot (x : S83) : S81 := ⟨x.f0, x.f1, x.f2⟩
theorem laws_toLotS_l0 (l : List S83) (hl : l.length ≤ 1048576) : ∀ d i, i + d = l.length →
    Ev (fun k => laws_toLotS.l0 k l ((l.take i).map toLot ++ List.replicate (l.length - i) z81) (i : Int)) (l.map toLot) := by
  intro d
  induction d with
  | zero =>
    intro i hi
    refine Ev.succ ?_
    simp only [laws_toLotS.l0]
    refine Ev.neg (by omega) (Ev.eq ?_)
    have : i = l.length := by omega
    subst this
    simp
  | succ d ih =>
    intro i hi
    have h1 := fill_step l z83 z81 toLot i (by omega)
    have h2 := ih (i + 1) (by omega)
    refine Ev.succ ?_
    simp only [laws_toLotS.l0]
    refine Ev.pos (by omega) (Ev.pos (by omega) (Ev.bind (Ev.eq rfl) (Ev.pos (by simp; omega) ?_)))
    rw [rdL_Lot, w64 (by omega) (by omega), Int.toNat_natCast]
    rw [← h1] at h2
    exact h2
theorem laws_toLotS_ev {l : List S83} (hl : l.length ≤ 1048576) : Ev (fun k => laws_toLotS.f k l) (l.map toLot) := by
  have h := laws_toLotS_l0 l hl l.length 0 (by omega)
  unfold laws_toLotS.f
  refine Ev.pos (by omega) (Ev.pos (by omega) ?_)
  rw [Int.toNat_natCast]
  simpa using h
theorem laws_eqLotS_l0 (l : List S81) (hl : l.length ≤ 9223372036854775806) : ∀ d i, i + d = l.length → Ev (fun k => laws_eqLotS.l0 k l l (i : Int)) true := by
  intro d
  induction d with
  | zero =>
    intro i hi
    refine Ev.succ ?_
    simp only [laws_eqLotS.l0]
    exact Ev.neg (by omega) (Ev.eq rfl)
  | succ d ih =>
    intro i hi
    have h2 := ih (i + 1) (by omega)
    refine Ev.succ ?_
    simp only [laws_eqLotS.l0]
    refine Ev.pos (by omega) (Ev.pos (by omega) (Ev.pos (by omega) (Ev.bind (a := true) (Ev.eq (by simp [laws_eqLot.f])) (Ev.pos rfl ?_))))
    rw [w64 (by omega) (by omega)]
    exact h2
theorem laws_eqLotS_refl {l : List S81} (hl : l.length ≤ 9223372036854775806) : Ev (fun k => laws_eqLotS.f k l l) true := by
  unfold laws_eqLotS.f
  exact Ev.pos rfl (laws_eqLotS_l0 l hl l.length 0 (by omega))
theorem laws_szLotS_eq {l : List S83} (hl : l.length ≤ 9223372036854775807) : ∃ r, laws_szLotS.f l 1048576 = some r ∧ (r < 0 ↔ ¬ l.length ≤ 1048576) := by
  unfold laws_szLotS.f
  rw [w64 (by omega) (by omega)]
  split
  · exact ⟨_, rfl, by omega⟩
  · exact ⟨_, rfl, by omega⟩
end Go.Proofs.Ytelmlgicmcoioaa.PA
end
section
namespace Go.Proofs.Ytelmlgicmcoioaa.PA
open Go.RowKit Go.Proofs.YtelmlgicmcoioaaW.PrintWords Go.Proofs.YtelmlgicmcoioaaB
set_option linter.unusedVariables false
set_option linter.unusedSimpArgs false
def lotOk3 (a b c : Int) : Bool := decide (0 ≤ a ∧ a ≤ 19 ∧ 1 ≤ b ∧ b ≤ 1000000 ∧ 0 ≤ c ∧ c ≤ 100000)
def lotOk (x : S81) : Bool := lotOk3 x.f0 x.f1 x.f2
/-- The lots from one on are valid, and their days rise from a day on. -/
def rises : Option Int → List S81 → Bool
  | _, [] => true
  | p, x :: xs => lotOk x && (match p with | none => true | some d => decide (d ≤ x.f2)) && rises (some x.f2) xs
def stockOk (l : List S81) : Bool := decide (l.length ≤ 30) && rises none l
def prevDay (l : List S81) (i : Nat) : Option Int := if i = 0 then none else some (l.getD (i - 1) z81).f2
theorem spec_l25Lot_eq (a b c : Int) : spec_l25Lot.f a b c = some (lotOk3 a b c) := by
  unfold spec_l25Lot.f lotOk3
  simp only [spec_l01In_eq, Option.bind_some, decide_eq_true_eq]
  repeat' split
  all_goals (congr 1; rw [Bool.eq_iff_iff]; simp only [decide_eq_true_eq, beq_iff_eq, bne_iff_ne, true_iff, false_iff, iff_true, iff_false, Bool.false_eq_true, Bool.and_eq_true, Bool.not_eq_true']; omega)
theorem impl_isLot_eq (a b c : Int) : impl_isLot.f a b c = some (lotOk3 a b c) := by
  unfold impl_isLot.f impl_isKind.f impl_isMinutes.f lotOk3
  simp only [impl_inRange_eq, Option.bind_some, decide_eq_true_eq]
  repeat' split
  all_goals (congr 1; rw [Bool.eq_iff_iff]; simp only [decide_eq_true_eq, beq_iff_eq, bne_iff_ne, true_iff, false_iff, iff_true, iff_false, Bool.false_eq_true, Bool.and_eq_true, Bool.not_eq_true']; omega)
theorem spec_IsStock_l0 (l : List S81) (hl : l.length ≤ 9223372036854775806) : ∀ d i, i + d = l.length →
    Ev (fun k => spec_IsStock.l0 k l (i : Int)) (decide (l.length ≤ 30) && rises (prevDay l i) (l.drop i)) := by
  intro d
  induction d with
  | zero =>
    intro i hi
    refine Ev.succ ?_
    simp only [spec_IsStock.l0]
    refine Ev.neg (by omega) (Ev.eq ?_)
    have : l.drop i = [] := List.drop_eq_nil_of_le (by omega)
    rw [this]
    have e : ((l.length : Int) ≤ 30) ↔ l.length ≤ 30 := by omega
    simp [rises, e]
  | succ d ih =>
    intro i hi
    rw [getD_drop l z81 i (by omega)]
    have h3 := ih (i + 1) (by omega)
    refine Ev.succ ?_
    simp only [spec_IsStock.l0, rd_Lot]
    refine Ev.pos (by omega) (Ev.pos (by omega) (Ev.bind (Ev.eq (spec_l25Lot_eq _ _ _)) ?_))
    have ep : prevDay l (i + 1) = some (l.getD i z81).f2 := by simp [prevDay]
    rw [ep] at h3
    generalize l.getD i z81 = x at h3 ⊢
    simp only [rises]
    cases hx : lotOk3 x.f0 x.f1 x.f2 with
    | false => exact Ev.neg (by simp) (Ev.eq (by simp [lotOk, hx]))
    | true =>
      refine Ev.pos rfl ?_
      have e1 : wrap64 ((i : Int) + 1) = ((i + 1 : Nat) : Int) := by rw [w64 (by omega) (by omega)]; omega
      by_cases h0 : i = 0
      · subst h0
        refine Ev.neg (by omega) ?_
        rw [e1]
        exact h3.cast (by simp [prevDay, lotOk, hx])
      · have e2 : wrap64 ((i : Int) - 1) = ((i - 1 : Nat) : Int) := by rw [w64 (by omega) (by omega)]; omega
        rw [e2, rd_Lot, e1]
        have eq : prevDay l i = some (l.getD (i - 1) z81).f2 := by rw [prevDay, if_neg h0]
        rw [eq]
        generalize l.getD (i - 1) z81 = y
        refine Ev.pos (by omega) (Ev.pos (by omega) (Ev.pos (by omega) (Ev.ite (fun h => Ev.eq ?_) (fun h => h3.cast ?_))))
        · have h' : ¬ y.f2 ≤ x.f2 := by omega
          simp [lotOk, hx, h']
        · have h' : y.f2 ≤ x.f2 := by omega
          simp [lotOk, hx, h']
theorem impl_IsStock_l0 (l : List S81) (hl : l.length ≤ 30) : ∀ d i, i + d = l.length →
    Ev (fun k => impl_IsStock.l0 k l l (l.length : Int) (i : Int)) (rises (prevDay l i) (l.drop i)) := by
  intro d
  induction d with
  | zero =>
    intro i hi
    refine Ev.succ ?_
    simp only [impl_IsStock.l0]
    refine Ev.neg (by omega) (Ev.eq ?_)
    have : l.drop i = [] := List.drop_eq_nil_of_le (by omega)
    rw [this]
    simp [rises]
  | succ d ih =>
    intro i hi
    rw [getD_drop l z81 i (by omega)]
    have h3 := ih (i + 1) (by omega)
    refine Ev.succ ?_
    simp only [impl_IsStock.l0, rd_Lot]
    refine Ev.pos (by omega) (Ev.pos (by omega) (Ev.pos (by omega) (Ev.bind (Ev.eq (impl_isLot_eq _ _ _)) ?_)))
    have ep : prevDay l (i + 1) = some (l.getD i z81).f2 := by simp [prevDay]
    rw [ep] at h3
    generalize l.getD i z81 = x at h3 ⊢
    simp only [rises]
    cases hx : lotOk3 x.f0 x.f1 x.f2 with
    | false => exact Ev.neg (by simp) (Ev.eq (by simp [lotOk, hx]))
    | true =>
      refine Ev.pos rfl ?_
      have e1 : wrap64 ((i : Int) + 1) = ((i + 1 : Nat) : Int) := by rw [w64 (by omega) (by omega)]; omega
      by_cases h0 : i = 0
      · subst h0
        refine Ev.neg (by omega) ?_
        rw [e1]
        exact h3.cast (by simp [prevDay, lotOk, hx])
      · have e2 : wrap64 ((i : Int) - 1) = ((i - 1 : Nat) : Int) := by rw [w64 (by omega) (by omega)]; omega
        rw [e2, rd_Lot, e1]
        have eq : prevDay l i = some (l.getD (i - 1) z81).f2 := by rw [prevDay, if_neg h0]
        rw [eq]
        generalize l.getD (i - 1) z81 = y
        refine Ev.pos (by omega) (Ev.pos (by omega) (Ev.pos (by omega) (Ev.ite (fun h => Ev.eq ?_) (fun h => h3.cast ?_))))
        · have h' : ¬ y.f2 ≤ x.f2 := by omega
          simp [lotOk, hx, h']
        · have h' : y.f2 ≤ x.f2 := by omega
          simp [lotOk, hx, h']
theorem spec_IsStock_ev {l : List S81} (hl : l.length ≤ 9223372036854775806) : Ev (fun k => spec_IsStock.f k l) (stockOk l) := by
  unfold spec_IsStock.f
  exact spec_IsStock_l0 l hl l.length 0 (by omega)
theorem impl_IsStock_ev {l : List S81} (hl : l.length ≤ 9223372036854775806) : Ev (fun k => impl_IsStock.f k l) (stockOk l) := by
  unfold impl_IsStock.f
  refine Ev.ite (fun h => Ev.eq ?_) (fun h => (impl_IsStock_l0 l (by omega) l.length 0 (by omega)).cast ?_)
  · have : ¬ l.length ≤ 30 := by omega
    simp [stockOk, this]
  · have : l.length ≤ 30 := by omega
    simp [stockOk, this, prevDay]
theorem rises_mem : ∀ (l : List S81) (p : Option Int), rises p l = true → ∀ x ∈ l, lotOk x = true
  | [], _, _, x, hx => by cases hx
  | y :: ys, p, h, x, hx => by
    simp only [rises, Bool.and_eq_true] at h
    rcases List.mem_cons.1 hx with rfl | hx
    · exact h.1.1
    · exact rises_mem ys _ h.2 x hx
theorem stockOk_len {l : List S81} (h : stockOk l = true) : l.length ≤ 30 := by
  simp only [stockOk, Bool.and_eq_true, decide_eq_true_eq] at h; exact h.1
theorem stockOk_mem {l : List S81} (h : stockOk l = true) {x : S81} (hx : x ∈ l) : lotOk x = true := by
  simp only [stockOk, Bool.and_eq_true] at h; exact rises_mem l _ h.2 x hx
theorem lotOk_iff {x : S81} : lotOk x = true ↔ (0 ≤ x.f0 ∧ x.f0 ≤ 19 ∧ 1 ≤ x.f1 ∧ x.f1 ≤ 1000000 ∧ 0 ≤ x.f2 ∧ x.f2 ≤ 100000) := by simp [lotOk, lotOk3]
end Go.Proofs.Ytelmlgicmcoioaa.PA
end
section
namespace Go.Proofs.Ytelmlgicmcoioaa.PA
open Go.RowKit Go.Proofs.YtelmlgicmcoioaaW.PrintWords Go.Proofs.YtelmlgicmcoioaaB
set_option linter.unusedVariables false
set_option linter.unusedSimpArgs false
def kindCode (l : List S81) (a : Int) : Int := if stockOk l = true then (if 0 ≤ a ∧ a ≤ 19 then 0 else 2) else 1
theorem spec_l25Code_ev {l : List S81} (hl : l.length ≤ 9223372036854775806) (a : Int) : Ev (fun k => spec_l25Code.f k l a) (kindCode l a) := by
  unfold spec_l25Code.f kindCode
  refine Ev.bind (spec_IsStock_ev hl) (Ev.ite (fun h => ?_) (fun h => Ev.eq (by rw [if_neg h])))
  rw [if_pos h]
  refine Ev.bind (Ev.eq (spec_l01In_eq _ _ _)) (Ev.ite (fun h => Ev.eq (by rw [if_pos (by simpa using h)])) (fun h => Ev.eq (by rw [if_neg (by simpa using h)])))
theorem impl_checkKind_ev {l : List S81} (hl : l.length ≤ 9223372036854775806) (a : Int) : Ev (fun k => impl_checkKind.f k l a) (kindCode l a) := by
  unfold impl_checkKind.f kindCode
  refine Ev.bind (impl_IsStock_ev hl) (Ev.ite (fun h => ?_) (fun h => Ev.eq (by rw [if_neg h])))
  rw [if_pos h]
  refine Ev.bind (Ev.eq (by rw [impl_isKind.f, impl_inRange_eq]; rfl)) (Ev.ite (fun h => Ev.eq (by rw [if_pos (by simpa using h)])) (fun h => Ev.eq (by rw [if_neg (by simpa using h)])))
theorem kindCode_zero {l : List S81} {a : Int} (h : kindCode l a = 0) : stockOk l = true ∧ 0 ≤ a ∧ a ≤ 19 := by
  unfold kindCode at h
  split at h
  · split at h
    · exact ⟨‹_›, ‹_›⟩
    · omega
  · omega
/-- The sheets of a kind. -/
def sheets (a : Int) : List S81 → Int
  | [] => 0
  | x :: xs => (if x.f0 = a then x.f1 else 0) + sheets a xs
theorem spec_l25Sheets_l0 (l : List S81) (a : Int) (hl : l.length ≤ 30) (hok : ∀ x ∈ l, lotOk x = true) : ∀ d i, i + d = l.length → ∀ n : Int, 0 ≤ n → n ≤ 1000000 * (i : Int) →
    Ev (fun k => spec_l25Sheets.l0 k l a n (i : Int)) (n + sheets a (l.drop i)) := by
  intro d
  induction d with
  | zero =>
    intro i hi n h0 hn
    refine Ev.succ ?_
    simp only [spec_l25Sheets.l0]
    refine Ev.neg (by omega) (Ev.eq ?_)
    have : l.drop i = [] := List.drop_eq_nil_of_le (by omega)
    rw [this]
    simp [sheets]
  | succ d ih =>
    intro i hi n h0 hn
    rw [getD_drop l z81 i (by omega)]
    have hx := lotOk_iff.1 (hok _ (getD_mem l z81 i (by omega)))
    have e1 : wrap64 ((i : Int) + 1) = ((i + 1 : Nat) : Int) := by rw [w64 (by omega) (by omega)]; omega
    refine Ev.succ ?_
    simp only [spec_l25Sheets.l0, rd_Lot, e1]
    refine Ev.pos (by omega) (Ev.pos (by omega) (Ev.ite (fun h => ?_) (fun h => ?_)))
    · rw [w64 (by omega) (by omega)]
      refine (ih (i + 1) (by omega) _ (by omega) (by omega)).cast ?_
      simp only [sheets, if_pos h]; omega
    · refine (ih (i + 1) (by omega) _ (by omega) (by omega)).cast ?_
      simp only [sheets, if_neg h]; omega
theorem impl_sheetsOf_l0 (l : List S81) (a : Int) (hl : l.length ≤ 30) (hok : ∀ x ∈ l, lotOk x = true) : ∀ d i, i + d = l.length → ∀ n : Int, 0 ≤ n → n ≤ 1000000 * (i : Int) →
    Ev (fun k => impl_sheetsOf.l0 k a n l (l.length : Int) (i : Int)) (n + sheets a (l.drop i)) := by
  intro d
  induction d with
  | zero =>
    intro i hi n h0 hn
    refine Ev.succ ?_
    simp only [impl_sheetsOf.l0]
    refine Ev.neg (by omega) (Ev.eq ?_)
    have : l.drop i = [] := List.drop_eq_nil_of_le (by omega)
    rw [this]
    simp [sheets]
  | succ d ih =>
    intro i hi n h0 hn
    rw [getD_drop l z81 i (by omega)]
    have hx := lotOk_iff.1 (hok _ (getD_mem l z81 i (by omega)))
    have e1 : wrap64 ((i : Int) + 1) = ((i + 1 : Nat) : Int) := by rw [w64 (by omega) (by omega)]; omega
    refine Ev.succ ?_
    simp only [impl_sheetsOf.l0, rd_Lot, e1]
    refine Ev.pos (by omega) (Ev.pos (by omega) (Ev.pos (by omega) (Ev.ite (fun h => ?_) (fun h => ?_))))
    · rw [w64 (by omega) (by omega)]
      refine (ih (i + 1) (by omega) _ (by omega) (by omega)).cast ?_
      simp only [sheets, if_pos h]; omega
    · refine (ih (i + 1) (by omega) _ (by omega) (by omega)).cast ?_
      simp only [sheets, if_neg h]; omega
theorem spec_l25Sheets_ev {l : List S81} (h : stockOk l = true) (a : Int) : Ev (fun k => spec_l25Sheets.f k l a) (sheets a l) := by
  unfold spec_l25Sheets.f
  exact (spec_l25Sheets_l0 l a (stockOk_len h) (fun _ hx => stockOk_mem h hx) l.length 0 (by omega) 0 (by omega) (by omega)).cast (by simp)
theorem impl_sheetsOf_ev {l : List S81} (h : stockOk l = true) (a : Int) : Ev (fun k => impl_sheetsOf.f k l a) (sheets a l) := by
  unfold impl_sheetsOf.f
  exact (impl_sheetsOf_l0 l a (stockOk_len h) (fun _ hx => stockOk_mem h hx) l.length 0 (by omega) 0 (by omega) (by omega)).cast (by simp)
end Go.Proofs.Ytelmlgicmcoioaa.PA
end
section
namespace Go.Proofs.Ytelmlgicmcoioaa.Pure
open Go.RowKit Go.Proofs.YtelmlgicmcoioaaW.PrintWords Go.Proofs.YtelmlgicmcoioaaB Go.Proofs.Ytelmlgicmcoioaa.PA
set_option linter.unusedVariables false
set_option linter.unusedSimpArgs false
theorem FnExactSheetsOf : laws_FnExactSheetsOf.Pure := by
  intro l a hg ha
  obtain ⟨r, h1, h2⟩ := laws_szLotS_eq hg.1
  refine Ev.rounds (g := fun k => laws_FnExactSheetsOf.f k l a) ?_
  unfold laws_FnExactSheetsOf.f
  refine Ev.bind (Ev.eq h1) (Ev.ite (fun _ => Ev.eq rfl) (fun h => ?_))
  have hl : l.length ≤ 1048576 := by omega
  have hm : (l.map toLot).length ≤ 9223372036854775806 := by simp; omega
  have s1 : Ev (fun k => spec_SheetsOf.f k (l.map toLot) a) (if kindCode (l.map toLot) a = 0 then (sheets a (l.map toLot), 0) else (0, kindCode (l.map toLot) a)) := by
    unfold spec_SheetsOf.f
    refine Ev.bind (spec_l25Code_ev hm a) (Ev.ite (fun h => ?_) (fun h => Ev.eq (by rw [if_neg h])))
    exact Ev.bind (spec_l25Sheets_ev (kindCode_zero h).1 a) (Ev.eq (by rw [if_pos h]))
  have s2 : Ev (fun k => impl_SheetsOf.f k (l.map toLot) a) (if kindCode (l.map toLot) a = 0 then (sheets a (l.map toLot), 0) else (0, kindCode (l.map toLot) a)) := by
    unfold impl_SheetsOf.f
    refine Ev.bind (impl_checkKind_ev hm a) (Ev.ite (fun h => ?_) (fun h => Ev.eq (by rw [if_neg h])))
    exact Ev.bind (impl_sheetsOf_ev (kindCode_zero h).1 a) (Ev.eq (by rw [if_pos h]))
  refine Ev.bind (laws_toLotS_ev hl) (Ev.bind s1 (Ev.bind (laws_toLotS_ev hl) (Ev.bind s2 (Ev.pos rfl ?_))))
  refine Ev.succ ?_
  simp only [laws_FnExactSheetsOf.j0]
  refine Ev.neg (by simp) ?_
  exact Ev.bind (laws_toLotS_ev hl) (Ev.bind (laws_eqLotS_refl hm) (Ev.pos rfl (Ev.eq rfl)))
end Go.Proofs.Ytelmlgicmcoioaa.Pure
end
