-- Gathered by this session's program wip/tool/shake.py out of its own texts and of what the kit's print and the session's patches of it wrote for this claim.
import Derived.Test.YtanokgpnmbbajaaProg
import Derived.ArgAppend
import Derived.Below
import Derived.BigQuiet
import Derived.Deep.AppendLies
import Derived.Deep.CutBlock
import Derived.Deep.DeepCutAuto
import Derived.Deep.Draws
import Derived.Deep.LoopGhost
import Derived.Deep.OwnRows
import Derived.Deep.QuietTactic
import Derived.Deep.RegionHeld3
import Derived.KernelRfl
import Derived.Laws.BitsLemmas
import Derived.Laws.BytesArg
import Derived.Laws.IdiomCopy
import Derived.Laws.MakeOwn
import Derived.Laws.OwnMore
import Derived.Laws.Rows
import Derived.Laws.Slices
import Derived.Laws.StructEq
import Derived.Lib.AppendStr
import Derived.Lib.ConvBytes
import Derived.Maps.AppendAt
import Derived.OrdersHeld
import Derived.OwnWalk
import Derived.RowKit
import Derived.RowKit3
import Derived.Tactics
import Derived.WalkKit
import Derived.WideLaws
import Derived.Test.YtanokgpnmbbajaaCFnTaken7
import Derived.Test.YtanokgpnmbbajaaCFnTaken8
import Derived.Test.YtanokgpnmbbajaaCFnTaken9
import Derived.Test.YtanokgpnmbbajaaCFnTaken10
import Derived.Test.YtanokgpnmbbajaaCFnTaken12
section
namespace Go.Proofs.Ytanokgpnmbbajaa.PA
open Go.RowKit Go.Proofs.YtanokgpnmbbajaaW.PrintWords Go.Proofs.YtanokgpnmbbajaaB
theorem spec_l01In_eq (a b c : Int) : spec_l01In.f a b c = some (decide (b ≤ a ∧ a ≤ c)) := by
  unfold spec_l01In.f
  split <;> simp <;> omega
theorem impl_inRange_eq (a b c : Int) : impl_inRange.f a b c = some (decide (b ≤ a ∧ a ≤ c)) := by
  unfold impl_inRange.f
  split <;> simp <;> omega
end Go.Proofs.Ytanokgpnmbbajaa.PA
end
section
namespace Go.Proofs.Ytanokgpnmbbajaa.PA
open Go.RowKit Go.Proofs.YtanokgpnmbbajaaW.PrintWords Go.Proofs.YtanokgpnmbbajaaB
set_option linter.unusedVariables false
set_option linter.unusedSimpArgs false
theorem rd_Lot (l : List S43) (i : Nat) : rd_T43 l (i : Int) = l.getD i z43 := by simp [rd_T43]
end Go.Proofs.Ytanokgpnmbbajaa.PA
end
section
namespace Go.Proofs.Ytanokgpnmbbajaa.PA
open Go.RowKit Go.Proofs.YtanokgpnmbbajaaW.PrintWords Go.Proofs.YtanokgpnmbbajaaB
set_option linter.unusedVariables false
set_option linter.unusedSimpArgs false
def lotOk3 (a b c : Int) : Bool := decide (0 ≤ a ∧ a ≤ 19 ∧ 1 ≤ b ∧ b ≤ 1000000 ∧ 0 ≤ c ∧ c ≤ 100000)
def lotOk (x : S43) : Bool := lotOk3 x.f0 x.f1 x.f2
/-- The lots from one on are valid, and their days rise from a day on. -/
def rises : Option Int → List S43 → Bool
  | _, [] => true
  | p, x :: xs => lotOk x && (match p with | none => true | some d => decide (d ≤ x.f2)) && rises (some x.f2) xs
def stockOk (l : List S43) : Bool := decide (l.length ≤ 30) && rises none l
def prevDay (l : List S43) (i : Nat) : Option Int := if i = 0 then none else some (l.getD (i - 1) z43).f2
theorem spec_l25Lot_eq (a b c : Int) : spec_l25Lot.f a b c = some (lotOk3 a b c) := by
  unfold spec_l25Lot.f lotOk3
  simp only [spec_l01In_eq, Option.bind_some, decide_eq_true_eq]
  repeat' split
  all_goals (congr 1; rw [Bool.eq_iff_iff]; simp only [decide_eq_true_eq, beq_iff_eq, bne_iff_ne, true_iff, false_iff, iff_true, iff_false, Bool.false_eq_true, Bool.and_eq_true, Bool.not_eq_true']; omega)
theorem impl_isLot_eq (a b c : Int) : impl_isLot.f a b c = some (lotOk3 a b c) := by
  unfold impl_isLot.f impl_isKind.f impl_isMinutes.f lotOk3
  simp only [impl_inRange_eq, Option.bind_some, decide_eq_true_eq]
  repeat' split
  all_goals (congr 1; rw [Bool.eq_iff_iff]; simp only [decide_eq_true_eq, beq_iff_eq, bne_iff_ne, true_iff, false_iff, iff_true, iff_false, Bool.false_eq_true, Bool.and_eq_true, Bool.not_eq_true']; omega)
theorem spec_IsStock_l0 (l : List S43) (hl : l.length ≤ 9223372036854775806) : ∀ d i, i + d = l.length →
    Ev (fun k => spec_IsStock.l0 k l (i : Int)) (decide (l.length ≤ 30) && rises (prevDay l i) (l.drop i)) := by
  intro d
  induction d with
  | zero =>
    intro i hi
    refine Ev.succ ?_
    simp only [spec_IsStock.l0]
    refine Ev.neg (by omega) (Ev.eq ?_)
    have : l.drop i = [] := List.drop_eq_nil_of_le (by omega)
    rw [this]
    have e : ((l.length : Int) ≤ 30) ↔ l.length ≤ 30 := by omega
    simp [rises, e]
  | succ d ih =>
    intro i hi
    rw [getD_drop l z43 i (by omega)]
    have h3 := ih (i + 1) (by omega)
    refine Ev.succ ?_
    simp only [spec_IsStock.l0, rd_Lot]
    refine Ev.pos (by omega) (Ev.pos (by omega) (Ev.bind (Ev.eq (spec_l25Lot_eq _ _ _)) ?_))
    have ep : prevDay l (i + 1) = some (l.getD i z43).f2 := by simp [prevDay]
    rw [ep] at h3
    generalize l.getD i z43 = x at h3 ⊢
    simp only [rises]
    cases hx : lotOk3 x.f0 x.f1 x.f2 with
    | false => exact Ev.neg (by simp) (Ev.eq (by simp [lotOk, hx]))
    | true =>
      refine Ev.pos rfl ?_
      have e1 : wrap64 ((i : Int) + 1) = ((i + 1 : Nat) : Int) := by rw [w64 (by omega) (by omega)]; omega
      by_cases h0 : i = 0
      · subst h0
        refine Ev.neg (by omega) ?_
        rw [e1]
        exact h3.cast (by simp [prevDay, lotOk, hx])
      · have e2 : wrap64 ((i : Int) - 1) = ((i - 1 : Nat) : Int) := by rw [w64 (by omega) (by omega)]; omega
        rw [e2, rd_Lot, e1]
        have eq : prevDay l i = some (l.getD (i - 1) z43).f2 := by rw [prevDay, if_neg h0]
        rw [eq]
        generalize l.getD (i - 1) z43 = y
        refine Ev.pos (by omega) (Ev.pos (by omega) (Ev.pos (by omega) (Ev.ite (fun h => Ev.eq ?_) (fun h => h3.cast ?_))))
        · have h' : ¬ y.f2 ≤ x.f2 := by omega
          simp [lotOk, hx, h']
        · have h' : y.f2 ≤ x.f2 := by omega
          simp [lotOk, hx, h']
theorem impl_IsStock_l0 (l : List S43) (hl : l.length ≤ 30) : ∀ d i, i + d = l.length →
    Ev (fun k => impl_IsStock.l0 k l l (l.length : Int) (i : Int)) (rises (prevDay l i) (l.drop i)) := by
  intro d
  induction d with
  | zero =>
    intro i hi
    refine Ev.succ ?_
    simp only [impl_IsStock.l0]
    refine Ev.neg (by omega) (Ev.eq ?_)
    have : l.drop i = [] := List.drop_eq_nil_of_le (by omega)
    rw [this]
    simp [rises]
  | succ d ih =>
    intro i hi
    rw [getD_drop l z43 i (by omega)]
    have h3 := ih (i + 1) (by omega)
    refine Ev.succ ?_
    simp only [impl_IsStock.l0, rd_Lot]
    refine Ev.pos (by omega) (Ev.pos (by omega) (Ev.pos (by omega) (Ev.bind (Ev.eq (impl_isLot_eq _ _ _)) ?_)))
    have ep : prevDay l (i + 1) = some (l.getD i z43).f2 := by simp [prevDay]
    rw [ep] at h3
    generalize l.getD i z43 = x at h3 ⊢
    simp only [rises]
    cases hx : lotOk3 x.f0 x.f1 x.f2 with
    | false => exact Ev.neg (by simp) (Ev.eq (by simp [lotOk, hx]))
    | true =>
      refine Ev.pos rfl ?_
      have e1 : wrap64 ((i : Int) + 1) = ((i + 1 : Nat) : Int) := by rw [w64 (by omega) (by omega)]; omega
      by_cases h0 : i = 0
      · subst h0
        refine Ev.neg (by omega) ?_
        rw [e1]
        exact h3.cast (by simp [prevDay, lotOk, hx])
      · have e2 : wrap64 ((i : Int) - 1) = ((i - 1 : Nat) : Int) := by rw [w64 (by omega) (by omega)]; omega
        rw [e2, rd_Lot, e1]
        have eq : prevDay l i = some (l.getD (i - 1) z43).f2 := by rw [prevDay, if_neg h0]
        rw [eq]
        generalize l.getD (i - 1) z43 = y
        refine Ev.pos (by omega) (Ev.pos (by omega) (Ev.pos (by omega) (Ev.ite (fun h => Ev.eq ?_) (fun h => h3.cast ?_))))
        · have h' : ¬ y.f2 ≤ x.f2 := by omega
          simp [lotOk, hx, h']
        · have h' : y.f2 ≤ x.f2 := by omega
          simp [lotOk, hx, h']
theorem spec_IsStock_ev {l : List S43} (hl : l.length ≤ 9223372036854775806) : Ev (fun k => spec_IsStock.f k l) (stockOk l) := by
  unfold spec_IsStock.f
  exact spec_IsStock_l0 l hl l.length 0 (by omega)
theorem impl_IsStock_ev {l : List S43} (hl : l.length ≤ 9223372036854775806) : Ev (fun k => impl_IsStock.f k l) (stockOk l) := by
  unfold impl_IsStock.f
  refine Ev.ite (fun h => Ev.eq ?_) (fun h => (impl_IsStock_l0 l (by omega) l.length 0 (by omega)).cast ?_)
  · have : ¬ l.length ≤ 30 := by omega
    simp [stockOk, this]
  · have : l.length ≤ 30 := by omega
    simp [stockOk, this, prevDay]
theorem rises_mem : ∀ (l : List S43) (p : Option Int), rises p l = true → ∀ x ∈ l, lotOk x = true
  | [], _, _, x, hx => by cases hx
  | y :: ys, p, h, x, hx => by
    simp only [rises, Bool.and_eq_true] at h
    rcases List.mem_cons.1 hx with rfl | hx
    · exact h.1.1
    · exact rises_mem ys _ h.2 x hx
theorem stockOk_len {l : List S43} (h : stockOk l = true) : l.length ≤ 30 := by
  simp only [stockOk, Bool.and_eq_true, decide_eq_true_eq] at h; exact h.1
theorem stockOk_mem {l : List S43} (h : stockOk l = true) {x : S43} (hx : x ∈ l) : lotOk x = true := by
  simp only [stockOk, Bool.and_eq_true] at h; exact rises_mem l _ h.2 x hx
theorem lotOk_iff {x : S43} : lotOk x = true ↔ (0 ≤ x.f0 ∧ x.f0 ≤ 19 ∧ 1 ≤ x.f1 ∧ x.f1 ≤ 1000000 ∧ 0 ≤ x.f2 ∧ x.f2 ≤ 100000) := by simp [lotOk, lotOk3]
end Go.Proofs.Ytanokgpnmbbajaa.PA
end
section
namespace Go.Proofs.Ytanokgpnmbbajaa.PA
open Go.RowKit Go.Proofs.YtanokgpnmbbajaaW.PrintWords Go.Proofs.YtanokgpnmbbajaaB
set_option linter.unusedVariables false
set_option linter.unusedSimpArgs false
def kindCode (l : List S43) (a : Int) : Int := if stockOk l = true then (if 0 ≤ a ∧ a ≤ 19 then 0 else 2) else 1
theorem spec_l25Code_ev {l : List S43} (hl : l.length ≤ 9223372036854775806) (a : Int) : Ev (fun k => spec_l25Code.f k l a) (kindCode l a) := by
  unfold spec_l25Code.f kindCode
  refine Ev.bind (spec_IsStock_ev hl) (Ev.ite (fun h => ?_) (fun h => Ev.eq (by rw [if_neg h])))
  rw [if_pos h]
  refine Ev.bind (Ev.eq (spec_l01In_eq _ _ _)) (Ev.ite (fun h => Ev.eq (by rw [if_pos (by simpa using h)])) (fun h => Ev.eq (by rw [if_neg (by simpa using h)])))
theorem impl_checkKind_ev {l : List S43} (hl : l.length ≤ 9223372036854775806) (a : Int) : Ev (fun k => impl_checkKind.f k l a) (kindCode l a) := by
  unfold impl_checkKind.f kindCode
  refine Ev.bind (impl_IsStock_ev hl) (Ev.ite (fun h => ?_) (fun h => Ev.eq (by rw [if_neg h])))
  rw [if_pos h]
  refine Ev.bind (Ev.eq (by rw [impl_isKind.f, impl_inRange_eq]; rfl)) (Ev.ite (fun h => Ev.eq (by rw [if_pos (by simpa using h)])) (fun h => Ev.eq (by rw [if_neg (by simpa using h)])))
theorem kindCode_zero {l : List S43} {a : Int} (h : kindCode l a = 0) : stockOk l = true ∧ 0 ≤ a ∧ a ≤ 19 := by
  unfold kindCode at h
  split at h
  · split at h
    · exact ⟨‹_›, ‹_›⟩
    · omega
  · omega
/-- The sheets of a kind. -/
def sheets (a : Int) : List S43 → Int
  | [] => 0
  | x :: xs => (if x.f0 = a then x.f1 else 0) + sheets a xs
theorem sheets_bound (a : Int) : ∀ l : List S43, (∀ x ∈ l, lotOk x = true) → 0 ≤ sheets a l ∧ sheets a l ≤ 1000000 * l.length
  | [], _ => by simp [sheets]
  | x :: xs, h => by
    have h1 := sheets_bound a xs (fun y hy => h y (List.mem_cons_of_mem _ hy))
    have h2 := lotOk_iff.1 (h x (List.mem_cons_self ..))
    simp only [sheets, List.length_cons]
    split <;> omega
theorem spec_l25Sheets_l0 (l : List S43) (a : Int) (hl : l.length ≤ 30) (hok : ∀ x ∈ l, lotOk x = true) : ∀ d i, i + d = l.length → ∀ n : Int, 0 ≤ n → n ≤ 1000000 * (i : Int) →
    Ev (fun k => spec_l25Sheets.l0 k l a n (i : Int)) (n + sheets a (l.drop i)) := by
  intro d
  induction d with
  | zero =>
    intro i hi n h0 hn
    refine Ev.succ ?_
    simp only [spec_l25Sheets.l0]
    refine Ev.neg (by omega) (Ev.eq ?_)
    have : l.drop i = [] := List.drop_eq_nil_of_le (by omega)
    rw [this]
    simp [sheets]
  | succ d ih =>
    intro i hi n h0 hn
    rw [getD_drop l z43 i (by omega)]
    have hx := lotOk_iff.1 (hok _ (getD_mem l z43 i (by omega)))
    have e1 : wrap64 ((i : Int) + 1) = ((i + 1 : Nat) : Int) := by rw [w64 (by omega) (by omega)]; omega
    refine Ev.succ ?_
    simp only [spec_l25Sheets.l0, rd_Lot, e1]
    refine Ev.pos (by omega) (Ev.pos (by omega) (Ev.ite (fun h => ?_) (fun h => ?_)))
    · rw [w64 (by omega) (by omega)]
      refine (ih (i + 1) (by omega) _ (by omega) (by omega)).cast ?_
      simp only [sheets, if_pos h]; omega
    · refine (ih (i + 1) (by omega) _ (by omega) (by omega)).cast ?_
      simp only [sheets, if_neg h]; omega
theorem impl_sheetsOf_l0 (l : List S43) (a : Int) (hl : l.length ≤ 30) (hok : ∀ x ∈ l, lotOk x = true) : ∀ d i, i + d = l.length → ∀ n : Int, 0 ≤ n → n ≤ 1000000 * (i : Int) →
    Ev (fun k => impl_sheetsOf.l0 k a n l (l.length : Int) (i : Int)) (n + sheets a (l.drop i)) := by
  intro d
  induction d with
  | zero =>
    intro i hi n h0 hn
    refine Ev.succ ?_
    simp only [impl_sheetsOf.l0]
    refine Ev.neg (by omega) (Ev.eq ?_)
    have : l.drop i = [] := List.drop_eq_nil_of_le (by omega)
    rw [this]
    simp [sheets]
  | succ d ih =>
    intro i hi n h0 hn
    rw [getD_drop l z43 i (by omega)]
    have hx := lotOk_iff.1 (hok _ (getD_mem l z43 i (by omega)))
    have e1 : wrap64 ((i : Int) + 1) = ((i + 1 : Nat) : Int) := by rw [w64 (by omega) (by omega)]; omega
    refine Ev.succ ?_
    simp only [impl_sheetsOf.l0, rd_Lot, e1]
    refine Ev.pos (by omega) (Ev.pos (by omega) (Ev.pos (by omega) (Ev.ite (fun h => ?_) (fun h => ?_))))
    · rw [w64 (by omega) (by omega)]
      refine (ih (i + 1) (by omega) _ (by omega) (by omega)).cast ?_
      simp only [sheets, if_pos h]; omega
    · refine (ih (i + 1) (by omega) _ (by omega) (by omega)).cast ?_
      simp only [sheets, if_neg h]; omega
theorem spec_l25Sheets_ev {l : List S43} (h : stockOk l = true) (a : Int) : Ev (fun k => spec_l25Sheets.f k l a) (sheets a l) := by
  unfold spec_l25Sheets.f
  exact (spec_l25Sheets_l0 l a (stockOk_len h) (fun _ hx => stockOk_mem h hx) l.length 0 (by omega) 0 (by omega) (by omega)).cast (by simp)
theorem impl_sheetsOf_ev {l : List S43} (h : stockOk l = true) (a : Int) : Ev (fun k => impl_sheetsOf.f k l a) (sheets a l) := by
  unfold impl_sheetsOf.f
  exact (impl_sheetsOf_l0 l a (stockOk_len h) (fun _ hx => stockOk_mem h hx) l.length 0 (by omega) 0 (by omega) (by omega)).cast (by simp)
end Go.Proofs.Ytanokgpnmbbajaa.PA
end
section
namespace Go.Proofs.Ytanokgpnmbbajaa.PA
open Go.RowKit Go.Proofs.YtanokgpnmbbajaaW.PrintWords Go.Proofs.YtanokgpnmbbajaaB
set_option linter.unusedVariables false
set_option linter.unusedSimpArgs false
/-- The stock after sheets of a kind have been taken, and how many are lacking. -/
def takes (a : Int) : Int → List S43 → List S43
  | _, [] => []
  | n, x :: xs => if x.f0 = a then (if x.f1 - mn n x.f1 > 0 then ⟨x.f0, x.f1 - mn n x.f1, x.f2⟩ :: takes a (n - mn n x.f1) xs else takes a (n - mn n x.f1) xs) else x :: takes a n xs
def lacks (a : Int) : Int → List S43 → Int
  | n, [] => n
  | n, x :: xs => if x.f0 = a then lacks a (n - mn n x.f1) xs else lacks a n xs
theorem mn_bound {n b : Int} (h : 0 ≤ n) (h2 : 1 ≤ b) : 0 ≤ mn n b ∧ mn n b ≤ b ∧ mn n b ≤ n := by
  unfold mn; split <;> omega
theorem takes_length (a : Int) : ∀ (l : List S43) (n : Int), (takes a n l).length ≤ l.length
  | [], _ => by simp [takes]
  | x :: xs, n => by
    have h1 := takes_length a xs n
    have h2 := takes_length a xs (n - mn n x.f1)
    simp only [takes]
    split
    · split <;> simp <;> omega
    · simp; omega
theorem takes_ok (a : Int) : ∀ (l : List S43) (n : Int), 0 ≤ n → (∀ x ∈ l, lotOk x = true) → ∀ x ∈ takes a n l, lotOk x = true
  | [], _, _, _, x, hx => by simp [takes] at hx
  | y :: ys, n, h0, h, x, hx => by
    have h2 := lotOk_iff.1 (h y (List.mem_cons_self ..))
    have hm := mn_bound h0 h2.2.2.1
    have hs : ∀ x ∈ ys, lotOk x = true := fun z hz => h z (List.mem_cons_of_mem _ hz)
    have i1 := takes_ok a ys n h0 hs x
    have i2 := takes_ok a ys (n - mn n y.f1) (by omega) hs x
    simp only [takes] at hx
    split at hx
    · split at hx
      · rcases List.mem_cons.1 hx with rfl | hx
        · rw [lotOk_iff]; simp only; omega
        · exact i2 hx
      · exact i2 hx
    · rcases List.mem_cons.1 hx with rfl | hx
      · exact h _ (List.mem_cons_self ..)
      · exact i1 hx
theorem lacks_zero (a : Int) : ∀ (l : List S43) (n : Int), 0 ≤ n → (∀ x ∈ l, lotOk x = true) → 0 ≤ lacks a n l ∧ (lacks a n l = 0 ↔ n ≤ sheets a l)
  | [], n, h0, _ => by simp only [lacks, sheets]; omega
  | y :: ys, n, h0, h => by
    have h2 := lotOk_iff.1 (h y (List.mem_cons_self ..))
    have hm := mn_bound h0 h2.2.2.1
    have hs : ∀ x ∈ ys, lotOk x = true := fun z hz => h z (List.mem_cons_of_mem _ hz)
    have i1 := lacks_zero a ys n h0 hs
    have i2 := lacks_zero a ys (n - mn n y.f1) (by omega) hs
    have hb := (sheets_bound a ys hs).1
    simp only [lacks, sheets]
    split
    · refine ⟨i2.1, i2.2.trans ?_⟩
      unfold mn at *
      split at hm <;> split <;> omega
    · rw [Int.zero_add]; exact i1
theorem spec_l25Take_l0 (l : List S43) (a : Int) (hl : l.length ≤ 30) (hok : ∀ x ∈ l, lotOk x = true) : ∀ d i, i + d = l.length → ∀ (o : List S43) (n : Int), o.length ≤ i → 0 ≤ n → n ≤ 1000000000 →
    Ev (fun k => spec_l25Take.l0 k l a n o (i : Int)) (o ++ takes a n (l.drop i)) := by
  intro d
  induction d with
  | zero =>
    intro i hi o n ho h0 hn
    refine Ev.succ ?_
    simp only [spec_l25Take.l0]
    refine Ev.neg (by omega) (Ev.eq ?_)
    have : l.drop i = [] := List.drop_eq_nil_of_le (by omega)
    rw [this]
    simp [takes]
  | succ d ih =>
    intro i hi o n ho h0 hn
    rw [getD_drop l z43 i (by omega)]
    have hx := lotOk_iff.1 (hok _ (getD_mem l z43 i (by omega)))
    have e1 : wrap64 ((i : Int) + 1) = ((i + 1 : Nat) : Int) := by rw [w64 (by omega) (by omega)]; omega
    refine Ev.succ ?_
    simp only [spec_l25Take.l0, rd_Lot, e1]
    generalize l.getD i z43 = x at hx ⊢
    have hm := mn_bound h0 hx.2.2.1
    rw [w64 (x := x.f1 - mn n x.f1) (by omega) (by omega), w64 (x := n - mn n x.f1) (by omega) (by omega)]
    refine Ev.pos (by omega) (Ev.pos (by omega) (Ev.ite (fun h => Ev.ite (fun h2 => Ev.pos (by omega) ?_) (fun h2 => ?_)) (fun h => Ev.pos (by omega) (Ev.pos (by omega) ?_))))
    · refine (ih (i + 1) (by omega) _ _ (by simp; omega) (by omega) (by omega)).cast ?_
      simp only [takes, if_pos h, if_pos h2, List.append_assoc, List.cons_append, List.nil_append]
    · refine (ih (i + 1) (by omega) _ _ (by omega) (by omega) (by omega)).cast ?_
      simp only [takes, if_pos h, if_neg h2]
    · refine (ih (i + 1) (by omega) _ _ (by simp; omega) (by omega) (by omega)).cast ?_
      simp only [takes, if_neg h, List.append_assoc, List.cons_append, List.nil_append]
theorem impl_take_l0 (l : List S43) (a : Int) (hl : l.length ≤ 30) (hok : ∀ x ∈ l, lotOk x = true) : ∀ d i, i + d = l.length → ∀ (o : List S43) (n : Int), o.length ≤ i → 0 ≤ n → n ≤ 1000000000 →
    Ev (fun k => impl_take.l0 k a n o l (l.length : Int) (i : Int)) (o ++ takes a n (l.drop i), lacks a n (l.drop i) == 0) := by
  intro d
  induction d with
  | zero =>
    intro i hi o n ho h0 hn
    refine Ev.succ ?_
    simp only [impl_take.l0]
    refine Ev.neg (by omega) (Ev.eq ?_)
    have : l.drop i = [] := List.drop_eq_nil_of_le (by omega)
    rw [this]
    simp [takes, lacks]
  | succ d ih =>
    intro i hi o n ho h0 hn
    rw [getD_drop l z43 i (by omega)]
    have hx := lotOk_iff.1 (hok _ (getD_mem l z43 i (by omega)))
    have e1 : wrap64 ((i : Int) + 1) = ((i + 1 : Nat) : Int) := by rw [w64 (by omega) (by omega)]; omega
    refine Ev.succ ?_
    simp only [impl_take.l0, rd_Lot, e1]
    generalize l.getD i z43 = x at hx ⊢
    have hm := mn_bound h0 hx.2.2.1
    rw [w64 (x := x.f1 - mn n x.f1) (by omega) (by omega), w64 (x := n - mn n x.f1) (by omega) (by omega)]
    refine Ev.pos (by omega) (Ev.pos (by omega) (Ev.pos (by omega) (Ev.ite (fun h => Ev.ite (fun h2 => Ev.pos (by omega) ?_) (fun h2 => ?_)) (fun h => Ev.pos (by omega) (Ev.pos (by omega) ?_)))))
    · refine (ih (i + 1) (by omega) _ _ (by simp; omega) (by omega) (by omega)).cast ?_
      simp only [takes, lacks, if_pos h, if_pos h2, List.append_assoc, List.cons_append, List.nil_append]
    · refine (ih (i + 1) (by omega) _ _ (by omega) (by omega) (by omega)).cast ?_
      simp only [takes, lacks, if_pos h, if_neg h2]
    · refine (ih (i + 1) (by omega) _ _ (by simp; omega) (by omega) (by omega)).cast ?_
      simp only [takes, lacks, if_neg h, List.append_assoc, List.cons_append, List.nil_append]
theorem spec_l25Take_ev {l : List S43} {n : Int} (hl : l.length ≤ 30) (hok : ∀ x ∈ l, lotOk x = true) (a : Int) (h0 : 0 ≤ n) (hn : n ≤ 1000000000) : Ev (fun k => spec_l25Take.f k l a n) (takes a n l) := by
  unfold spec_l25Take.f
  exact (spec_l25Take_l0 l a hl hok l.length 0 (by omega) [] n (by simp) h0 hn).cast (by simp)
theorem impl_take_ev {l : List S43} {n : Int} (hl : l.length ≤ 30) (hok : ∀ x ∈ l, lotOk x = true) (a : Int) (h0 : 0 ≤ n) (hn : n ≤ 1000000000) : Ev (fun k => impl_take.f k l a n) (takes a n l, lacks a n l == 0) := by
  unfold impl_take.f
  exact (impl_take_l0 l a hl hok l.length 0 (by omega) [] n (by simp) h0 hn).cast (by simp)
end Go.Proofs.Ytanokgpnmbbajaa.PA
end
section
namespace Go.Proofs.Ytanokgpnmbbajaa.PA
open Go.RowKit Go.Proofs.YtanokgpnmbbajaaW.PrintWords Go.Proofs.YtanokgpnmbbajaaB
set_option linter.unusedVariables false
set_option linter.unusedSimpArgs false
def allWithin (n a b : Int) (l : List Int) : Bool := l.all (fun x => decide (a ≤ x ∧ x ≤ b)) && decide ((l.length : Int) ≤ n)
theorem spec_l01Within_l0 (l : List Int) (n a b : Int) (hl : l.length ≤ 9223372036854775806) : ∀ d i, i + d = l.length →
    Ev (fun k => spec_l01Within.l0 k l n a b (i : Int)) ((l.drop i).all (fun x => decide (a ≤ x ∧ x ≤ b)) && decide ((l.length : Int) ≤ n)) := by
  intro d
  induction d with
  | zero =>
    intro i hi
    refine Ev.succ ?_
    simp only [spec_l01Within.l0]
    refine Ev.neg (by omega) (Ev.eq ?_)
    have : l.drop i = [] := List.drop_eq_nil_of_le (by omega)
    rw [this]
    simp
  | succ d ih =>
    intro i hi
    rw [getD_drop l 0 i (by omega)]
    have e1 : wrap64 ((i : Int) + 1) = ((i + 1 : Nat) : Int) := by rw [w64 (by omega) (by omega)]; omega
    refine Ev.succ ?_
    simp only [spec_l01Within.l0, rd_nat, e1]
    generalize l.getD i 0 = x
    refine Ev.pos (by omega) (Ev.pos (by omega) (Ev.bind (Ev.eq (spec_l01In_eq _ _ _)) (Ev.ite (fun h => ?_) (fun h => Ev.eq ?_))))
    · refine (ih (i + 1) (by omega)).cast ?_
      rw [List.all_cons, h, Bool.true_and]
    · simp only [List.all_cons, Bool.eq_false_iff.2 h, Bool.false_and]
theorem spec_l01Within_ev {l : List Int} (hl : l.length ≤ 9223372036854775806) (n a b : Int) : Ev (fun k => spec_l01Within.f k l n a b) (allWithin n a b l) := by
  unfold spec_l01Within.f
  exact (spec_l01Within_l0 l n a b hl l.length 0 (by omega)).cast (by simp [allWithin])
theorem allWithin_iff {n a b : Int} {l : List Int} : allWithin n a b l = true ↔ (∀ x ∈ l, a ≤ x ∧ x ≤ b) ∧ (l.length : Int) ≤ n := by
  simp [allWithin]
end Go.Proofs.Ytanokgpnmbbajaa.PA
end
section
namespace Go.Proofs.Ytanokgpnmbbajaa.Pure
open Go.RowKit Go.Proofs.YtanokgpnmbbajaaW.PrintWords Go.Proofs.YtanokgpnmbbajaaB Go.Proofs.Ytanokgpnmbbajaa.PA
set_option linter.unusedVariables false
set_option linter.unusedSimpArgs false
def taken (l : List S43) (a n : Int) : List S43 × Int :=
  if kindCode l a = 0 then (if 0 ≤ n ∧ n ≤ 1000000000 then (if sheets a l < n then ([], 4) else (takes a n l, 0)) else ([], 2)) else ([], kindCode l a)
theorem taken_length (l : List S43) (a n : Int) : (taken l a n).1.length ≤ l.length := by
  have := takes_length a l n
  unfold taken
  split
  · split
    · split
      · simp
      · exact this
    · simp
  · simp
theorem spec_TakeSheets_ev {l : List S43} (hl : l.length ≤ 9223372036854775806) (a n : Int) : Ev (fun k => spec_TakeSheets.f k l a n) (taken l a n) := by
  unfold spec_TakeSheets.f taken
  refine Ev.bind (spec_l25Code_ev hl a) (Ev.ite (fun h => ?_) (fun h => Ev.eq (by rw [if_neg h])))
  rw [if_pos h]
  have hs := (kindCode_zero h).1
  refine Ev.bind (Ev.eq (spec_l01In_eq _ _ _)) (Ev.ite (fun h2 => ?_) (fun h2 => Ev.eq (by rw [if_neg (by simpa using h2)])))
  have h2' : 0 ≤ n ∧ n ≤ 1000000000 := by simpa using h2
  rw [if_pos h2']
  refine Ev.bind (spec_l25Sheets_ev hs a) (Ev.ite (fun h3 => Ev.eq (by rw [if_pos h3])) (fun h3 => ?_))
  rw [if_neg h3]
  exact Ev.bind (spec_l25Take_ev (stockOk_len hs) (fun _ hx => stockOk_mem hs hx) a h2'.1 h2'.2) (Ev.eq rfl)
theorem impl_TakeSheets_ev {l : List S43} (hl : l.length ≤ 9223372036854775806) (a n : Int) : Ev (fun k => impl_TakeSheets.f k l a n) (taken l a n) := by
  unfold impl_TakeSheets.f taken
  refine Ev.bind (impl_checkKind_ev hl a) (Ev.ite (fun h => ?_) (fun h => Ev.eq (by rw [if_neg h])))
  rw [if_pos h]
  have hs := (kindCode_zero h).1
  refine Ev.bind (Ev.eq (impl_inRange_eq _ _ _)) (Ev.ite (fun h2 => ?_) (fun h2 => Ev.eq (by rw [if_neg (by simpa using h2)])))
  have h2' : 0 ≤ n ∧ n ≤ 1000000000 := by simpa using h2
  rw [if_pos h2']
  have hz := (lacks_zero a l n h2'.1 (fun _ hx => stockOk_mem hs hx)).2
  refine Ev.bind (impl_take_ev (stockOk_len hs) (fun _ hx => stockOk_mem hs hx) a h2'.1 h2'.2) (Ev.ite (fun h3 => Ev.eq ?_) (fun h3 => Ev.eq ?_))
  · have := hz.1 (by simpa using h3)
    rw [if_neg (by omega)]
  · have : ¬ n ≤ sheets a l := fun h => h3 (by simpa using hz.2 h)
    rw [if_pos (by omega)]
def takeAll : Int → List Int → List S43 → List S43 × Int
  | _, [], o => (o, 0)
  | k, n :: ns, o => if sheets k o < n then ([], 4) else takeAll (k + 1) ns (takes k n o)
theorem takeAll_length : ∀ (ns : List Int) (k : Int) (o : List S43), (takeAll k ns o).1.length ≤ o.length
  | [], _, _ => Nat.le_refl _
  | n :: ns, k, o => by
    have h1 := takeAll_length ns (k + 1) (takes k n o)
    have h2 := takes_length k o n
    simp only [takeAll]
    split
    · simp
    · omega
theorem spec_TakeAll_l0 (l : List Int) (hl : l.length ≤ 20) (hw : ∀ x ∈ l, 0 ≤ x ∧ x ≤ 1000000000) : ∀ d i, i + d = l.length → ∀ (o : List S43), o.length ≤ 30 → (∀ x ∈ o, lotOk x = true) →
    Ev (fun k => spec_TakeAll.l0 k l o (i : Int)) (takeAll (i : Int) (l.drop i) o) := by
  intro d
  induction d with
  | zero =>
    intro i hi o ho hok
    refine Ev.succ ?_
    simp only [spec_TakeAll.l0]
    refine Ev.neg (by omega) (Ev.eq ?_)
    have : l.drop i = [] := List.drop_eq_nil_of_le (by omega)
    rw [this]
    simp [takeAll]
  | succ d ih =>
    intro i hi o ho hok
    rw [getD_drop l 0 i (by omega)]
    have hx := hw _ (getD_mem l 0 i (by omega))
    have e1 : wrap64 ((i : Int) + 1) = ((i + 1 : Nat) : Int) := by rw [w64 (by omega) (by omega)]; omega
    refine Ev.succ ?_
    simp only [spec_TakeAll.l0, rd_nat, e1]
    generalize l.getD i 0 = x at hx ⊢
    have hs : Ev (fun k => spec_l25Sheets.f k o (i : Int)) (sheets (i : Int) o) := by
      unfold spec_l25Sheets.f
      exact (spec_l25Sheets_l0 o i ho hok o.length 0 (by omega) 0 (by omega) (by omega)).cast (by simp)
    refine Ev.pos (by omega) (Ev.bind hs (Ev.pos (by omega) (Ev.ite (fun h => Ev.eq ?_) (fun h => Ev.bind (spec_l25Take_ev ho hok i hx.1 hx.2) ?_))))
    · simp only [takeAll, if_pos h]
    · have hlen := takes_length (i : Int) o x
      refine (ih (i + 1) (by omega) _ (by omega) (takes_ok (i : Int) o x hx.1 hok)).cast ?_
      simp only [takeAll, if_neg h]
      congr 1
theorem impl_TakeAll_l0 (l : List Int) (hl : l.length ≤ 20) (hw : ∀ x ∈ l, 0 ≤ x ∧ x ≤ 1000000000) : ∀ d i, i + d = l.length → ∀ (o : List S43), o.length ≤ 30 → (∀ x ∈ o, lotOk x = true) →
    Ev (fun k => impl_TakeAll.l0 k o l (l.length : Int) (i : Int)) (takeAll (i : Int) (l.drop i) o) := by
  intro d
  induction d with
  | zero =>
    intro i hi o ho hok
    refine Ev.succ ?_
    simp only [impl_TakeAll.l0]
    refine Ev.neg (by omega) (Ev.eq ?_)
    have : l.drop i = [] := List.drop_eq_nil_of_le (by omega)
    rw [this]
    simp [takeAll]
  | succ d ih =>
    intro i hi o ho hok
    rw [getD_drop l 0 i (by omega)]
    have hx := hw _ (getD_mem l 0 i (by omega))
    have e1 : wrap64 ((i : Int) + 1) = ((i + 1 : Nat) : Int) := by rw [w64 (by omega) (by omega)]; omega
    refine Ev.succ ?_
    simp only [impl_TakeAll.l0, rd_nat, e1]
    generalize l.getD i 0 = x at hx ⊢
    have hz := (lacks_zero (i : Int) o x hx.1 hok).2
    refine Ev.pos (by omega) (Ev.pos (by omega) (Ev.pos (by omega) (Ev.bind (impl_take_ev ho hok i hx.1 hx.2) (Ev.ite (fun h => ?_) (fun h => Ev.eq ?_)))))
    · have := hz.1 (by simpa using h)
      have hlen := takes_length (i : Int) o x
      refine (ih (i + 1) (by omega) _ (by omega) (takes_ok (i : Int) o x hx.1 hok)).cast ?_
      simp only [takeAll]
      rw [if_neg (by omega)]
      congr 1
    · have : ¬ x ≤ sheets i o := fun h2 => h (by simpa using hz.2 h2)
      simp only [takeAll]
      rw [if_pos (by omega)]
def allTaken (l : List S43) (ns : List Int) : List S43 × Int :=
  if stockOk l = true then (if allWithin 20 0 1000000000 ns = true then takeAll 0 ns l else ([], 2)) else ([], 1)
theorem allTaken_length (l : List S43) (ns : List Int) : (allTaken l ns).1.length ≤ l.length := by
  have := takeAll_length ns 0 l
  unfold allTaken
  split
  · split
    · exact this
    · simp
  · simp
theorem spec_TakeAll_ev {l : List S43} {ns : List Int} (hl : l.length ≤ 9223372036854775806) (hn : ns.length ≤ 9223372036854775806) : Ev (fun k => spec_TakeAll.f k l ns) (allTaken l ns) := by
  unfold spec_TakeAll.f allTaken
  refine Ev.bind (spec_IsStock_ev hl) (Ev.ite (fun h => ?_) (fun h => Ev.eq (by rw [if_neg h])))
  rw [if_pos h]
  refine Ev.bind (spec_l01Within_ev hn _ _ _) (Ev.ite (fun h2 => ?_) (fun h2 => Ev.eq (by rw [if_neg h2])))
  rw [if_pos h2]
  have h3 := allWithin_iff.1 h2
  have h4 := stockOk_len h
  refine Ev.bind (Ev.eq rfl) (Ev.pos (by simp; omega) ?_)
  rw [List.nil_append]
  exact (spec_TakeAll_l0 ns (by omega) h3.1 ns.length 0 (by omega) l h4 (fun _ hx => stockOk_mem h hx)).cast (by simp)
theorem impl_TakeAll_ev {l : List S43} {ns : List Int} (hl : l.length ≤ 9223372036854775806) (hn : ns.length ≤ 9223372036854775806) : Ev (fun k => impl_TakeAll.f k l ns) (allTaken l ns) := by
  unfold impl_TakeAll.f allTaken
  refine Ev.bind (impl_IsStock_ev hl) (Ev.ite (fun h => ?_) (fun h => Ev.eq (by rw [if_neg h])))
  rw [if_pos h]
  refine Ev.ite (fun h1 => Ev.eq ?_) (fun h1 => ?_)
  · have : ¬ allWithin 20 0 1000000000 ns = true := fun h3 => by have := (allWithin_iff.1 h3).2; omega
    rw [if_neg this]
  · have e : ns.all (inB 0 1000000000) = allWithin 20 0 1000000000 ns := by
      have h5 : (ns.length : Int) ≤ 20 := by omega
      unfold allWithin
      rw [decide_eq_true h5, Bool.and_true]
      rfl
    refine Ev.bind (Ev.eq (by rw [impl_allIn.f, e])) (Ev.ite (fun h2 => ?_) (fun h2 => Ev.eq (by rw [if_neg h2])))
    rw [if_pos h2]
    have h3 := allWithin_iff.1 h2
    have h4 := stockOk_len h
    refine Ev.bind (Ev.eq (by rw [impl_Lot.f, if_pos (by omega)])) ?_
    exact (impl_TakeAll_l0 ns (by omega) h3.1 ns.length 0 (by omega) l h4 (fun _ hx => stockOk_mem h hx)).cast (by simp)
/-- The day of the first lot of a kind, and the code. -/
def oldest (a : Int) : List S43 → Int × Int
  | [] => (0, 4)
  | x :: xs => if x.f0 = a then (x.f2, 0) else oldest a xs
theorem spec_OldestDay_l0 (l : List S43) (a : Int) (hl : l.length ≤ 9223372036854775806) : ∀ d i, i + d = l.length → Ev (fun k => spec_OldestDay.l0 k l a (i : Int)) (oldest a (l.drop i)) := by
  intro d
  induction d with
  | zero =>
    intro i hi
    refine Ev.succ ?_
    simp only [spec_OldestDay.l0]
    refine Ev.neg (by omega) (Ev.eq ?_)
    have : l.drop i = [] := List.drop_eq_nil_of_le (by omega)
    rw [this]
    rfl
  | succ d ih =>
    intro i hi
    rw [getD_drop l z43 i (by omega)]
    have e1 : wrap64 ((i : Int) + 1) = ((i + 1 : Nat) : Int) := by rw [w64 (by omega) (by omega)]; omega
    refine Ev.succ ?_
    simp only [spec_OldestDay.l0, rd_Lot, e1]
    refine Ev.pos (by omega) (Ev.pos (by omega) (Ev.ite (fun h => Ev.eq ?_) (fun h => ?_)))
    · simp only [oldest, if_pos h]
    · exact (ih (i + 1) (by omega)).cast (by simp only [oldest, if_neg h])
theorem impl_OldestDay_l0 (l : List S43) (a : Int) (hl : l.length ≤ 9223372036854775806) : ∀ d i, i + d = l.length → Ev (fun k => impl_OldestDay.l0 k a l (l.length : Int) (i : Int)) (oldest a (l.drop i)) := by
  intro d
  induction d with
  | zero =>
    intro i hi
    refine Ev.succ ?_
    simp only [impl_OldestDay.l0]
    refine Ev.neg (by omega) (Ev.eq ?_)
    have : l.drop i = [] := List.drop_eq_nil_of_le (by omega)
    rw [this]
    rfl
  | succ d ih =>
    intro i hi
    rw [getD_drop l z43 i (by omega)]
    have e1 : wrap64 ((i : Int) + 1) = ((i + 1 : Nat) : Int) := by rw [w64 (by omega) (by omega)]; omega
    refine Ev.succ ?_
    simp only [impl_OldestDay.l0, rd_Lot, e1]
    refine Ev.pos (by omega) (Ev.pos (by omega) (Ev.pos (by omega) (Ev.ite (fun h => Ev.eq ?_) (fun h => ?_))))
    · simp only [oldest, if_pos h]
    · exact (ih (i + 1) (by omega)).cast (by simp only [oldest, if_neg h])
def oldestOf (l : List S43) (a : Int) : Int × Int := if kindCode l a = 0 then oldest a l else (0, kindCode l a)
theorem spec_OldestDay_ev {l : List S43} (hl : l.length ≤ 9223372036854775806) (a : Int) : Ev (fun k => spec_OldestDay.f k l a) (oldestOf l a) := by
  unfold spec_OldestDay.f oldestOf
  refine Ev.bind (spec_l25Code_ev hl a) (Ev.ite (fun h => ?_) (fun h => Ev.eq (by rw [if_neg h])))
  exact (spec_OldestDay_l0 _ a hl l.length 0 (by omega)).cast (by rw [if_pos h]; simp)
theorem impl_OldestDay_ev {l : List S43} (hl : l.length ≤ 9223372036854775806) (a : Int) : Ev (fun k => impl_OldestDay.f k l a) (oldestOf l a) := by
  unfold impl_OldestDay.f oldestOf
  refine Ev.bind (impl_checkKind_ev hl a) (Ev.ite (fun h => ?_) (fun h => Ev.eq (by rw [if_neg h])))
  exact (impl_OldestDay_l0 _ a hl l.length 0 (by omega)).cast (by rw [if_pos h]; simp)
theorem kindCode_ok {l : List S43} {a : Int} (h : stockOk l = true) (h0 : 0 ≤ a) (h1 : a ≤ 19) : kindCode l a = 0 := by
  unfold kindCode; rw [if_pos h, if_pos ⟨h0, h1⟩]
theorem impl_SheetsOf_ev {l : List S43} {a : Int} (h : stockOk l = true) (h0 : 0 ≤ a) (h1 : a ≤ 19) : Ev (fun k => impl_SheetsOf.f k l a) (sheets a l, 0) := by
  have hl := stockOk_len h
  have hk := kindCode_ok h h0 h1
  unfold impl_SheetsOf.f
  refine Ev.bind (impl_checkKind_ev (by omega) a) (Ev.pos hk (Ev.bind (impl_sheetsOf_ev h a) (Ev.eq rfl)))
end Go.Proofs.Ytanokgpnmbbajaa.Pure
end
section
namespace Go.Proofs.Ytanokgpnmbbajaa.PA
open Go.RowKit Go.Proofs.YtanokgpnmbbajaaW.PrintWords Go.Proofs.YtanokgpnmbbajaaB
set_option linter.unusedVariables false
set_option linter.unusedSimpArgs false
/-- A source of draws: bytes, a place, a seed. -/
def Src (c : List Int) (at_ seed : Int) : Prop := (∀ y ∈ c, 0 ≤ y ∧ y ≤ 255) ∧ c.length ≤ 1048576 ∧ 0 ≤ at_ ∧ at_ ≤ (c.length : Int) ∧ 0 ≤ seed ∧ seed < 2147483647
theorem tmod_pos {a n : Int} (h : 0 ≤ a) (hn : 0 < n) : 0 ≤ Int.tmod a n ∧ Int.tmod a n < n := ⟨Int.tmod_nonneg n h, Int.tmod_lt_of_pos a hn⟩
theorem byte_at {c : List Int} (h : ∀ y ∈ c, 0 ≤ y ∧ y ≤ 255) (i : Int) : 0 ≤ rd c i ∧ rd c i ≤ 255 := by
  unfold rd
  by_cases hi : i.toNat < c.length
  · exact h _ (getD_mem c 0 _ hi)
  · have e : c.getD i.toNat 0 = 0 := by simp [List.getD, List.getElem?_eq_none (show c.length ≤ i.toNat by omega)]
    rw [e]; omega
theorem spec_l01From_ev {c : List Int} (hc : ∀ y ∈ c, 0 ≤ y ∧ y ≤ 255) (hl : c.length ≤ 1048576) : ∃ seed, Ev (fun k => spec_l01From.f k c) (c, 0, seed) ∧ Src c 0 seed := by
  have key : ∀ d i : Nat, i + d = c.length → ∀ seed : Int, 0 ≤ seed → seed < 2147483647 → ∃ s, Ev (fun k => spec_l01From.l0 k c (i : Int) c 0 seed) (c, 0, s) ∧ 0 ≤ s ∧ s < 2147483647 := by
    intro d
    induction d with
    | zero =>
      intro i hi seed h0 h1
      refine ⟨seed, Ev.succ ?_, h0, h1⟩
      simp only [spec_l01From.l0]
      exact Ev.neg (by omega) (Ev.eq rfl)
    | succ d ih =>
      intro i hi seed h0 h1
      have hb := byte_at hc (i : Int)
      have e1 : wrap64 ((i : Int) + 1) = ((i + 1 : Nat) : Int) := by rw [w64 (by omega) (by omega)]; omega
      have e2 : wrap64 (wrap64 (seed * 71) + wrap64 (rd c (i : Int))) = seed * 71 + rd c (i : Int) := by
        rw [w64 (x := seed * 71) (by omega) (by omega), w64 (x := rd c (i : Int)) (by omega) (by omega), w64 (by omega) (by omega)]
      have ht := tmod_pos (a := seed * 71 + rd c (i : Int)) (n := 2147483647) (by omega) (by omega)
      obtain ⟨s, hs, hs2⟩ := ih (i + 1) (by omega) _ ht.1 ht.2
      by_cases h64 : (i : Int) < 64
      · refine ⟨s, Ev.succ ?_, hs2⟩
        simp only [spec_l01From.l0, e1, e2]
        exact Ev.pos (by omega) (Ev.pos h64 (Ev.pos (by omega) hs))
      · refine ⟨seed, Ev.succ ?_, h0, h1⟩
        simp only [spec_l01From.l0]
        exact Ev.pos (by omega) (Ev.neg h64 (Ev.eq rfl))
  obtain ⟨s, hs, h1, h2⟩ := key c.length 0 (by omega) 88007 (by omega) (by omega)
  refine ⟨s, ?_, hc, hl, by omega, by omega, h1, h2⟩
  unfold spec_l01From.f
  exact hs
theorem spec_l01Next_ok {c : List Int} {p s : Int} (h : Src c p s) (n : Int) : ∃ r p' s', spec_l01Next.f c p s n = some (r, p', s') ∧ Src c p' s' ∧ 0 ≤ r ∧ (r = 0 ∨ r < n) := by
  obtain ⟨hc, hl, h0, h1, hs0, hs1⟩ := h
  unfold spec_l01Next.f
  by_cases hn : n ≤ 1
  · rw [if_pos hn]
    exact ⟨0, p, s, rfl, ⟨hc, hl, h0, h1, hs0, hs1⟩, Int.le_refl 0, .inl rfl⟩
  rw [if_neg hn]
  have es : wrap64 (wrap64 (s * 48271) + 61) = s * 48271 + 61 := by
    rw [w64 (x := s * 48271) (by omega) (by omega), w64 (by omega) (by omega)]
  have ht := tmod_pos (a := s * 48271 + 61) (n := 2147483647) (by omega) (by omega)
  rw [es]
  generalize Int.tmod (s * 48271 + 61) 2147483647 = s' at ht ⊢
  have ex : Int.tdiv s' 31 = s' / 31 := Int.tdiv_eq_ediv_of_nonneg ht.1
  have ew : wrap64 (Int.tdiv s' 31) = s' / 31 := by rw [ex, w64 (by omega) (by omega)]
  rw [ew]
  have hb := byte_at hc p
  have eb : wrap64 (rd c p) = rd c p := w64 (by omega) (by omega)
  have eq : wrap64 (s' / 31 + wrap64 (rd c p)) = s' / 31 + rd c p := by rw [eb, w64 (by omega) (by omega)]
  have ep : wrap64 (p + 1) = p + 1 := w64 (by omega) (by omega)
  have ep2 : wrap64 (p + 1 - 1) = p := by rw [w64 (by omega) (by omega)]; omega
  have t1 := tmod_pos (a := rd c p) (n := n) hb.1 (by omega)
  have t2 := tmod_pos (a := s' / 31 + rd c p) (n := n) (by omega) (by omega)
  have t3 := tmod_pos (a := s' / 31) (n := n) (by omega) (by omega)
  have n0 : ¬ n = 0 := by omega
  by_cases hp : p < (c.length : Int)
  · rw [if_pos hp, if_pos h0, ep, ep2, if_pos h0, if_pos hp, if_neg n0, if_neg n0, eq, eb]
    have hS : Src c (p + 1) s' := ⟨hc, hl, by omega, by omega, ht⟩
    split
    · split
      · exact ⟨_, _, _, rfl, hS, t1.1, .inr t1.2⟩
      · exact ⟨_, _, _, rfl, hS, t2.1, .inr t2.2⟩
    · exact ⟨_, _, _, rfl, hS, t2.1, .inr t2.2⟩
  · rw [if_neg hp, if_neg n0]
    exact ⟨_, _, _, rfl, ⟨hc, hl, h0, h1, ht⟩, t3.1, .inr t3.2⟩
theorem spec_l01Pick_ok {c : List Int} {p s : Int} (h : Src c p s) (l : List Int) (h0 : 1 ≤ l.length) (hl : l.length ≤ 1048576) : ∃ r p' s', spec_l01Pick.f c p s l = some (r, p', s') ∧ Src c p' s' ∧ r ∈ l := by
  obtain ⟨r, p', s', h1, h2, h3, h4⟩ := spec_l01Next_ok h (l.length : Int)
  have hr : r < (l.length : Int) := by omega
  refine ⟨rd l r, p', s', ?_, h2, getD_mem l 0 r.toNat (by omega)⟩
  unfold spec_l01Pick.f
  rw [h1, Option.bind_some]
  simp only
  rw [if_pos h3, if_pos hr]
end Go.Proofs.Ytanokgpnmbbajaa.PA
end
section
namespace Go.Proofs.Ytanokgpnmbbajaa.PA
open Go.RowKit Go.Proofs.YtanokgpnmbbajaaW.PrintWords Go.Proofs.YtanokgpnmbbajaaB
set_option linter.unusedVariables false
set_option linter.unusedSimpArgs false
/-- A lot whose sheets are no more than a stock's may be by one. -/
def mild (x : S43) : Prop := 0 ≤ x.f1 ∧ x.f1 ≤ 1000001
theorem spec_l25Sheets_mild {l : List S43} (hl : l.length ≤ 1000) (hm : ∀ x ∈ l, mild x) (a : Int) : Ev (fun k => spec_l25Sheets.f k l a) (sheets a l) := by
  have key : ∀ d i, i + d = l.length → ∀ n : Int, 0 ≤ n → n ≤ 1000001 * (i : Int) → Ev (fun k => spec_l25Sheets.l0 k l a n (i : Int)) (n + sheets a (l.drop i)) := by
    intro d
    induction d with
    | zero =>
      intro i hi n h0 hn
      refine Ev.succ ?_
      simp only [spec_l25Sheets.l0]
      refine Ev.neg (by omega) (Ev.eq ?_)
      have : l.drop i = [] := List.drop_eq_nil_of_le (by omega)
      rw [this]
      simp [sheets]
    | succ d ih =>
      intro i hi n h0 hn
      rw [getD_drop l z43 i (by omega)]
      have hx := hm _ (getD_mem l z43 i (by omega))
      unfold mild at hx
      have e1 : wrap64 ((i : Int) + 1) = ((i + 1 : Nat) : Int) := by rw [w64 (by omega) (by omega)]; omega
      refine Ev.succ ?_
      simp only [spec_l25Sheets.l0, rd_Lot, e1]
      refine Ev.pos (by omega) (Ev.pos (by omega) (Ev.ite (fun h => ?_) (fun h => ?_)))
      · rw [w64 (by omega) (by omega)]
        refine (ih (i + 1) (by omega) _ (by omega) (by omega)).cast ?_
        simp only [sheets, if_pos h]; omega
      · refine (ih (i + 1) (by omega) _ (by omega) (by omega)).cast ?_
        simp only [sheets, if_neg h]; omega
  unfold spec_l25Sheets.f
  exact (key l.length 0 (by omega) 0 (by omega) (by omega)).cast (by simp)
theorem spec_l25Draw_ok {c : List Int} {p s : Int} (h : Src c p s) : ∃ l p' s', Ev (fun k => spec_l25Draw.f k c p s) (l, p', s') ∧ Src c p' s' ∧ l.length ≤ 40 ∧ ∀ x ∈ l, mild x := by
  have l1 : ∀ d : Nat, ∀ (n : Int) (o : List S43) (p s : Int), 0 ≤ n → n = d → d + o.length ≤ 40 → (∀ x ∈ o, mild x) → Src c p s → ∃ l p' s', Ev (fun k => spec_l25Draw.l1 k o n c p s) (l, p', s') ∧ Src c p' s' ∧ l.length ≤ 40 ∧ ∀ x ∈ l, mild x := by
    intro d
    induction d with
    | zero =>
      intro n o p s h0 hn ho hm hS
      refine ⟨o, p, s, Ev.succ ?_, hS, by omega, hm⟩
      simp only [spec_l25Draw.l1]
      exact Ev.neg (by omega) (Ev.eq rfl)
    | succ d ih =>
      intro n o p s h0 hn ho hm hS
      have e1 : wrap64 (n - 1) = n - 1 := w64 (by omega) (by omega)
      obtain ⟨l, p', s', hE, hS', hl, hml⟩ := ih (n - 1) (o ++ [(⟨Int.tmod n 3, n, 0⟩ : S43)]) p s (by omega) (by omega) (by simp; omega)
        (fun x hx => (List.mem_append.1 hx).elim (hm x) (fun hx => by rw [List.mem_singleton.1 hx]; exact ⟨by show 0 ≤ n; omega, by show n ≤ 1000001; omega⟩)) hS
      refine ⟨l, p', s', Ev.succ ?_, hS', hl, hml⟩
      simp only [spec_l25Draw.l1, e1]
      exact Ev.pos (by omega) (Ev.pos (by omega) hE)
  have l0 : ∀ d : Nat, ∀ (n day : Int) (o : List S43) (p s : Int), 0 ≤ n → n = d → d + o.length ≤ 20 → (∀ x ∈ o, mild x) → Src c p s → ∃ l p' s', Ev (fun k => spec_l25Draw.l0 k o day n c p s) (l, p', s') ∧ Src c p' s' ∧ l.length ≤ 40 ∧ ∀ x ∈ l, mild x := by
    intro d
    induction d with
    | zero =>
      intro n day o p s h0 hn ho hm hS
      obtain ⟨r, p1, s1, e1, hS1, hr0, hr1⟩ := spec_l01Next_ok hS 40
      by_cases c0 : r = 0
      · obtain ⟨a, p2, s2, e2, hS2, ha⟩ := spec_l01Pick_ok hS1 [(-1), 0, 20] (by simp) (by simp)
        obtain ⟨b, p3, s3, e3, hS3, hb⟩ := spec_l01Pick_ok hS2 [0, 1, 1000000, 1000001] (by simp) (by simp)
        obtain ⟨g, p4, s4, e4, hS4, hg⟩ := spec_l01Pick_ok hS3 [day, wrap64 (day - 9), 100000] (by simp) (by simp)
        refine ⟨o ++ [(⟨a, b, g⟩ : S43)], p4, s4, Ev.succ ?_, hS4, ?_, ?_⟩
        · simp only [spec_l25Draw.l0]
          exact Ev.neg (by omega) (Ev.bind (Ev.eq e1) (Ev.pos c0 (Ev.bind (Ev.eq e2) (Ev.bind (Ev.eq e3) (Ev.bind (Ev.eq e4) (Ev.pos (by omega) (Ev.eq rfl)))))))
        · simp; omega
        · intro x hx
          rcases List.mem_append.1 hx with hx | hx
          · exact hm x hx
          · rw [List.mem_singleton.1 hx]
            simp only [List.mem_cons, List.not_mem_nil, or_false] at hb
            unfold mild
            simp only
            omega
      · by_cases c1 : r = 1
        · obtain ⟨q, p2, s2, e2, hS2, hq0, hq1⟩ := spec_l01Next_ok hS1 2
          have ew : wrap64 (30 + q) = 30 + q := w64 (by omega) (by omega)
          obtain ⟨l, p3, s3, hE, hS3, hl, hml⟩ := l1 (30 + q).toNat (30 + q) [] p2 s2 (by omega) (by omega) (by simp; omega) (fun x hx => by cases hx) hS2
          refine ⟨l, p3, s3, Ev.succ ?_, hS3, hl, hml⟩
          simp only [spec_l25Draw.l0]
          refine Ev.neg (by omega) (Ev.bind (Ev.eq e1) (Ev.neg c0 (Ev.pos c1 (Ev.bind (Ev.eq e2) ?_))))
          simp only
          rw [ew]
          exact hE
        · refine ⟨o, p1, s1, Ev.succ ?_, hS1, by omega, hm⟩
          simp only [spec_l25Draw.l0]
          exact Ev.neg (by omega) (Ev.bind (Ev.eq e1) (Ev.neg c0 (Ev.neg c1 (Ev.eq rfl))))
    | succ d ih =>
      intro n day o p s h0 hn ho hm hS
      obtain ⟨a, p1, s1, e1, hS1, ha0, ha1⟩ := spec_l01Next_ok hS 3
      obtain ⟨b, p2, s2, e2, hS2, hb0, hb1⟩ := spec_l01Next_ok hS1 60
      obtain ⟨g, p3, s3, e3, hS3, hg0, hg1⟩ := spec_l01Next_ok hS2 3
      have ew : wrap64 (1 + b) = 1 + b := w64 (by omega) (by omega)
      have en : wrap64 (n - 1) = n - 1 := w64 (by omega) (by omega)
      obtain ⟨l, p4, s4, hE, hS4, hl, hml⟩ := ih (n - 1) (wrap64 (day + g)) (o ++ [(⟨a, wrap64 (1 + b), day⟩ : S43)]) p3 s3 (by omega) (by omega) (by simp; omega)
        (fun x hx => (List.mem_append.1 hx).elim (hm x) (fun hx => by rw [List.mem_singleton.1 hx, ew]; exact ⟨by show 0 ≤ 1 + b; omega, by show 1 + b ≤ 1000001; omega⟩)) hS3
      refine ⟨l, p4, s4, Ev.succ ?_, hS4, hl, hml⟩
      simp only [spec_l25Draw.l0, en]
      exact Ev.pos (by omega) (Ev.bind (Ev.eq e1) (Ev.bind (Ev.eq e2) (Ev.pos (by omega) (Ev.bind (Ev.eq e3) hE))))
  obtain ⟨a, p1, s1, e1, hS1, ha0, ha1⟩ := spec_l01Next_ok h 5
  obtain ⟨b, p2, s2, e2, hS2, hb0, hb1⟩ := spec_l01Next_ok hS1 8
  obtain ⟨l, p3, s3, hE, hS3, hl, hml⟩ := l0 b.toNat b a [] p2 s2 hb0 (by omega) (by simp; omega) (fun x hx => by cases hx) hS2
  refine ⟨l, p3, s3, ?_, hS3, hl, hml⟩
  unfold spec_l25Draw.f
  exact Ev.bind (Ev.eq e1) (Ev.bind (Ev.eq e2) hE)
theorem spec_l25DrawKind_ok {c : List Int} {p s : Int} (h : Src c p s) : ∃ r p' s', spec_l25DrawKind.f c p s = some (r, p', s') ∧ Src c p' s' := by
  obtain ⟨a, p1, s1, e1, hS1, ha0, ha1⟩ := spec_l01Next_ok h 20
  unfold spec_l25DrawKind.f
  rw [e1, Option.bind_some]
  simp only
  by_cases c0 : a = 0
  · obtain ⟨b, p2, s2, e2, hS2, hb⟩ := spec_l01Pick_ok hS1 [(-1), 19, 20] (by simp) (by simp)
    rw [if_pos c0, e2]
    exact ⟨_, _, _, rfl, hS2⟩
  · obtain ⟨b, p2, s2, e2, hS2, hb⟩ := spec_l01Next_ok hS1 3
    rw [if_neg c0, e2]
    exact ⟨_, _, _, rfl, hS2⟩
end Go.Proofs.Ytanokgpnmbbajaa.PA
end
section
namespace Go.Proofs.Ytanokgpnmbbajaa.Pure
open Go.RowKit Go.Proofs.YtanokgpnmbbajaaW.PrintWords Go.Proofs.YtanokgpnmbbajaaB Go.Proofs.Ytanokgpnmbbajaa.PA
set_option linter.unusedVariables false
set_option linter.unusedSimpArgs false
theorem sheets_takes_same (a : Int) : ∀ (l : List S43) (n : Int), 0 ≤ n → (∀ x ∈ l, lotOk x = true) → sheets a (takes a n l) + n = sheets a l + lacks a n l
  | [], n, _, _ => by simp [sheets, takes, lacks]
  | y :: ys, n, h0, h => by
    have h2 := lotOk_iff.1 (h y (List.mem_cons_self ..))
    have hm := mn_bound h0 h2.2.2.1
    have hs : ∀ x ∈ ys, lotOk x = true := fun z hz => h z (List.mem_cons_of_mem _ hz)
    have i1 := sheets_takes_same a ys n h0 hs
    have i2 := sheets_takes_same a ys (n - mn n y.f1) (by omega) hs
    simp only [takes, lacks]
    by_cases c : y.f0 = a
    · rw [if_pos c, if_pos c]
      by_cases d : y.f1 - mn n y.f1 > 0
      · rw [if_pos d]
        simp only [sheets]
        rw [if_pos c]
        omega
      · rw [if_neg d]
        simp only [sheets]
        rw [if_pos c]
        omega
    · rw [if_neg c, if_neg c]
      simp only [sheets]
      rw [if_neg c]
      omega
theorem sheets_takes_other (a b : Int) (hab : b ≠ a) : ∀ (l : List S43) (n : Int), sheets b (takes a n l) = sheets b l
  | [], n => by simp [sheets, takes]
  | y :: ys, n => by
    have i1 := sheets_takes_other a b hab ys n
    have i2 := sheets_takes_other a b hab ys (n - mn n y.f1)
    simp only [takes]
    by_cases c : y.f0 = a
    · have hb : ¬ y.f0 = b := fun e => hab (e.symm.trans c)
      rw [if_pos c]
      split
      · simp only [sheets, if_neg hb, i2]
      · simp only [sheets, if_neg hb, i2]; omega
    · rw [if_neg c]
      simp only [sheets]; rw [i1]
theorem rises_weaken {e : Int} {p : Option Int} (hp : ∀ d, p = some d → d ≤ e) : ∀ (l : List S43), rises (some e) l = true → rises p l = true
  | [], _ => rfl
  | x :: xs, h => by
    simp only [rises, Bool.and_eq_true, decide_eq_true_eq] at h ⊢
    refine ⟨⟨h.1.1, ?_⟩, h.2⟩
    cases p with
    | none => rfl
    | some d => have := hp d rfl; simp only [decide_eq_true_eq]; omega
theorem rises_takes (a : Int) : ∀ (l : List S43) (n : Int) (p : Option Int), 0 ≤ n → rises p l = true → rises p (takes a n l) = true
  | [], _, _, _, _ => rfl
  | y :: ys, n, p, h0, h => by
    have hr := h
    simp only [rises, Bool.and_eq_true] at hr
    have h2 := lotOk_iff.1 hr.1.1
    have hm := mn_bound h0 h2.2.2.1
    have i1 := rises_takes a ys n (some y.f2) h0 hr.2
    have i2 := rises_takes a ys (n - mn n y.f1) (some y.f2) (by omega) hr.2
    simp only [takes]
    by_cases c : y.f0 = a
    · rw [if_pos c]
      by_cases d : y.f1 - mn n y.f1 > 0
      · rw [if_pos d]
        have hk : lotOk (⟨y.f0, y.f1 - mn n y.f1, y.f2⟩ : S43) = true := by rw [lotOk_iff]; simp only; omega
        simp only [rises, Bool.and_eq_true]
        exact ⟨⟨hk, hr.1.2⟩, i2⟩
      · rw [if_neg d]
        refine rises_weaken (fun d hd => ?_) _ i2
        subst hd
        have := hr.1.2
        simpa using this
    · rw [if_neg c]
      simp only [rises, Bool.and_eq_true]
      exact ⟨⟨hr.1.1, hr.1.2⟩, i1⟩
theorem oldest_rises (a e : Int) : ∀ (l : List S43), rises (some e) l = true → (oldest a l).2 = 0 → e ≤ (oldest a l).1
  | [], _, h => by simp [oldest] at h
  | x :: xs, h, h2 => by
    have hr : lotOk x = true ∧ e ≤ x.f2 ∧ rises (some x.f2) xs = true := by
      simp only [rises, Bool.and_eq_true, decide_eq_true_eq] at h
      exact ⟨h.1.1, h.1.2, h.2⟩
    by_cases c : x.f0 = a
    · simp only [oldest]; rw [if_pos c]; exact hr.2.1
    · simp only [oldest] at h2 ⊢
      rw [if_neg c] at h2 ⊢
      have := oldest_rises a x.f2 xs hr.2.2 h2
      omega
theorem oldest_takes (a : Int) : ∀ (l : List S43) (n : Int) (p : Option Int), 0 ≤ n → rises p l = true → (oldest a (takes a n l)).2 = 0 → (oldest a l).2 = 0 ∧ (oldest a l).1 ≤ (oldest a (takes a n l)).1
  | [], n, p, _, _, h => by simp [takes, oldest] at h
  | y :: ys, n, p, h0, h, h2 => by
    have hr : lotOk y = true ∧ rises (some y.f2) ys = true := by
      simp only [rises, Bool.and_eq_true] at h
      exact ⟨h.1.1, h.2⟩
    have hk := lotOk_iff.1 hr.1
    have hm := mn_bound h0 hk.2.2.1
    simp only [takes] at h2 ⊢
    by_cases c : y.f0 = a
    · have e : oldest a (y :: ys) = (y.f2, 0) := by simp only [oldest]; rw [if_pos c]
      rw [e]
      refine ⟨rfl, ?_⟩
      rw [if_pos c] at h2 ⊢
      by_cases d : y.f1 - mn n y.f1 > 0
      · rw [if_pos d]
        simp only [oldest]; rw [if_pos c]; exact Int.le_refl _
      · rw [if_neg d] at h2 ⊢
        exact oldest_rises a y.f2 _ (rises_takes a ys _ _ (by omega) hr.2) h2
    · rw [if_neg c] at h2 ⊢
      simp only [oldest] at h2 ⊢
      rw [if_neg c] at h2 ⊢
      rw [if_neg c]
      exact oldest_takes a ys n (some y.f2) h0 hr.2 h2
theorem stockOk_mk {l : List S43} (h1 : l.length ≤ 30) (h2 : rises none l = true) : stockOk l = true := by
  simp only [stockOk, Bool.and_eq_true, decide_eq_true_eq]; exact ⟨h1, h2⟩
theorem stockOk_rises {l : List S43} (h : stockOk l = true) : rises none l = true := by
  simp only [stockOk, Bool.and_eq_true] at h; exact h.2
theorem takeAll_sheets : ∀ (ns : List Int) (k : Int) (o : List S43), rises none o = true → (∀ n ∈ ns, 0 ≤ n) → (takeAll k ns o).2 = 0 →
    rises none (takeAll k ns o).1 = true ∧ (∀ j : Nat, j < ns.length → sheets (k + j) o = sheets (k + j) (takeAll k ns o).1 + ns.getD j 0) ∧ (∀ b, b < k → sheets b (takeAll k ns o).1 = sheets b o)
  | [], k, o, h, _, _ => ⟨h, fun j hj => by simp at hj, fun b _ => rfl⟩
  | n :: ns, k, o, h, hn, h2 => by
    have n0 : 0 ≤ n := hn n (List.mem_cons_self ..)
    have hok : ∀ x ∈ o, lotOk x = true := rises_mem o none h
    simp only [takeAll] at h2 ⊢
    by_cases c : sheets k o < n
    · rw [if_pos c] at h2; cases h2
    rw [if_neg c] at h2 ⊢
    have hz : lacks k n o = 0 := (lacks_zero k o n n0 hok).2.2 (by omega)
    have hs := sheets_takes_same k o n n0 hok
    have ih := takeAll_sheets ns (k + 1) (takes k n o) (rises_takes k o n none n0 h) (fun x hx => hn x (List.mem_cons_of_mem _ hx)) h2
    refine ⟨ih.1, fun j hj => ?_, fun b hb => ?_⟩
    · cases j with
      | zero =>
        have := ih.2.2 k (by omega)
        rw [show k + ((0 : Nat) : Int) = k by omega]
        rw [this]
        simp only [List.getD_cons_zero]
        omega
      | succ j =>
        have h5 := ih.2.1 j (by simpa using hj)
        rw [show k + ((j + 1 : Nat) : Int) = k + 1 + (j : Int) by omega]
        rw [List.getD_cons_succ, ← h5]
        exact (sheets_takes_other k _ (by omega) o n).symm
    · rw [ih.2.2 b (by omega)]
      exact sheets_takes_other k b (by omega) o n
theorem likeLots_refl {l : List S43} (hl : l.length ≤ 9223372036854775806) : Ev (fun k => laws_likeLots9.f k l l) true := by
  have key : ∀ d i, i + d = l.length → Ev (fun k => laws_likeLots9.l0 k l l (i : Int)) true := by
    intro d
    induction d with
    | zero =>
      intro i hi
      refine Ev.succ ?_
      simp only [laws_likeLots9.l0]
      exact Ev.neg (by omega) (Ev.eq rfl)
    | succ d ih =>
      intro i hi
      have e1 : wrap64 ((i : Int) + 1) = ((i + 1 : Nat) : Int) := by rw [w64 (by omega) (by omega)]; omega
      refine Ev.succ ?_
      simp only [laws_likeLots9.l0, e1]
      exact Ev.pos (by omega) (Ev.pos (by omega) (Ev.pos (by omega) (Ev.neg (by simp) (ih (i + 1) (by omega)))))
  unfold laws_likeLots9.f
  exact Ev.pos rfl (key l.length 0 (by omega))
theorem spec_DrawTakeSheets_ok {c : List Int} (hc : ∀ y ∈ c, 0 ≤ y ∧ y ≤ 255) (hl : c.length ≤ 1048576) : ∃ l a n, Ev (fun k => spec_DrawTakeSheets.f k c) (l, a, n) ∧ l.length ≤ 40 := by
  obtain ⟨s0, E0, S0⟩ := spec_l01From_ev hc hl
  obtain ⟨l, p1, s1, E1, S1, hl1, hm1⟩ := spec_l25Draw_ok S0
  obtain ⟨a, p2, s2, e2, S2⟩ := spec_l25DrawKind_ok S1
  have E3 := spec_l25Sheets_mild (show l.length ≤ 1000 by omega) hm1 a
  obtain ⟨r, p4, s4, e4, S4, hr0, hr1⟩ := spec_l01Next_ok S2 10
  by_cases c0 : r = 0
  · obtain ⟨n, p5, s5, e5, S5, hn⟩ := spec_l01Pick_ok S4 [(-1), 0, sheets a l, wrap64 (sheets a l + 1), 1000000000, 1000000001] (by simp) (by simp)
    refine ⟨l, a, n, ?_, hl1⟩
    unfold spec_DrawTakeSheets.f
    exact Ev.bind E0 (Ev.bind E1 (Ev.bind (Ev.eq e2) (Ev.bind E3 (Ev.bind (Ev.eq e4) (Ev.pos c0 (Ev.bind (Ev.eq e5) (Ev.eq rfl)))))))
  · obtain ⟨n, p5, s5, e5, S5, hn⟩ := spec_l01Next_ok S4 (wrap64 (sheets a l + 1))
    refine ⟨l, a, n, ?_, hl1⟩
    unfold spec_DrawTakeSheets.f
    exact Ev.bind E0 (Ev.bind E1 (Ev.bind (Ev.eq e2) (Ev.bind E3 (Ev.bind (Ev.eq e4) (Ev.neg c0 (Ev.bind (Ev.eq e5) (Ev.eq rfl)))))))
theorem spec_DrawTakeAll_ok {c : List Int} (hc : ∀ y ∈ c, 0 ≤ y ∧ y ≤ 255) (hl : c.length ≤ 1048576) : ∃ l ns, Ev (fun k => spec_DrawTakeAll.f k c) (l, ns) ∧ l.length ≤ 40 ∧ ns.length ≤ 40 := by
  obtain ⟨s0, E0, S0⟩ := spec_l01From_ev hc hl
  obtain ⟨l, p1, s1, E1, S1, hl1, hm1⟩ := spec_l25Draw_ok S0
  have key : ∀ d i : Nat, i + d = 5 → ∀ (ns : List Int) (p s : Int), ns.length ≤ i → Src c p s → ∃ ns', Ev (fun k => spec_DrawTakeAll.l0 k l ns (i : Int) c p s) (l, ns') ∧ ns'.length ≤ 40 := by
    intro d
    induction d with
    | zero =>
      intro i hi ns p s hns hS
      obtain ⟨r, p2, s2, e2, S2, hr0, hr1⟩ := spec_l01Next_ok hS 5
      have hn : ¬ (i : Int) < r := by omega
      obtain ⟨q, p3, s3, e3, S3, hq0, hq1⟩ := spec_l01Next_ok S2 30
      by_cases c0 : q = 0
      · obtain ⟨z, p4, s4, e4, S4, hz0, hz1⟩ := spec_l01Next_ok S3 2
        have ew : wrap64 (20 + z) = 20 + z := w64 (by omega) (by omega)
        refine ⟨List.replicate (20 + z).toNat 0, Ev.succ ?_, by simp; omega⟩
        simp only [spec_DrawTakeAll.l0]
        refine Ev.bind (Ev.eq e2) (Ev.neg hn (Ev.bind (Ev.eq e3) (Ev.pos c0 (Ev.bind (Ev.eq e4) ?_))))
        simp only
        rw [ew]
        exact Ev.pos (by omega) (Ev.pos (by omega) (Ev.eq rfl))
      · by_cases c1 : q = 1
        · obtain ⟨z, p4, s4, e4, S4, hz⟩ := spec_l01Pick_ok S3 [(-1), 1000000001] (by simp) (by simp)
          refine ⟨ns ++ [z], Ev.succ ?_, by simp; omega⟩
          simp only [spec_DrawTakeAll.l0]
          exact Ev.bind (Ev.eq e2) (Ev.neg hn (Ev.bind (Ev.eq e3) (Ev.neg c0 (Ev.pos c1 (Ev.bind (Ev.eq e4) (Ev.pos (by omega) (Ev.eq rfl)))))))
        · refine ⟨ns, Ev.succ ?_, by omega⟩
          simp only [spec_DrawTakeAll.l0]
          exact Ev.bind (Ev.eq e2) (Ev.neg hn (Ev.bind (Ev.eq e3) (Ev.neg c0 (Ev.neg c1 (Ev.eq rfl)))))
    | succ d ih =>
      intro i hi ns p s hns hS
      obtain ⟨r, p2, s2, e2, S2, hr0, hr1⟩ := spec_l01Next_ok hS 5
      by_cases hn : (i : Int) < r
      · have E3 := spec_l25Sheets_mild (show l.length ≤ 1000 by omega) hm1 (i : Int)
        obtain ⟨q, p4, s4, e4, S4, hq0, hq1⟩ := spec_l01Next_ok S2 10
        obtain ⟨z, p5, s5, e5, S5, hz0, hz1⟩ := spec_l01Next_ok S4 (wrap64 ((wrap64 (sheets (i : Int) l + 1)) + (wrap64 (Int.tdiv q 9))))
        have e1 : wrap64 ((i : Int) + 1) = ((i + 1 : Nat) : Int) := by rw [w64 (by omega) (by omega)]; omega
        obtain ⟨ns', E6, h6⟩ := ih (i + 1) (by omega) (ns ++ [z]) p5 s5 (by simp; omega) S5
        refine ⟨ns', Ev.succ ?_, h6⟩
        simp only [spec_DrawTakeAll.l0, e1]
        exact Ev.bind (Ev.eq e2) (Ev.pos hn (Ev.bind E3 (Ev.bind (Ev.eq e4) (Ev.bind (Ev.eq e5) (Ev.pos (by omega) E6)))))
      · obtain ⟨q, p3, s3, e3, S3, hq0, hq1⟩ := spec_l01Next_ok S2 30
        by_cases c0 : q = 0
        · obtain ⟨z, p4, s4, e4, S4, hz0, hz1⟩ := spec_l01Next_ok S3 2
          have ew : wrap64 (20 + z) = 20 + z := w64 (by omega) (by omega)
          refine ⟨List.replicate (20 + z).toNat 0, Ev.succ ?_, by simp; omega⟩
          simp only [spec_DrawTakeAll.l0]
          refine Ev.bind (Ev.eq e2) (Ev.neg hn (Ev.bind (Ev.eq e3) (Ev.pos c0 (Ev.bind (Ev.eq e4) ?_))))
          simp only
          rw [ew]
          exact Ev.pos (by omega) (Ev.pos (by omega) (Ev.eq rfl))
        · by_cases c1 : q = 1
          · obtain ⟨z, p4, s4, e4, S4, hz⟩ := spec_l01Pick_ok S3 [(-1), 1000000001] (by simp) (by simp)
            refine ⟨ns ++ [z], Ev.succ ?_, by simp; omega⟩
            simp only [spec_DrawTakeAll.l0]
            exact Ev.bind (Ev.eq e2) (Ev.neg hn (Ev.bind (Ev.eq e3) (Ev.neg c0 (Ev.pos c1 (Ev.bind (Ev.eq e4) (Ev.pos (by omega) (Ev.eq rfl)))))))
          · refine ⟨ns, Ev.succ ?_, by omega⟩
            simp only [spec_DrawTakeAll.l0]
            exact Ev.bind (Ev.eq e2) (Ev.neg hn (Ev.bind (Ev.eq e3) (Ev.neg c0 (Ev.neg c1 (Ev.eq rfl)))))
  obtain ⟨ns, E2, h2⟩ := key 5 0 (by omega) [] p1 s1 (by simp) S1
  refine ⟨l, ns, ?_, hl1, h2⟩
  unfold spec_DrawTakeAll.f
  exact Ev.bind E0 (Ev.bind E1 E2)
/-- What stock, kind and number tell when they have been taken. -/
theorem taken_zero {l : List S43} {a n : Int} (h : (taken l a n).2 = 0) : stockOk l = true ∧ (0 ≤ a ∧ a ≤ 19) ∧ (0 ≤ n ∧ n ≤ 1000000000) ∧ n ≤ sheets a l ∧ (taken l a n).1 = takes a n l := by
  unfold taken at h ⊢
  by_cases c1 : kindCode l a = 0
  · rw [if_pos c1] at h ⊢
    by_cases c2 : 0 ≤ n ∧ n ≤ 1000000000
    · rw [if_pos c2] at h ⊢
      by_cases c3 : sheets a l < n
      · rw [if_pos c3] at h; cases h
      · rw [if_neg c3] at h ⊢
        exact ⟨(kindCode_zero c1).1, (kindCode_zero c1).2, c2, by omega, rfl⟩
    · rw [if_neg c2] at h; cases h
  · rw [if_neg c1] at h; exact absurd h c1
theorem allTaken_zero {l : List S43} {ns : List Int} (h : (allTaken l ns).2 = 0) : stockOk l = true ∧ (∀ n ∈ ns, 0 ≤ n ∧ n ≤ 1000000000) ∧ (ns.length : Int) ≤ 20 ∧ (takeAll 0 ns l).2 = 0 ∧ (allTaken l ns).1 = (takeAll 0 ns l).1 := by
  unfold allTaken at h ⊢
  by_cases c1 : stockOk l = true
  · rw [if_pos c1] at h ⊢
    by_cases c2 : allWithin 20 0 1000000000 ns = true
    · rw [if_pos c2] at h ⊢
      have := allWithin_iff.1 c2
      exact ⟨c1, this.1, this.2, h, rfl⟩
    · rw [if_neg c2] at h; cases h
  · rw [if_neg c1] at h; cases h
theorem small {i d m : Nat} (h : i + (d + 1) = m) (hm : m ≤ 20) : (0 : Int) ≤ (i : Int) ∧ (i : Int) ≤ 19 ∧ (i : Int) < (m : Int) ∧ i < m ∧ (i + 1) + d = m := by omega
theorem len20 {l : List Int} (h : (l.length : Int) ≤ 20) : l.length ≤ 20 := by omega
theorem law_l1 (l : List S43) (a n : Int) (h : (taken l a n).2 = 0) : ∀ d i : Nat, i + d = 20 →
    Ev (fun k => laws_FnTaken.l1 k l a n (taken l a n).1 (oldestOf l a).1 (oldestOf l a).2 (i : Int)) true := by
  obtain ⟨h1, h2, h3, h4, h5⟩ := taken_zero h
  have hok : ∀ x ∈ l, lotOk x = true := fun x hx => stockOk_mem h1 hx
  have hl := stockOk_len h1
  have hz : lacks a n l = 0 := (lacks_zero a l n h3.1 hok).2.2 h4
  have hs := sheets_takes_same a l n h3.1 hok
  have hlen := takes_length a l n
  have hr := rises_takes a l n none h3.1 (stockOk_rises h1)
  have hT : stockOk (takes a n l) = true := stockOk_mk (by omega) hr
  rw [h5]
  intro d
  induction d with
  | zero =>
    intro i hi
    refine Ev.succ ?_
    simp only [laws_FnTaken.l1]
    refine Ev.neg (by omega) (Ev.bind (impl_OldestDay_ev (by omega) a) (Ev.bind (impl_IsStock_ev (by omega)) (Ev.pos hT (Ev.ite (fun c => ?_) (fun c => Ev.eq rfl)))))
    have e1 : oldestOf (takes a n l) a = oldest a (takes a n l) := by unfold oldestOf; rw [if_pos (kindCode_ok hT h2.1 h2.2)]
    have e2 : oldestOf l a = oldest a l := by unfold oldestOf; rw [if_pos (kindCode_ok h1 h2.1 h2.2)]
    rw [e1] at c ⊢
    rw [e2]
    have ho := oldest_takes a l n none h3.1 (stockOk_rises h1) c
    exact Ev.pos ho.1 (Ev.eq (by rw [decide_eq_true ho.2]))
  | succ d ih =>
    intro i hi
    have e1 : wrap64 ((i : Int) + 1) = ((i + 1 : Nat) : Int) := by rw [w64 (by omega) (by omega)]; omega
    have hb := sheets_bound a (takes a n l) (takes_ok a l n h3.1 hok)
    refine Ev.succ ?_
    simp only [laws_FnTaken.l1, e1]
    have hi2 := small hi (Nat.le_refl 20)
    have g1 := impl_SheetsOf_ev (a := (i : Int)) h1 hi2.1 hi2.2.1
    have g2 := impl_SheetsOf_ev (a := (i : Int)) hT hi2.1 hi2.2.1
    have h6 := ih (i + 1) hi2.2.2.2.2
    have hi3 : (i : Int) < 20 := hi2.2.2.1
    have hl30 : (takes a n l).length ≤ 30 := Nat.le_trans hlen hl
    clear h h5 ih hok hr hlen hT h1 hl hi2
    have h7 := fun c => sheets_takes_other a (i : Int) c l n
    by_cases c : (i : Int) = a
    · subst c
      clear h7
      generalize sheets (i : Int) (takes (i : Int) n l) = B at g2 hs hb
      generalize sheets (i : Int) l = A at g1 h4 hs
      refine Ev.pos hi3 (Ev.bind g1 (Ev.bind g2 (Ev.pos (by simp only) (Ev.pos (by simp only) (Ev.pos rfl (Ev.pos ?_ h6))))))
      clear g1 g2 h6
      simp only
      rw [hz] at hs
      generalize (takes (i : Int) n l).length = L at hb hl30
      rw [w64 (by omega) (by omega)]
      omega
    · have h8 := h7 c
      generalize sheets (i : Int) (takes a n l) = B at g2 h8
      generalize sheets (i : Int) l = A at g1 h8
      exact Ev.pos hi3 (Ev.bind g1 (Ev.bind g2 (Ev.pos (by simp only) (Ev.pos (by simp only) (Ev.neg c (Ev.pos h8.symm h6))))))
theorem law_tail (l o : List S43) (ns : List Int) (a n : Int) (i : Int) : Ev (fun k => laws_FnTaken.j2 k l a n (taken l a n).1 (taken l a n).2 o ns (allTaken o ns).1 (allTaken o ns).2 (oldestOf l a).1 (oldestOf l a).2 i false) true := by
  refine Ev.succ ?_
  simp only [laws_FnTaken.j2]
  refine Ev.neg (by simp) (Ev.ite (fun h => law_l1 l a n h 20 0 (by omega)) (fun h => Ev.eq rfl))
theorem law_l0 (l o : List S43) (ns : List Int) (a n : Int) (hns : ns.length ≤ 40) : ∀ d i : Nat, i + d = ns.length →
    Ev (fun k => laws_FnTaken.l0 k l a n (taken l a n).1 (taken l a n).2 o ns (allTaken o ns).1 (allTaken o ns).2 (oldestOf l a).1 (oldestOf l a).2 (i : Int)) true := by
  intro d
  induction d with
  | zero =>
    intro i hi
    refine Ev.succ ?_
    simp only [laws_FnTaken.l0]
    refine Ev.ite (fun h => ?_) (fun h => law_tail l o ns a n i)
    have e : decide ((i : Int) < (ns.length : Int)) = false := decide_eq_false (by omega)
    rw [e]
    exact law_tail l o ns a n i
  | succ d ih =>
    intro i hi
    refine Ev.succ ?_
    simp only [laws_FnTaken.l0]
    refine Ev.ite (fun h => ?_) (fun h => law_tail l o ns a n i)
    have e : decide ((i : Int) < (ns.length : Int)) = true := decide_eq_true (by omega)
    rw [e]
    obtain ⟨h1, h2, h3, h4, h5⟩ := allTaken_zero h
    have hs := takeAll_sheets ns 0 o (stockOk_rises h1) (fun x hx => (h2 x hx).1) h4
    have hlen := takeAll_length ns 0 o
    have hl := stockOk_len h1
    have hU : stockOk (allTaken o ns).1 = true := by rw [h5]; exact stockOk_mk (Nat.le_trans hlen hl) hs.1
    have hil := (small hi (len20 h3)).2.2.2.1
    have hj := hs.2.1 i hil
    rw [← h5, Int.zero_add] at hj
    have hx := h2 _ (getD_mem ns 0 i hil)
    have hb := sheets_bound (i : Int) (allTaken o ns).1 (fun x hx => stockOk_mem hU hx)
    have hl2 := stockOk_len hU
    have e1 : wrap64 ((i : Int) + 1) = ((i + 1 : Nat) : Int) := by rw [w64 (by omega) (by omega)]; omega
    refine Ev.succ ?_
    simp only [laws_FnTaken.j2, rd_nat, e1]
    have hi2 := small hi (len20 h3)
    have g1 := impl_SheetsOf_ev (a := (i : Int)) h1 hi2.1 hi2.2.1
    have g2 := impl_SheetsOf_ev (a := (i : Int)) hU hi2.1 hi2.2.1
    have h6 := ih (i + 1) hi2.2.2.2.2
    clear h h1 h4 h5 hs hlen hl hU ih hi
    generalize (allTaken o ns).1.length = L at hb hl2
    have hi0 : (0 : Int) ≤ (i : Int) := hi2.1
    have hi4 : (i : Int) < (ns.length : Int) := hi2.2.2.1
    clear hi2
    generalize sheets (i : Int) (allTaken o ns).1 = B at g2 hj hb
    generalize sheets (i : Int) o = A at g1 hj
    refine Ev.pos (by trivial) (Ev.bind g1 (Ev.bind g2 (Ev.pos (by simp only) (Ev.pos (by simp only) (Ev.pos hi0 (Ev.pos hi4 (Ev.pos ?_ h6)))))))
    clear g1 g2 h6
    simp only
    rw [w64 (by omega) (by omega)]
    exact hj
theorem FnTaken : laws_FnTaken.Pure := by
  intro c hg
  refine Ev.rounds (g := fun k => laws_FnTaken.f k c) ?_
  unfold laws_FnTaken.f
  refine Ev.bind (a := decide ((c.length : Int) > 4096)) (Ev.eq rfl) (Ev.ite (fun _ => Ev.eq rfl) (fun h => ?_))
  have hc : c.length ≤ 1048576 := by
    simp only [decide_eq_true_eq] at h; omega
  obtain ⟨l, a, n, E1, hl⟩ := spec_DrawTakeSheets_ok hg.2 hc
  obtain ⟨o, ns, E2, ho, hns⟩ := spec_DrawTakeAll_ok hg.2 hc
  have t1 := taken_length l a n
  have t2 := allTaken_length o ns
  refine Ev.bind E1 (Ev.bind (impl_TakeSheets_ev (l := l) (by omega) a n) (Ev.bind (spec_TakeSheets_ev (l := l) (by omega) a n) (Ev.bind E2 (Ev.bind (impl_TakeAll_ev (l := o) (ns := ns) (by omega) (by omega)) (Ev.bind (spec_TakeAll_ev (l := o) (ns := ns) (by omega) (by omega)) (Ev.bind (impl_OldestDay_ev (l := l) (by omega) a) (Ev.bind (spec_OldestDay_ev (l := l) (by omega) a) ?_)))))))
  refine Ev.pos rfl (Ev.bind (likeLots_refl (l := (taken l a n).1) (by omega)) (Ev.pos rfl (Ev.pos rfl (Ev.bind (likeLots_refl (l := (allTaken o ns).1) (by omega)) (Ev.pos rfl (Ev.pos rfl (Ev.pos rfl (Ev.bind (impl_IsStock_ev (l := l) (by omega)) (Ev.bind (spec_IsStock_ev (l := l) (by omega)) (Ev.succ ?_))))))))))
  simp only [laws_FnTaken.j0]
  refine Ev.neg (by simp) (law_l0 l o ns a n (by omega) ns.length 0 (by omega))
end Go.Proofs.Ytanokgpnmbbajaa.Pure
end
