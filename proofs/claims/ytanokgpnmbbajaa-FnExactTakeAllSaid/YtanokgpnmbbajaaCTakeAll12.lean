-- Gathered by this session's program wip/tool/shake.py out of its own texts and of what the kit's print and the session's patches of it wrote for this claim.
import Derived.Test.YtanokgpnmbbajaaProg
import Derived.ArgAppend
import Derived.Below
import Derived.BigQuiet
import Derived.Deep.AppendLies
import Derived.Deep.CutBlock
import Derived.Deep.DeepCutAuto
import Derived.Deep.Draws
import Derived.Deep.LoopGhost
import Derived.Deep.OwnRows
import Derived.Deep.QuietTactic
import Derived.Deep.RegionHeld3
import Derived.KernelRfl
import Derived.Laws.BitsLemmas
import Derived.Laws.BytesArg
import Derived.Laws.IdiomCopy
import Derived.Laws.MakeOwn
import Derived.Laws.OwnMore
import Derived.Laws.Rows
import Derived.Laws.Slices
import Derived.Laws.StructEq
import Derived.Lib.AppendStr
import Derived.Lib.ConvBytes
import Derived.Maps.AppendAt
import Derived.OrdersHeld
import Derived.OwnWalk
import Derived.RowKit
import Derived.RowKit3
import Derived.Tactics
import Derived.WalkKit
import Derived.WideLaws
import Derived.Test.YtanokgpnmbbajaaCTakeAll6
import Derived.Test.YtanokgpnmbbajaaCTakeAll7
import Derived.Test.YtanokgpnmbbajaaCTakeAll8
import Derived.Test.YtanokgpnmbbajaaCTakeAll11
section
namespace Go.Proofs.Ytanokgpnmbbajaa.PA
open Go.RowKit Go.Proofs.YtanokgpnmbbajaaW.PrintWords Go.Proofs.YtanokgpnmbbajaaB
theorem spec_l01In_eq (a b c : Int) : spec_l01In.f a b c = some (decide (b ≤ a ∧ a ≤ c)) := by
  unfold spec_l01In.f
  split <;> simp <;> omega
theorem impl_inRange_eq (a b c : Int) : impl_inRange.f a b c = some (decide (b ≤ a ∧ a ≤ c)) := by
  unfold impl_inRange.f
  split <;> simp <;> omega
end Go.Proofs.Ytanokgpnmbbajaa.PA
end
section
namespace Go.Proofs.Ytanokgpnmbbajaa.PA
open Go.RowKit Go.Proofs.YtanokgpnmbbajaaW.PrintWords Go.Proofs.YtanokgpnmbbajaaB
set_option linter.unusedVariables false
set_option linter.unusedSimpArgs false
theorem rd_Lot (l : List S43) (i : Nat) : rd_T43 l (i : Int) = l.getD i z43 := by simp [rd_T43]
theorem rdL_Lot (l : List S41) (i : Nat) : rd_T41 l (i : Int) = l.getD i z41 := by simp [rd_T41]
def toLot (x : S41) : S43 := ⟨x.f0, x.f1, x.f2⟩
theorem laws_toLotS_l0 (l : List S41) (hl : l.length ≤ 1048576) : ∀ d i, i + d = l.length →
    Ev (fun k => laws_toLotS.l0 k l ((l.take i).map toLot ++ List.replicate (l.length - i) z43) (i : Int)) (l.map toLot) := by
  intro d
  induction d with
  | zero =>
    intro i hi
    refine Ev.succ ?_
    simp only [laws_toLotS.l0]
    refine Ev.neg (by omega) (Ev.eq ?_)
    have : i = l.length := by omega
    subst this
    simp
  | succ d ih =>
    intro i hi
    have h1 := fill_step l z41 z43 toLot i (by omega)
    have h2 := ih (i + 1) (by omega)
    refine Ev.succ ?_
    simp only [laws_toLotS.l0]
    refine Ev.pos (by omega) (Ev.pos (by omega) (Ev.bind (Ev.eq rfl) (Ev.pos (by simp; omega) ?_)))
    rw [rdL_Lot, w64 (by omega) (by omega), Int.toNat_natCast]
    rw [← h1] at h2
    exact h2
theorem laws_toLotS_ev {l : List S41} (hl : l.length ≤ 1048576) : Ev (fun k => laws_toLotS.f k l) (l.map toLot) := by
  have h := laws_toLotS_l0 l hl l.length 0 (by omega)
  unfold laws_toLotS.f
  refine Ev.pos (by omega) (Ev.pos (by omega) ?_)
  rw [Int.toNat_natCast]
  simpa using h
theorem laws_eqLotS_l0 (l : List S43) (hl : l.length ≤ 9223372036854775806) : ∀ d i, i + d = l.length → Ev (fun k => laws_eqLotS.l0 k l l (i : Int)) true := by
  intro d
  induction d with
  | zero =>
    intro i hi
    refine Ev.succ ?_
    simp only [laws_eqLotS.l0]
    exact Ev.neg (by omega) (Ev.eq rfl)
  | succ d ih =>
    intro i hi
    have h2 := ih (i + 1) (by omega)
    refine Ev.succ ?_
    simp only [laws_eqLotS.l0]
    refine Ev.pos (by omega) (Ev.pos (by omega) (Ev.pos (by omega) (Ev.bind (a := true) (Ev.eq (by simp [laws_eqLot.f])) (Ev.pos rfl ?_))))
    rw [w64 (by omega) (by omega)]
    exact h2
theorem laws_eqLotS_refl {l : List S43} (hl : l.length ≤ 9223372036854775806) : Ev (fun k => laws_eqLotS.f k l l) true := by
  unfold laws_eqLotS.f
  exact Ev.pos rfl (laws_eqLotS_l0 l hl l.length 0 (by omega))
theorem laws_szLotS_eq {l : List S41} (hl : l.length ≤ 9223372036854775807) : ∃ r, laws_szLotS.f l 1048576 = some r ∧ (r < 0 ↔ ¬ l.length ≤ 1048576) := by
  unfold laws_szLotS.f
  rw [w64 (by omega) (by omega)]
  split
  · exact ⟨_, rfl, by omega⟩
  · exact ⟨_, rfl, by omega⟩
/-- A list marked with numbers from one on. -/
def markLot : Int → List S43 → List S43
  | _, [] => []
  | n, _ :: xs => ⟨n, n + 1, n + 2⟩ :: markLot (n + 3) xs
theorem mid_Lot (A B : List S43) (x : S43) : (A ++ x :: B).getD A.length z43 = x := by simp [List.getD]
theorem put_Lot (A B : List S43) (x y : S43) : (A ++ x :: B).set A.length y = A ++ y :: B := by simp
theorem laws_markLotS_l0 : ∀ (B A : List S43) (n : Int), A.length + B.length ≤ 1152921504606846976 → 0 ≤ n → n + 3 * (B.length : Int) ≤ 4611686018427387904 →
    Ev (fun k => laws_markLotS.l0 k (A ++ B) n (A.length : Int)) (n + 3 * (B.length : Int), A ++ markLot n B) := by
  intro B
  induction B with
  | nil =>
    intro A n hl h0 hn
    refine Ev.succ ?_
    simp only [laws_markLotS.l0]
    exact Ev.neg (by simp) (Ev.eq (by simp [markLot]))
  | cons x xs ih =>
    intro A n hl h0 hn
    simp only [List.length_cons] at hl hn
    refine Ev.succ ?_
    simp only [laws_markLotS.l0, rd_Lot, Int.toNat_natCast, mid_Lot, put_Lot, Option.bind_some]
    refine Ev.pos (by simp; omega) (Ev.pos (by omega) ?_)
    have e1 : wrap64 ((A.length : Int) + 1) = ((A ++ [(⟨n, n + 1, n + 2⟩ : S43)]).length : Int) := by rw [w64 (by omega) (by omega)]; simp
    have w1 : wrap64 (n + 1) = n + 1 := by rw [w64 (by omega) (by omega)]; try omega
    have w2 : wrap64 (n + 1 + 1) = n + 2 := by rw [w64 (by omega) (by omega)]; try omega
    have w3 : wrap64 (n + 2 + 1) = n + 3 := by rw [w64 (by omega) (by omega)]; try omega
    have h3 := ih (A ++ [(⟨n, n + 1, n + 2⟩ : S43)]) (n + 3) (by simp; omega) (by omega) (by omega)
    simp only [w1, w2, w3, e1]
    simp only [List.append_assoc, List.cons_append, List.nil_append] at h3 ⊢
    refine h3.cast ?_
    simp only [markLot, List.length_cons]
    congr 1
    omega
theorem laws_markLotS_ev {l : List S43} {n : Int} (hl : l.length ≤ 1048576000) (h0 : 0 ≤ n) (hn : n ≤ 1152921504606846976) : Ev (fun k => laws_markLotS.f k l n) (n + 3 * (l.length : Int), markLot n l) := by
  unfold laws_markLotS.f
  have h := laws_markLotS_l0 l [] n (by simp; omega) h0 (by omega)
  simpa using h
theorem laws_heldLotS_l0 : ∀ (B A : List S43) (n : Int), A.length + B.length ≤ 1152921504606846976 → 0 ≤ n → n + 3 * (B.length : Int) ≤ 4611686018427387904 →
    Ev (fun k => laws_heldLotS.l0 k (A ++ markLot n B) n (A.length : Int)) (n + 3 * (B.length : Int)) := by
  intro B
  induction B with
  | nil =>
    intro A n hl h0 hn
    refine Ev.succ ?_
    simp only [laws_heldLotS.l0, markLot]
    exact Ev.neg (by simp) (Ev.eq (by simp))
  | cons x xs ih =>
    intro A n hl h0 hn
    simp only [List.length_cons] at hl hn
    refine Ev.succ ?_
    simp only [laws_heldLotS.l0, rd_Lot, markLot, mid_Lot]
    have e1 : wrap64 ((A.length : Int) + 1) = ((A ++ [(⟨n, n + 1, n + 2⟩ : S43)]).length : Int) := by rw [w64 (by omega) (by omega)]; simp
    have w1 : wrap64 (n + 1) = n + 1 := by rw [w64 (by omega) (by omega)]; try omega
    have w2 : wrap64 (n + 1 + 1) = n + 2 := by rw [w64 (by omega) (by omega)]; try omega
    have w3 : wrap64 (n + 2 + 1) = n + 3 := by rw [w64 (by omega) (by omega)]; try omega
    have h3 := ih (A ++ [(⟨n, n + 1, n + 2⟩ : S43)]) (n + 3) (by simp; omega) (by omega) (by omega)
    simp only [w1, w2, w3, e1]
    simp only [List.append_assoc, List.cons_append, List.nil_append] at h3
    refine Ev.pos (by simp; omega) (Ev.pos (by omega) (Ev.pos (by trivial) (Ev.pos (by trivial) (Ev.pos (by trivial) (h3.cast ?_)))))
    simp only [List.length_cons]
    omega
theorem laws_heldLotS_ev {l : List S43} {n : Int} (hl : l.length ≤ 1048576000) (h0 : 0 ≤ n) (hn : n ≤ 1152921504606846976) : Ev (fun k => laws_heldLotS.f k (markLot n l) n) (n + 3 * (l.length : Int)) := by
  unfold laws_heldLotS.f
  exact laws_heldLotS_l0 l [] n (by simp; omega) h0 (by omega)
end Go.Proofs.Ytanokgpnmbbajaa.PA
end
section
namespace Go.Proofs.Ytanokgpnmbbajaa.PA
open Go.RowKit Go.Proofs.YtanokgpnmbbajaaW.PrintWords Go.Proofs.YtanokgpnmbbajaaB
set_option linter.unusedVariables false
set_option linter.unusedSimpArgs false
def lotOk3 (a b c : Int) : Bool := decide (0 ≤ a ∧ a ≤ 19 ∧ 1 ≤ b ∧ b ≤ 1000000 ∧ 0 ≤ c ∧ c ≤ 100000)
def lotOk (x : S43) : Bool := lotOk3 x.f0 x.f1 x.f2
/-- The lots from one on are valid, and their days rise from a day on. -/
def rises : Option Int → List S43 → Bool
  | _, [] => true
  | p, x :: xs => lotOk x && (match p with | none => true | some d => decide (d ≤ x.f2)) && rises (some x.f2) xs
def stockOk (l : List S43) : Bool := decide (l.length ≤ 30) && rises none l
def prevDay (l : List S43) (i : Nat) : Option Int := if i = 0 then none else some (l.getD (i - 1) z43).f2
theorem spec_l25Lot_eq (a b c : Int) : spec_l25Lot.f a b c = some (lotOk3 a b c) := by
  unfold spec_l25Lot.f lotOk3
  simp only [spec_l01In_eq, Option.bind_some, decide_eq_true_eq]
  repeat' split
  all_goals (congr 1; rw [Bool.eq_iff_iff]; simp only [decide_eq_true_eq, beq_iff_eq, bne_iff_ne, true_iff, false_iff, iff_true, iff_false, Bool.false_eq_true, Bool.and_eq_true, Bool.not_eq_true']; omega)
theorem impl_isLot_eq (a b c : Int) : impl_isLot.f a b c = some (lotOk3 a b c) := by
  unfold impl_isLot.f impl_isKind.f impl_isMinutes.f lotOk3
  simp only [impl_inRange_eq, Option.bind_some, decide_eq_true_eq]
  repeat' split
  all_goals (congr 1; rw [Bool.eq_iff_iff]; simp only [decide_eq_true_eq, beq_iff_eq, bne_iff_ne, true_iff, false_iff, iff_true, iff_false, Bool.false_eq_true, Bool.and_eq_true, Bool.not_eq_true']; omega)
theorem spec_IsStock_l0 (l : List S43) (hl : l.length ≤ 9223372036854775806) : ∀ d i, i + d = l.length →
    Ev (fun k => spec_IsStock.l0 k l (i : Int)) (decide (l.length ≤ 30) && rises (prevDay l i) (l.drop i)) := by
  intro d
  induction d with
  | zero =>
    intro i hi
    refine Ev.succ ?_
    simp only [spec_IsStock.l0]
    refine Ev.neg (by omega) (Ev.eq ?_)
    have : l.drop i = [] := List.drop_eq_nil_of_le (by omega)
    rw [this]
    have e : ((l.length : Int) ≤ 30) ↔ l.length ≤ 30 := by omega
    simp [rises, e]
  | succ d ih =>
    intro i hi
    rw [getD_drop l z43 i (by omega)]
    have h3 := ih (i + 1) (by omega)
    refine Ev.succ ?_
    simp only [spec_IsStock.l0, rd_Lot]
    refine Ev.pos (by omega) (Ev.pos (by omega) (Ev.bind (Ev.eq (spec_l25Lot_eq _ _ _)) ?_))
    have ep : prevDay l (i + 1) = some (l.getD i z43).f2 := by simp [prevDay]
    rw [ep] at h3
    generalize l.getD i z43 = x at h3 ⊢
    simp only [rises]
    cases hx : lotOk3 x.f0 x.f1 x.f2 with
    | false => exact Ev.neg (by simp) (Ev.eq (by simp [lotOk, hx]))
    | true =>
      refine Ev.pos rfl ?_
      have e1 : wrap64 ((i : Int) + 1) = ((i + 1 : Nat) : Int) := by rw [w64 (by omega) (by omega)]; omega
      by_cases h0 : i = 0
      · subst h0
        refine Ev.neg (by omega) ?_
        rw [e1]
        exact h3.cast (by simp [prevDay, lotOk, hx])
      · have e2 : wrap64 ((i : Int) - 1) = ((i - 1 : Nat) : Int) := by rw [w64 (by omega) (by omega)]; omega
        rw [e2, rd_Lot, e1]
        have eq : prevDay l i = some (l.getD (i - 1) z43).f2 := by rw [prevDay, if_neg h0]
        rw [eq]
        generalize l.getD (i - 1) z43 = y
        refine Ev.pos (by omega) (Ev.pos (by omega) (Ev.pos (by omega) (Ev.ite (fun h => Ev.eq ?_) (fun h => h3.cast ?_))))
        · have h' : ¬ y.f2 ≤ x.f2 := by omega
          simp [lotOk, hx, h']
        · have h' : y.f2 ≤ x.f2 := by omega
          simp [lotOk, hx, h']
theorem impl_IsStock_l0 (l : List S43) (hl : l.length ≤ 30) : ∀ d i, i + d = l.length →
    Ev (fun k => impl_IsStock.l0 k l l (l.length : Int) (i : Int)) (rises (prevDay l i) (l.drop i)) := by
  intro d
  induction d with
  | zero =>
    intro i hi
    refine Ev.succ ?_
    simp only [impl_IsStock.l0]
    refine Ev.neg (by omega) (Ev.eq ?_)
    have : l.drop i = [] := List.drop_eq_nil_of_le (by omega)
    rw [this]
    simp [rises]
  | succ d ih =>
    intro i hi
    rw [getD_drop l z43 i (by omega)]
    have h3 := ih (i + 1) (by omega)
    refine Ev.succ ?_
    simp only [impl_IsStock.l0, rd_Lot]
    refine Ev.pos (by omega) (Ev.pos (by omega) (Ev.pos (by omega) (Ev.bind (Ev.eq (impl_isLot_eq _ _ _)) ?_)))
    have ep : prevDay l (i + 1) = some (l.getD i z43).f2 := by simp [prevDay]
    rw [ep] at h3
    generalize l.getD i z43 = x at h3 ⊢
    simp only [rises]
    cases hx : lotOk3 x.f0 x.f1 x.f2 with
    | false => exact Ev.neg (by simp) (Ev.eq (by simp [lotOk, hx]))
    | true =>
      refine Ev.pos rfl ?_
      have e1 : wrap64 ((i : Int) + 1) = ((i + 1 : Nat) : Int) := by rw [w64 (by omega) (by omega)]; omega
      by_cases h0 : i = 0
      · subst h0
        refine Ev.neg (by omega) ?_
        rw [e1]
        exact h3.cast (by simp [prevDay, lotOk, hx])
      · have e2 : wrap64 ((i : Int) - 1) = ((i - 1 : Nat) : Int) := by rw [w64 (by omega) (by omega)]; omega
        rw [e2, rd_Lot, e1]
        have eq : prevDay l i = some (l.getD (i - 1) z43).f2 := by rw [prevDay, if_neg h0]
        rw [eq]
        generalize l.getD (i - 1) z43 = y
        refine Ev.pos (by omega) (Ev.pos (by omega) (Ev.pos (by omega) (Ev.ite (fun h => Ev.eq ?_) (fun h => h3.cast ?_))))
        · have h' : ¬ y.f2 ≤ x.f2 := by omega
          simp [lotOk, hx, h']
        · have h' : y.f2 ≤ x.f2 := by omega
          simp [lotOk, hx, h']
theorem spec_IsStock_ev {l : List S43} (hl : l.length ≤ 9223372036854775806) : Ev (fun k => spec_IsStock.f k l) (stockOk l) := by
  unfold spec_IsStock.f
  exact spec_IsStock_l0 l hl l.length 0 (by omega)
theorem impl_IsStock_ev {l : List S43} (hl : l.length ≤ 9223372036854775806) : Ev (fun k => impl_IsStock.f k l) (stockOk l) := by
  unfold impl_IsStock.f
  refine Ev.ite (fun h => Ev.eq ?_) (fun h => (impl_IsStock_l0 l (by omega) l.length 0 (by omega)).cast ?_)
  · have : ¬ l.length ≤ 30 := by omega
    simp [stockOk, this]
  · have : l.length ≤ 30 := by omega
    simp [stockOk, this, prevDay]
theorem rises_mem : ∀ (l : List S43) (p : Option Int), rises p l = true → ∀ x ∈ l, lotOk x = true
  | [], _, _, x, hx => by cases hx
  | y :: ys, p, h, x, hx => by
    simp only [rises, Bool.and_eq_true] at h
    rcases List.mem_cons.1 hx with rfl | hx
    · exact h.1.1
    · exact rises_mem ys _ h.2 x hx
theorem stockOk_len {l : List S43} (h : stockOk l = true) : l.length ≤ 30 := by
  simp only [stockOk, Bool.and_eq_true, decide_eq_true_eq] at h; exact h.1
theorem stockOk_mem {l : List S43} (h : stockOk l = true) {x : S43} (hx : x ∈ l) : lotOk x = true := by
  simp only [stockOk, Bool.and_eq_true] at h; exact rises_mem l _ h.2 x hx
theorem lotOk_iff {x : S43} : lotOk x = true ↔ (0 ≤ x.f0 ∧ x.f0 ≤ 19 ∧ 1 ≤ x.f1 ∧ x.f1 ≤ 1000000 ∧ 0 ≤ x.f2 ∧ x.f2 ≤ 100000) := by simp [lotOk, lotOk3]
end Go.Proofs.Ytanokgpnmbbajaa.PA
end
section
namespace Go.Proofs.Ytanokgpnmbbajaa.PA
open Go.RowKit Go.Proofs.YtanokgpnmbbajaaW.PrintWords Go.Proofs.YtanokgpnmbbajaaB
set_option linter.unusedVariables false
set_option linter.unusedSimpArgs false
/-- The sheets of a kind. -/
def sheets (a : Int) : List S43 → Int
  | [] => 0
  | x :: xs => (if x.f0 = a then x.f1 else 0) + sheets a xs
theorem sheets_bound (a : Int) : ∀ l : List S43, (∀ x ∈ l, lotOk x = true) → 0 ≤ sheets a l ∧ sheets a l ≤ 1000000 * l.length
  | [], _ => by simp [sheets]
  | x :: xs, h => by
    have h1 := sheets_bound a xs (fun y hy => h y (List.mem_cons_of_mem _ hy))
    have h2 := lotOk_iff.1 (h x (List.mem_cons_self ..))
    simp only [sheets, List.length_cons]
    split <;> omega
theorem spec_l25Sheets_l0 (l : List S43) (a : Int) (hl : l.length ≤ 30) (hok : ∀ x ∈ l, lotOk x = true) : ∀ d i, i + d = l.length → ∀ n : Int, 0 ≤ n → n ≤ 1000000 * (i : Int) →
    Ev (fun k => spec_l25Sheets.l0 k l a n (i : Int)) (n + sheets a (l.drop i)) := by
  intro d
  induction d with
  | zero =>
    intro i hi n h0 hn
    refine Ev.succ ?_
    simp only [spec_l25Sheets.l0]
    refine Ev.neg (by omega) (Ev.eq ?_)
    have : l.drop i = [] := List.drop_eq_nil_of_le (by omega)
    rw [this]
    simp [sheets]
  | succ d ih =>
    intro i hi n h0 hn
    rw [getD_drop l z43 i (by omega)]
    have hx := lotOk_iff.1 (hok _ (getD_mem l z43 i (by omega)))
    have e1 : wrap64 ((i : Int) + 1) = ((i + 1 : Nat) : Int) := by rw [w64 (by omega) (by omega)]; omega
    refine Ev.succ ?_
    simp only [spec_l25Sheets.l0, rd_Lot, e1]
    refine Ev.pos (by omega) (Ev.pos (by omega) (Ev.ite (fun h => ?_) (fun h => ?_)))
    · rw [w64 (by omega) (by omega)]
      refine (ih (i + 1) (by omega) _ (by omega) (by omega)).cast ?_
      simp only [sheets, if_pos h]; omega
    · refine (ih (i + 1) (by omega) _ (by omega) (by omega)).cast ?_
      simp only [sheets, if_neg h]; omega
end Go.Proofs.Ytanokgpnmbbajaa.PA
end
section
namespace Go.Proofs.Ytanokgpnmbbajaa.PA
open Go.RowKit Go.Proofs.YtanokgpnmbbajaaW.PrintWords Go.Proofs.YtanokgpnmbbajaaB
set_option linter.unusedVariables false
set_option linter.unusedSimpArgs false
/-- The stock after sheets of a kind have been taken, and how many are lacking. -/
def takes (a : Int) : Int → List S43 → List S43
  | _, [] => []
  | n, x :: xs => if x.f0 = a then (if x.f1 - mn n x.f1 > 0 then ⟨x.f0, x.f1 - mn n x.f1, x.f2⟩ :: takes a (n - mn n x.f1) xs else takes a (n - mn n x.f1) xs) else x :: takes a n xs
def lacks (a : Int) : Int → List S43 → Int
  | n, [] => n
  | n, x :: xs => if x.f0 = a then lacks a (n - mn n x.f1) xs else lacks a n xs
theorem mn_bound {n b : Int} (h : 0 ≤ n) (h2 : 1 ≤ b) : 0 ≤ mn n b ∧ mn n b ≤ b ∧ mn n b ≤ n := by
  unfold mn; split <;> omega
theorem takes_length (a : Int) : ∀ (l : List S43) (n : Int), (takes a n l).length ≤ l.length
  | [], _ => by simp [takes]
  | x :: xs, n => by
    have h1 := takes_length a xs n
    have h2 := takes_length a xs (n - mn n x.f1)
    simp only [takes]
    split
    · split <;> simp <;> omega
    · simp; omega
theorem takes_ok (a : Int) : ∀ (l : List S43) (n : Int), 0 ≤ n → (∀ x ∈ l, lotOk x = true) → ∀ x ∈ takes a n l, lotOk x = true
  | [], _, _, _, x, hx => by simp [takes] at hx
  | y :: ys, n, h0, h, x, hx => by
    have h2 := lotOk_iff.1 (h y (List.mem_cons_self ..))
    have hm := mn_bound h0 h2.2.2.1
    have hs : ∀ x ∈ ys, lotOk x = true := fun z hz => h z (List.mem_cons_of_mem _ hz)
    have i1 := takes_ok a ys n h0 hs x
    have i2 := takes_ok a ys (n - mn n y.f1) (by omega) hs x
    simp only [takes] at hx
    split at hx
    · split at hx
      · rcases List.mem_cons.1 hx with rfl | hx
        · rw [lotOk_iff]; simp only; omega
        · exact i2 hx
      · exact i2 hx
    · rcases List.mem_cons.1 hx with rfl | hx
      · exact h _ (List.mem_cons_self ..)
      · exact i1 hx
theorem lacks_zero (a : Int) : ∀ (l : List S43) (n : Int), 0 ≤ n → (∀ x ∈ l, lotOk x = true) → 0 ≤ lacks a n l ∧ (lacks a n l = 0 ↔ n ≤ sheets a l)
  | [], n, h0, _ => by simp only [lacks, sheets]; omega
  | y :: ys, n, h0, h => by
    have h2 := lotOk_iff.1 (h y (List.mem_cons_self ..))
    have hm := mn_bound h0 h2.2.2.1
    have hs : ∀ x ∈ ys, lotOk x = true := fun z hz => h z (List.mem_cons_of_mem _ hz)
    have i1 := lacks_zero a ys n h0 hs
    have i2 := lacks_zero a ys (n - mn n y.f1) (by omega) hs
    have hb := (sheets_bound a ys hs).1
    simp only [lacks, sheets]
    split
    · refine ⟨i2.1, i2.2.trans ?_⟩
      unfold mn at *
      split at hm <;> split <;> omega
    · rw [Int.zero_add]; exact i1
theorem spec_l25Take_l0 (l : List S43) (a : Int) (hl : l.length ≤ 30) (hok : ∀ x ∈ l, lotOk x = true) : ∀ d i, i + d = l.length → ∀ (o : List S43) (n : Int), o.length ≤ i → 0 ≤ n → n ≤ 1000000000 →
    Ev (fun k => spec_l25Take.l0 k l a n o (i : Int)) (o ++ takes a n (l.drop i)) := by
  intro d
  induction d with
  | zero =>
    intro i hi o n ho h0 hn
    refine Ev.succ ?_
    simp only [spec_l25Take.l0]
    refine Ev.neg (by omega) (Ev.eq ?_)
    have : l.drop i = [] := List.drop_eq_nil_of_le (by omega)
    rw [this]
    simp [takes]
  | succ d ih =>
    intro i hi o n ho h0 hn
    rw [getD_drop l z43 i (by omega)]
    have hx := lotOk_iff.1 (hok _ (getD_mem l z43 i (by omega)))
    have e1 : wrap64 ((i : Int) + 1) = ((i + 1 : Nat) : Int) := by rw [w64 (by omega) (by omega)]; omega
    refine Ev.succ ?_
    simp only [spec_l25Take.l0, rd_Lot, e1]
    generalize l.getD i z43 = x at hx ⊢
    have hm := mn_bound h0 hx.2.2.1
    rw [w64 (x := x.f1 - mn n x.f1) (by omega) (by omega), w64 (x := n - mn n x.f1) (by omega) (by omega)]
    refine Ev.pos (by omega) (Ev.pos (by omega) (Ev.ite (fun h => Ev.ite (fun h2 => Ev.pos (by omega) ?_) (fun h2 => ?_)) (fun h => Ev.pos (by omega) (Ev.pos (by omega) ?_))))
    · refine (ih (i + 1) (by omega) _ _ (by simp; omega) (by omega) (by omega)).cast ?_
      simp only [takes, if_pos h, if_pos h2, List.append_assoc, List.cons_append, List.nil_append]
    · refine (ih (i + 1) (by omega) _ _ (by omega) (by omega) (by omega)).cast ?_
      simp only [takes, if_pos h, if_neg h2]
    · refine (ih (i + 1) (by omega) _ _ (by simp; omega) (by omega) (by omega)).cast ?_
      simp only [takes, if_neg h, List.append_assoc, List.cons_append, List.nil_append]
theorem impl_take_l0 (l : List S43) (a : Int) (hl : l.length ≤ 30) (hok : ∀ x ∈ l, lotOk x = true) : ∀ d i, i + d = l.length → ∀ (o : List S43) (n : Int), o.length ≤ i → 0 ≤ n → n ≤ 1000000000 →
    Ev (fun k => impl_take.l0 k a n o l (l.length : Int) (i : Int)) (o ++ takes a n (l.drop i), lacks a n (l.drop i) == 0) := by
  intro d
  induction d with
  | zero =>
    intro i hi o n ho h0 hn
    refine Ev.succ ?_
    simp only [impl_take.l0]
    refine Ev.neg (by omega) (Ev.eq ?_)
    have : l.drop i = [] := List.drop_eq_nil_of_le (by omega)
    rw [this]
    simp [takes, lacks]
  | succ d ih =>
    intro i hi o n ho h0 hn
    rw [getD_drop l z43 i (by omega)]
    have hx := lotOk_iff.1 (hok _ (getD_mem l z43 i (by omega)))
    have e1 : wrap64 ((i : Int) + 1) = ((i + 1 : Nat) : Int) := by rw [w64 (by omega) (by omega)]; omega
    refine Ev.succ ?_
    simp only [impl_take.l0, rd_Lot, e1]
    generalize l.getD i z43 = x at hx ⊢
    have hm := mn_bound h0 hx.2.2.1
    rw [w64 (x := x.f1 - mn n x.f1) (by omega) (by omega), w64 (x := n - mn n x.f1) (by omega) (by omega)]
    refine Ev.pos (by omega) (Ev.pos (by omega) (Ev.pos (by omega) (Ev.ite (fun h => Ev.ite (fun h2 => Ev.pos (by omega) ?_) (fun h2 => ?_)) (fun h => Ev.pos (by omega) (Ev.pos (by omega) ?_)))))
    · refine (ih (i + 1) (by omega) _ _ (by simp; omega) (by omega) (by omega)).cast ?_
      simp only [takes, lacks, if_pos h, if_pos h2, List.append_assoc, List.cons_append, List.nil_append]
    · refine (ih (i + 1) (by omega) _ _ (by omega) (by omega) (by omega)).cast ?_
      simp only [takes, lacks, if_pos h, if_neg h2]
    · refine (ih (i + 1) (by omega) _ _ (by simp; omega) (by omega) (by omega)).cast ?_
      simp only [takes, lacks, if_neg h, List.append_assoc, List.cons_append, List.nil_append]
theorem spec_l25Take_ev {l : List S43} {n : Int} (hl : l.length ≤ 30) (hok : ∀ x ∈ l, lotOk x = true) (a : Int) (h0 : 0 ≤ n) (hn : n ≤ 1000000000) : Ev (fun k => spec_l25Take.f k l a n) (takes a n l) := by
  unfold spec_l25Take.f
  exact (spec_l25Take_l0 l a hl hok l.length 0 (by omega) [] n (by simp) h0 hn).cast (by simp)
theorem impl_take_ev {l : List S43} {n : Int} (hl : l.length ≤ 30) (hok : ∀ x ∈ l, lotOk x = true) (a : Int) (h0 : 0 ≤ n) (hn : n ≤ 1000000000) : Ev (fun k => impl_take.f k l a n) (takes a n l, lacks a n l == 0) := by
  unfold impl_take.f
  exact (impl_take_l0 l a hl hok l.length 0 (by omega) [] n (by simp) h0 hn).cast (by simp)
end Go.Proofs.Ytanokgpnmbbajaa.PA
end
section
namespace Go.Proofs.Ytanokgpnmbbajaa.PA
open Go.RowKit Go.Proofs.YtanokgpnmbbajaaW.PrintWords Go.Proofs.YtanokgpnmbbajaaB
set_option linter.unusedVariables false
set_option linter.unusedSimpArgs false
theorem laws_toInt64S_l0 (l : List Int) (hl : l.length ≤ 1048576) : ∀ d i, i + d = l.length →
    Ev (fun k => laws_toInt64S.l0 k l (l.take i ++ List.replicate (l.length - i) 0) (i : Int)) l := by
  intro d
  induction d with
  | zero =>
    intro i hi
    refine Ev.succ ?_
    simp only [laws_toInt64S.l0]
    refine Ev.neg (by omega) (Ev.eq ?_)
    have : i = l.length := by omega
    subst this
    simp
  | succ d ih =>
    intro i hi
    have h1 := fill_step l (0 : Int) (0 : Int) id i (by omega)
    simp only [List.map_id, id] at h1
    have h2 := ih (i + 1) (by omega)
    refine Ev.succ ?_
    simp only [laws_toInt64S.l0, rd_nat, Int.toNat_natCast]
    have e1 : wrap64 ((i : Int) + 1) = ((i + 1 : Nat) : Int) := by rw [w64 (by omega) (by omega)]; omega
    refine Ev.pos (by omega) (Ev.pos (by omega) (Ev.pos (by simp; omega) ?_))
    rw [← h1] at h2
    rw [e1]
    exact h2
theorem laws_toInt64S_ev {l : List Int} (hl : l.length ≤ 1048576) : Ev (fun k => laws_toInt64S.f k l) l := by
  have h := laws_toInt64S_l0 l hl l.length 0 (by omega)
  unfold laws_toInt64S.f
  refine Ev.pos (by omega) (Ev.pos (by omega) ?_)
  rw [Int.toNat_natCast]
  simpa using h
theorem laws_eqInt64S_l0 (l : List Int) (hl : l.length ≤ 9223372036854775806) : ∀ d i, i + d = l.length → Ev (fun k => laws_eqInt64S.l0 k l l (i : Int)) true := by
  intro d
  induction d with
  | zero =>
    intro i hi
    refine Ev.succ ?_
    simp only [laws_eqInt64S.l0]
    exact Ev.neg (by omega) (Ev.eq rfl)
  | succ d ih =>
    intro i hi
    have h2 := ih (i + 1) (by omega)
    refine Ev.succ ?_
    simp only [laws_eqInt64S.l0]
    refine Ev.pos (by omega) (Ev.pos (by omega) (Ev.pos (by omega) (Ev.pos (by trivial) ?_)))
    rw [w64 (by omega) (by omega)]
    exact h2
theorem laws_eqInt64S_refl {l : List Int} (hl : l.length ≤ 9223372036854775806) : Ev (fun k => laws_eqInt64S.f k l l) true := by
  unfold laws_eqInt64S.f
  exact Ev.pos rfl (laws_eqInt64S_l0 l hl l.length 0 (by omega))
/-- A list marked with numbers from one on. -/
def markInt : Int → List Int → List Int
  | _, [] => []
  | n, _ :: xs => n :: markInt (n + 1) xs
theorem put_Int (A B : List Int) (x y : Int) : (A ++ x :: B).set A.length y = A ++ y :: B := by simp
theorem laws_markInt64S_l0 : ∀ (B A : List Int) (n : Int), A.length + B.length ≤ 1152921504606846976 → 0 ≤ n → n + (B.length : Int) ≤ 4611686018427387904 →
    Ev (fun k => laws_markInt64S.l0 k (A ++ B) n (A.length : Int)) (n + (B.length : Int), A ++ markInt n B) := by
  intro B
  induction B with
  | nil =>
    intro A n hl h0 hn
    refine Ev.succ ?_
    simp only [laws_markInt64S.l0]
    exact Ev.neg (by simp) (Ev.eq (by simp [markInt]))
  | cons x xs ih =>
    intro A n hl h0 hn
    simp only [List.length_cons] at hl hn
    refine Ev.succ ?_
    simp only [laws_markInt64S.l0, Int.toNat_natCast, put_Int]
    refine Ev.pos (by simp; omega) (Ev.pos (by omega) ?_)
    have e1 : wrap64 ((A.length : Int) + 1) = ((A ++ [n]).length : Int) := by rw [w64 (by omega) (by omega)]; simp
    have w1 : wrap64 (n + 1) = n + 1 := w64 (by omega) (by omega)
    have h3 := ih (A ++ [n]) (n + 1) (by simp; omega) (by omega) (by omega)
    simp only [w1, e1]
    simp only [List.append_assoc, List.cons_append, List.nil_append] at h3 ⊢
    refine h3.cast ?_
    simp only [markInt, List.length_cons]
    congr 1
    omega
theorem laws_markInt64S_ev {l : List Int} {n : Int} (hl : l.length ≤ 1048576000) (h0 : 0 ≤ n) (hn : n ≤ 1152921504606846976) : Ev (fun k => laws_markInt64S.f k l n) (n + (l.length : Int), markInt n l) := by
  unfold laws_markInt64S.f
  have h := laws_markInt64S_l0 l [] n (by simp; omega) h0 (by omega)
  simpa using h
end Go.Proofs.Ytanokgpnmbbajaa.PA
end
section
namespace Go.Proofs.Ytanokgpnmbbajaa.PA
open Go.RowKit Go.Proofs.YtanokgpnmbbajaaW.PrintWords Go.Proofs.YtanokgpnmbbajaaB
set_option linter.unusedVariables false
set_option linter.unusedSimpArgs false
def allWithin (n a b : Int) (l : List Int) : Bool := l.all (fun x => decide (a ≤ x ∧ x ≤ b)) && decide ((l.length : Int) ≤ n)
theorem spec_l01Within_l0 (l : List Int) (n a b : Int) (hl : l.length ≤ 9223372036854775806) : ∀ d i, i + d = l.length →
    Ev (fun k => spec_l01Within.l0 k l n a b (i : Int)) ((l.drop i).all (fun x => decide (a ≤ x ∧ x ≤ b)) && decide ((l.length : Int) ≤ n)) := by
  intro d
  induction d with
  | zero =>
    intro i hi
    refine Ev.succ ?_
    simp only [spec_l01Within.l0]
    refine Ev.neg (by omega) (Ev.eq ?_)
    have : l.drop i = [] := List.drop_eq_nil_of_le (by omega)
    rw [this]
    simp
  | succ d ih =>
    intro i hi
    rw [getD_drop l 0 i (by omega)]
    have e1 : wrap64 ((i : Int) + 1) = ((i + 1 : Nat) : Int) := by rw [w64 (by omega) (by omega)]; omega
    refine Ev.succ ?_
    simp only [spec_l01Within.l0, rd_nat, e1]
    generalize l.getD i 0 = x
    refine Ev.pos (by omega) (Ev.pos (by omega) (Ev.bind (Ev.eq (spec_l01In_eq _ _ _)) (Ev.ite (fun h => ?_) (fun h => Ev.eq ?_))))
    · refine (ih (i + 1) (by omega)).cast ?_
      rw [List.all_cons, h, Bool.true_and]
    · simp only [List.all_cons, Bool.eq_false_iff.2 h, Bool.false_and]
theorem spec_l01Within_ev {l : List Int} (hl : l.length ≤ 9223372036854775806) (n a b : Int) : Ev (fun k => spec_l01Within.f k l n a b) (allWithin n a b l) := by
  unfold spec_l01Within.f
  exact (spec_l01Within_l0 l n a b hl l.length 0 (by omega)).cast (by simp [allWithin])
theorem allWithin_iff {n a b : Int} {l : List Int} : allWithin n a b l = true ↔ (∀ x ∈ l, a ≤ x ∧ x ≤ b) ∧ (l.length : Int) ≤ n := by
  simp [allWithin]
end Go.Proofs.Ytanokgpnmbbajaa.PA
end
section
namespace Go.Proofs.Ytanokgpnmbbajaa.Pure
open Go.RowKit Go.Proofs.YtanokgpnmbbajaaW.PrintWords Go.Proofs.YtanokgpnmbbajaaB Go.Proofs.Ytanokgpnmbbajaa.PA
set_option linter.unusedVariables false
set_option linter.unusedSimpArgs false
def takeAll : Int → List Int → List S43 → List S43 × Int
  | _, [], o => (o, 0)
  | k, n :: ns, o => if sheets k o < n then ([], 4) else takeAll (k + 1) ns (takes k n o)
theorem takeAll_length : ∀ (ns : List Int) (k : Int) (o : List S43), (takeAll k ns o).1.length ≤ o.length
  | [], _, _ => Nat.le_refl _
  | n :: ns, k, o => by
    have h1 := takeAll_length ns (k + 1) (takes k n o)
    have h2 := takes_length k o n
    simp only [takeAll]
    split
    · simp
    · omega
theorem spec_TakeAll_l0 (l : List Int) (hl : l.length ≤ 20) (hw : ∀ x ∈ l, 0 ≤ x ∧ x ≤ 1000000000) : ∀ d i, i + d = l.length → ∀ (o : List S43), o.length ≤ 30 → (∀ x ∈ o, lotOk x = true) →
    Ev (fun k => spec_TakeAll.l0 k l o (i : Int)) (takeAll (i : Int) (l.drop i) o) := by
  intro d
  induction d with
  | zero =>
    intro i hi o ho hok
    refine Ev.succ ?_
    simp only [spec_TakeAll.l0]
    refine Ev.neg (by omega) (Ev.eq ?_)
    have : l.drop i = [] := List.drop_eq_nil_of_le (by omega)
    rw [this]
    simp [takeAll]
  | succ d ih =>
    intro i hi o ho hok
    rw [getD_drop l 0 i (by omega)]
    have hx := hw _ (getD_mem l 0 i (by omega))
    have e1 : wrap64 ((i : Int) + 1) = ((i + 1 : Nat) : Int) := by rw [w64 (by omega) (by omega)]; omega
    refine Ev.succ ?_
    simp only [spec_TakeAll.l0, rd_nat, e1]
    generalize l.getD i 0 = x at hx ⊢
    have hs : Ev (fun k => spec_l25Sheets.f k o (i : Int)) (sheets (i : Int) o) := by
      unfold spec_l25Sheets.f
      exact (spec_l25Sheets_l0 o i ho hok o.length 0 (by omega) 0 (by omega) (by omega)).cast (by simp)
    refine Ev.pos (by omega) (Ev.bind hs (Ev.pos (by omega) (Ev.ite (fun h => Ev.eq ?_) (fun h => Ev.bind (spec_l25Take_ev ho hok i hx.1 hx.2) ?_))))
    · simp only [takeAll, if_pos h]
    · have hlen := takes_length (i : Int) o x
      refine (ih (i + 1) (by omega) _ (by omega) (takes_ok (i : Int) o x hx.1 hok)).cast ?_
      simp only [takeAll, if_neg h]
      congr 1
theorem impl_TakeAll_l0 (l : List Int) (hl : l.length ≤ 20) (hw : ∀ x ∈ l, 0 ≤ x ∧ x ≤ 1000000000) : ∀ d i, i + d = l.length → ∀ (o : List S43), o.length ≤ 30 → (∀ x ∈ o, lotOk x = true) →
    Ev (fun k => impl_TakeAll.l0 k o l (l.length : Int) (i : Int)) (takeAll (i : Int) (l.drop i) o) := by
  intro d
  induction d with
  | zero =>
    intro i hi o ho hok
    refine Ev.succ ?_
    simp only [impl_TakeAll.l0]
    refine Ev.neg (by omega) (Ev.eq ?_)
    have : l.drop i = [] := List.drop_eq_nil_of_le (by omega)
    rw [this]
    simp [takeAll]
  | succ d ih =>
    intro i hi o ho hok
    rw [getD_drop l 0 i (by omega)]
    have hx := hw _ (getD_mem l 0 i (by omega))
    have e1 : wrap64 ((i : Int) + 1) = ((i + 1 : Nat) : Int) := by rw [w64 (by omega) (by omega)]; omega
    refine Ev.succ ?_
    simp only [impl_TakeAll.l0, rd_nat, e1]
    generalize l.getD i 0 = x at hx ⊢
    have hz := (lacks_zero (i : Int) o x hx.1 hok).2
    refine Ev.pos (by omega) (Ev.pos (by omega) (Ev.pos (by omega) (Ev.bind (impl_take_ev ho hok i hx.1 hx.2) (Ev.ite (fun h => ?_) (fun h => Ev.eq ?_)))))
    · have := hz.1 (by simpa using h)
      have hlen := takes_length (i : Int) o x
      refine (ih (i + 1) (by omega) _ (by omega) (takes_ok (i : Int) o x hx.1 hok)).cast ?_
      simp only [takeAll]
      rw [if_neg (by omega)]
      congr 1
    · have : ¬ x ≤ sheets i o := fun h2 => h (by simpa using hz.2 h2)
      simp only [takeAll]
      rw [if_pos (by omega)]
def allTaken (l : List S43) (ns : List Int) : List S43 × Int :=
  if stockOk l = true then (if allWithin 20 0 1000000000 ns = true then takeAll 0 ns l else ([], 2)) else ([], 1)
theorem allTaken_length (l : List S43) (ns : List Int) : (allTaken l ns).1.length ≤ l.length := by
  have := takeAll_length ns 0 l
  unfold allTaken
  split
  · split
    · exact this
    · simp
  · simp
theorem spec_TakeAll_ev {l : List S43} {ns : List Int} (hl : l.length ≤ 9223372036854775806) (hn : ns.length ≤ 9223372036854775806) : Ev (fun k => spec_TakeAll.f k l ns) (allTaken l ns) := by
  unfold spec_TakeAll.f allTaken
  refine Ev.bind (spec_IsStock_ev hl) (Ev.ite (fun h => ?_) (fun h => Ev.eq (by rw [if_neg h])))
  rw [if_pos h]
  refine Ev.bind (spec_l01Within_ev hn _ _ _) (Ev.ite (fun h2 => ?_) (fun h2 => Ev.eq (by rw [if_neg h2])))
  rw [if_pos h2]
  have h3 := allWithin_iff.1 h2
  have h4 := stockOk_len h
  refine Ev.bind (Ev.eq rfl) (Ev.pos (by simp; omega) ?_)
  rw [List.nil_append]
  exact (spec_TakeAll_l0 ns (by omega) h3.1 ns.length 0 (by omega) l h4 (fun _ hx => stockOk_mem h hx)).cast (by simp)
theorem impl_TakeAll_ev {l : List S43} {ns : List Int} (hl : l.length ≤ 9223372036854775806) (hn : ns.length ≤ 9223372036854775806) : Ev (fun k => impl_TakeAll.f k l ns) (allTaken l ns) := by
  unfold impl_TakeAll.f allTaken
  refine Ev.bind (impl_IsStock_ev hl) (Ev.ite (fun h => ?_) (fun h => Ev.eq (by rw [if_neg h])))
  rw [if_pos h]
  refine Ev.ite (fun h1 => Ev.eq ?_) (fun h1 => ?_)
  · have : ¬ allWithin 20 0 1000000000 ns = true := fun h3 => by have := (allWithin_iff.1 h3).2; omega
    rw [if_neg this]
  · have e : ns.all (inB 0 1000000000) = allWithin 20 0 1000000000 ns := by
      have h5 : (ns.length : Int) ≤ 20 := by omega
      unfold allWithin
      rw [decide_eq_true h5, Bool.and_true]
      rfl
    refine Ev.bind (Ev.eq (by rw [impl_allIn.f, e])) (Ev.ite (fun h2 => ?_) (fun h2 => Ev.eq (by rw [if_neg h2])))
    rw [if_pos h2]
    have h3 := allWithin_iff.1 h2
    have h4 := stockOk_len h
    refine Ev.bind (Ev.eq (by rw [impl_Lot.f, if_pos (by omega)])) ?_
    exact (impl_TakeAll_l0 ns (by omega) h3.1 ns.length 0 (by omega) l h4 (fun _ hx => stockOk_mem h hx)).cast (by simp)
theorem FnExactTakeAll : laws_FnExactTakeAll.Pure := by
  intro l ns hg hn
  obtain ⟨r, h1, h2⟩ := laws_szLotS_eq hg.1
  refine Ev.rounds (g := fun k => laws_FnExactTakeAll.f k l ns) ?_
  unfold laws_FnExactTakeAll.f
  refine Ev.ite (fun _ => Ev.eq rfl) (fun hns => ?_)
  refine Ev.bind (Ev.eq h1) (Ev.ite (fun _ => Ev.eq rfl) (fun h => ?_))
  have hl : l.length ≤ 1048576 := by omega
  have hm : (l.map toLot).length ≤ 1048576 := by simpa using hl
  have s0 := laws_toLotS_ev hl
  have s1 := spec_TakeAll_ev (l := l.map toLot) (ns := ns) (by omega) (by omega)
  have s2 := impl_TakeAll_ev (l := l.map toLot) (ns := ns) (by omega) (by omega)
  have hd := allTaken_length (l.map toLot) ns
  generalize l.map toLot = m at s0 s1 s2 hm hd
  generalize allTaken m ns = v at s1 s2 hd
  obtain ⟨v1, v2⟩ := v
  simp only at hd
  have t0 := laws_toInt64S_ev (l := ns) (by omega)
  have q1 := laws_eqLotS_refl (l := v1) (by omega)
  have q2 := laws_eqLotS_refl (l := m) (by omega)
  have q3 := laws_eqInt64S_refl (l := ns) (by omega)
  have k1 := laws_markLotS_ev (l := m) (n := 1) (by omega) (by omega) (by omega)
  have k4 := laws_markInt64S_ev (l := ns) (n := 1 + 3 * (m.length : Int)) (by omega) (by omega) (by omega)
  have k2 := laws_markLotS_ev (l := v1) (n := 1) (by omega) (by omega) (by omega)
  have k3 := laws_heldLotS_ev (l := v1) (n := 1) (by omega) (by omega) (by omega)
  refine Ev.bind s0 (Ev.bind t0 (Ev.bind s1 (Ev.bind s0 (Ev.bind t0 (Ev.bind s2 (Ev.bind q1 (Ev.pos (by trivial) (Ev.succ ?_))))))))
  simp only [laws_FnExactTakeAll.j0]
  refine Ev.neg (by simp) (Ev.bind s0 (Ev.bind q2 (Ev.pos (by trivial) (Ev.bind t0 (Ev.bind q3 (Ev.pos (by trivial) (Ev.bind k1 (Ev.bind k4 (Ev.neg (by simp only; omega) (Ev.bind q1 (Ev.pos (by trivial) (Ev.succ ?_))))))))))))
  simp only [laws_FnExactTakeAll.j1]
  refine Ev.neg (by simp) (Ev.bind k2 (Ev.bind k3 (Ev.neg (by omega) (Ev.pos (by trivial) (Ev.bind s0 (Ev.bind t0 (Ev.bind s2 (Ev.bind q1 (Ev.pos (by trivial) (Ev.succ ?_))))))))))
  simp only [laws_FnExactTakeAll.j2]
  refine Ev.neg (by simp) (Ev.bind k3 (Ev.neg (by omega) (Ev.pos (by trivial) (Ev.eq rfl))))
end Go.Proofs.Ytanokgpnmbbajaa.Pure
end
