-- Gathered by this session's program wip/tool/shake.py out of its own texts and of what the kit's print and the session's patches of it wrote for this claim.
import Derived.Test.YtanokgpnmbbajaaProg
import Derived.ArgAppend
import Derived.Below
import Derived.BigQuiet
import Derived.Deep.AppendLies
import Derived.Deep.CutBlock
import Derived.Deep.DeepCutAuto
import Derived.Deep.Draws
import Derived.Deep.LoopGhost
import Derived.Deep.OwnRows
import Derived.Deep.QuietTactic
import Derived.Deep.RegionHeld3
import Derived.KernelRfl
import Derived.Laws.BitsLemmas
import Derived.Laws.BytesArg
import Derived.Laws.IdiomCopy
import Derived.Laws.MakeOwn
import Derived.Laws.OwnMore
import Derived.Laws.Rows
import Derived.Laws.Slices
import Derived.Laws.StructEq
import Derived.Lib.AppendStr
import Derived.Lib.ConvBytes
import Derived.Maps.AppendAt
import Derived.OrdersHeld
import Derived.OwnWalk
import Derived.RowKit
import Derived.RowKit3
import Derived.Tactics
import Derived.WalkKit
import Derived.WideLaws
import Derived.Test.YtanokgpnmbbajaaCReceiveLot6
import Derived.Test.YtanokgpnmbbajaaCReceiveLot7
import Derived.Test.YtanokgpnmbbajaaCReceiveLot14
section
namespace Go.Proofs.Ytanokgpnmbbajaa.PV
open Go.RowKit Go.Proofs.YtanokgpnmbbajaaW.PrintWords Go.Proofs.YtanokgpnmbbajaaB
theorem spec_l01In_eq (a b c : Int) : spec_l01In.f a b c = some (decide (b ≤ a ∧ a ≤ c)) := by
  unfold spec_l01In.f
  split <;> simp <;> omega
theorem impl_inRange_eq (a b c : Int) : impl_inRange.f a b c = some (decide (b ≤ a ∧ a ≤ c)) := by
  unfold impl_inRange.f
  split <;> simp <;> omega
end Go.Proofs.Ytanokgpnmbbajaa.PV
end
section
namespace Go.Proofs.Ytanokgpnmbbajaa.PV
open Go.RowKit Go.Proofs.YtanokgpnmbbajaaW.PrintWords Go.Proofs.YtanokgpnmbbajaaB
set_option linter.unusedVariables false
set_option linter.unusedSimpArgs false
theorem rd_Lot (l : List S43) (i : Nat) : rd_T43 l (i : Int) = l.getD i z43 := by simp [rd_T43]
theorem rdL_Lot (l : List S41) (i : Nat) : rd_T41 l (i : Int) = l.getD i z41 := by simp [rd_T41]
def toLot (x : S41) : S43 := ⟨x.f0, x.f1, x.f2⟩
theorem laws_toLotS_l0 (l : List S41) (hl : l.length ≤ 1048576) : ∀ d i, i + d = l.length →
    Ev (fun k => laws_toLotS.l0 k l ((l.take i).map toLot ++ List.replicate (l.length - i) z43) (i : Int)) (l.map toLot) := by
  intro d
  induction d with
  | zero =>
    intro i hi
    refine Ev.succ ?_
    simp only [laws_toLotS.l0]
    refine Ev.neg (by omega) (Ev.eq ?_)
    have : i = l.length := by omega
    subst this
    simp
  | succ d ih =>
    intro i hi
    have h1 := fill_step l z41 z43 toLot i (by omega)
    have h2 := ih (i + 1) (by omega)
    refine Ev.succ ?_
    simp only [laws_toLotS.l0]
    refine Ev.pos (by omega) (Ev.pos (by omega) (Ev.bind (Ev.eq rfl) (Ev.pos (by simp; omega) ?_)))
    rw [rdL_Lot, w64 (by omega) (by omega), Int.toNat_natCast]
    rw [← h1] at h2
    exact h2
theorem laws_toLotS_ev {l : List S41} (hl : l.length ≤ 1048576) : Ev (fun k => laws_toLotS.f k l) (l.map toLot) := by
  have h := laws_toLotS_l0 l hl l.length 0 (by omega)
  unfold laws_toLotS.f
  refine Ev.pos (by omega) (Ev.pos (by omega) ?_)
  rw [Int.toNat_natCast]
  simpa using h
theorem laws_eqLotS_l0 (l : List S43) (hl : l.length ≤ 9223372036854775806) : ∀ d i, i + d = l.length → Ev (fun k => laws_eqLotS.l0 k l l (i : Int)) true := by
  intro d
  induction d with
  | zero =>
    intro i hi
    refine Ev.succ ?_
    simp only [laws_eqLotS.l0]
    exact Ev.neg (by omega) (Ev.eq rfl)
  | succ d ih =>
    intro i hi
    have h2 := ih (i + 1) (by omega)
    refine Ev.succ ?_
    simp only [laws_eqLotS.l0]
    refine Ev.pos (by omega) (Ev.pos (by omega) (Ev.pos (by omega) (Ev.bind (a := true) (Ev.eq (by simp [laws_eqLot.f])) (Ev.pos rfl ?_))))
    rw [w64 (by omega) (by omega)]
    exact h2
theorem laws_eqLotS_refl {l : List S43} (hl : l.length ≤ 9223372036854775806) : Ev (fun k => laws_eqLotS.f k l l) true := by
  unfold laws_eqLotS.f
  exact Ev.pos rfl (laws_eqLotS_l0 l hl l.length 0 (by omega))
theorem laws_szLotS_eq {l : List S41} (hl : l.length ≤ 9223372036854775807) : ∃ r, laws_szLotS.f l 1048576 = some r ∧ (r < 0 ↔ ¬ l.length ≤ 1048576) := by
  unfold laws_szLotS.f
  rw [w64 (by omega) (by omega)]
  split
  · exact ⟨_, rfl, by omega⟩
  · exact ⟨_, rfl, by omega⟩
/-- A list marked with numbers from one on. -/
def markLot : Int → List S43 → List S43
  | _, [] => []
  | n, _ :: xs => ⟨n, n + 1, n + 2⟩ :: markLot (n + 3) xs
theorem mid_Lot (A B : List S43) (x : S43) : (A ++ x :: B).getD A.length z43 = x := by simp [List.getD]
theorem put_Lot (A B : List S43) (x y : S43) : (A ++ x :: B).set A.length y = A ++ y :: B := by simp
theorem laws_markLotS_l0 : ∀ (B A : List S43) (n : Int), A.length + B.length ≤ 1152921504606846976 → 0 ≤ n → n + 3 * (B.length : Int) ≤ 4611686018427387904 →
    Ev (fun k => laws_markLotS.l0 k (A ++ B) n (A.length : Int)) (n + 3 * (B.length : Int), A ++ markLot n B) := by
  intro B
  induction B with
  | nil =>
    intro A n hl h0 hn
    refine Ev.succ ?_
    simp only [laws_markLotS.l0]
    exact Ev.neg (by simp) (Ev.eq (by simp [markLot]))
  | cons x xs ih =>
    intro A n hl h0 hn
    simp only [List.length_cons] at hl hn
    refine Ev.succ ?_
    simp only [laws_markLotS.l0, rd_Lot, Int.toNat_natCast, mid_Lot, put_Lot, Option.bind_some]
    refine Ev.pos (by simp; omega) (Ev.pos (by omega) ?_)
    have e1 : wrap64 ((A.length : Int) + 1) = ((A ++ [(⟨n, n + 1, n + 2⟩ : S43)]).length : Int) := by rw [w64 (by omega) (by omega)]; simp
    have w1 : wrap64 (n + 1) = n + 1 := by rw [w64 (by omega) (by omega)]; try omega
    have w2 : wrap64 (n + 1 + 1) = n + 2 := by rw [w64 (by omega) (by omega)]; try omega
    have w3 : wrap64 (n + 2 + 1) = n + 3 := by rw [w64 (by omega) (by omega)]; try omega
    have h3 := ih (A ++ [(⟨n, n + 1, n + 2⟩ : S43)]) (n + 3) (by simp; omega) (by omega) (by omega)
    simp only [w1, w2, w3, e1]
    simp only [List.append_assoc, List.cons_append, List.nil_append] at h3 ⊢
    refine h3.cast ?_
    simp only [markLot, List.length_cons]
    congr 1
    omega
theorem laws_markLotS_ev {l : List S43} {n : Int} (hl : l.length ≤ 1048576000) (h0 : 0 ≤ n) (hn : n ≤ 1152921504606846976) : Ev (fun k => laws_markLotS.f k l n) (n + 3 * (l.length : Int), markLot n l) := by
  unfold laws_markLotS.f
  have h := laws_markLotS_l0 l [] n (by simp; omega) h0 (by omega)
  simpa using h
theorem laws_heldLotS_l0 : ∀ (B A : List S43) (n : Int), A.length + B.length ≤ 1152921504606846976 → 0 ≤ n → n + 3 * (B.length : Int) ≤ 4611686018427387904 →
    Ev (fun k => laws_heldLotS.l0 k (A ++ markLot n B) n (A.length : Int)) (n + 3 * (B.length : Int)) := by
  intro B
  induction B with
  | nil =>
    intro A n hl h0 hn
    refine Ev.succ ?_
    simp only [laws_heldLotS.l0, markLot]
    exact Ev.neg (by simp) (Ev.eq (by simp))
  | cons x xs ih =>
    intro A n hl h0 hn
    simp only [List.length_cons] at hl hn
    refine Ev.succ ?_
    simp only [laws_heldLotS.l0, rd_Lot, markLot, mid_Lot]
    have e1 : wrap64 ((A.length : Int) + 1) = ((A ++ [(⟨n, n + 1, n + 2⟩ : S43)]).length : Int) := by rw [w64 (by omega) (by omega)]; simp
    have w1 : wrap64 (n + 1) = n + 1 := by rw [w64 (by omega) (by omega)]; try omega
    have w2 : wrap64 (n + 1 + 1) = n + 2 := by rw [w64 (by omega) (by omega)]; try omega
    have w3 : wrap64 (n + 2 + 1) = n + 3 := by rw [w64 (by omega) (by omega)]; try omega
    have h3 := ih (A ++ [(⟨n, n + 1, n + 2⟩ : S43)]) (n + 3) (by simp; omega) (by omega) (by omega)
    simp only [w1, w2, w3, e1]
    simp only [List.append_assoc, List.cons_append, List.nil_append] at h3
    refine Ev.pos (by simp; omega) (Ev.pos (by omega) (Ev.pos (by trivial) (Ev.pos (by trivial) (Ev.pos (by trivial) (h3.cast ?_)))))
    simp only [List.length_cons]
    omega
theorem laws_heldLotS_ev {l : List S43} {n : Int} (hl : l.length ≤ 1048576000) (h0 : 0 ≤ n) (hn : n ≤ 1152921504606846976) : Ev (fun k => laws_heldLotS.f k (markLot n l) n) (n + 3 * (l.length : Int)) := by
  unfold laws_heldLotS.f
  exact laws_heldLotS_l0 l [] n (by simp; omega) h0 (by omega)
end Go.Proofs.Ytanokgpnmbbajaa.PV
end
section
namespace Go.Proofs.Ytanokgpnmbbajaa.PV
open Go.RowKit Go.Proofs.YtanokgpnmbbajaaW.PrintWords Go.Proofs.YtanokgpnmbbajaaB
set_option linter.unusedVariables false
set_option linter.unusedSimpArgs false
def lotOk3 (a b c : Int) : Bool := decide (0 ≤ a ∧ a ≤ 19 ∧ 1 ≤ b ∧ b ≤ 1000000 ∧ 0 ≤ c ∧ c ≤ 100000)
def lotOk (x : S43) : Bool := lotOk3 x.f0 x.f1 x.f2
/-- The lots from one on are valid, and their days rise from a day on. -/
def rises : Option Int → List S43 → Bool
  | _, [] => true
  | p, x :: xs => lotOk x && (match p with | none => true | some d => decide (d ≤ x.f2)) && rises (some x.f2) xs
def stockOk (l : List S43) : Bool := decide (l.length ≤ 30) && rises none l
def prevDay (l : List S43) (i : Nat) : Option Int := if i = 0 then none else some (l.getD (i - 1) z43).f2
theorem spec_l25Lot_eq (a b c : Int) : spec_l25Lot.f a b c = some (lotOk3 a b c) := by
  unfold spec_l25Lot.f lotOk3
  simp only [spec_l01In_eq, Option.bind_some, decide_eq_true_eq]
  repeat' split
  all_goals (congr 1; rw [Bool.eq_iff_iff]; simp only [decide_eq_true_eq, beq_iff_eq, bne_iff_ne, true_iff, false_iff, iff_true, iff_false, Bool.false_eq_true, Bool.and_eq_true, Bool.not_eq_true']; omega)
theorem impl_isLot_eq (a b c : Int) : impl_isLot.f a b c = some (lotOk3 a b c) := by
  unfold impl_isLot.f impl_isKind.f impl_isMinutes.f lotOk3
  simp only [impl_inRange_eq, Option.bind_some, decide_eq_true_eq]
  repeat' split
  all_goals (congr 1; rw [Bool.eq_iff_iff]; simp only [decide_eq_true_eq, beq_iff_eq, bne_iff_ne, true_iff, false_iff, iff_true, iff_false, Bool.false_eq_true, Bool.and_eq_true, Bool.not_eq_true']; omega)
theorem spec_IsStock_l0 (l : List S43) (hl : l.length ≤ 9223372036854775806) : ∀ d i, i + d = l.length →
    Ev (fun k => spec_IsStock.l0 k l (i : Int)) (decide (l.length ≤ 30) && rises (prevDay l i) (l.drop i)) := by
  intro d
  induction d with
  | zero =>
    intro i hi
    refine Ev.succ ?_
    simp only [spec_IsStock.l0]
    refine Ev.neg (by omega) (Ev.eq ?_)
    have : l.drop i = [] := List.drop_eq_nil_of_le (by omega)
    rw [this]
    have e : ((l.length : Int) ≤ 30) ↔ l.length ≤ 30 := by omega
    simp [rises, e]
  | succ d ih =>
    intro i hi
    rw [getD_drop l z43 i (by omega)]
    have h3 := ih (i + 1) (by omega)
    refine Ev.succ ?_
    simp only [spec_IsStock.l0, rd_Lot]
    refine Ev.pos (by omega) (Ev.pos (by omega) (Ev.bind (Ev.eq (spec_l25Lot_eq _ _ _)) ?_))
    have ep : prevDay l (i + 1) = some (l.getD i z43).f2 := by simp [prevDay]
    rw [ep] at h3
    generalize l.getD i z43 = x at h3 ⊢
    simp only [rises]
    cases hx : lotOk3 x.f0 x.f1 x.f2 with
    | false => exact Ev.neg (by simp) (Ev.eq (by simp [lotOk, hx]))
    | true =>
      refine Ev.pos rfl ?_
      have e1 : wrap64 ((i : Int) + 1) = ((i + 1 : Nat) : Int) := by rw [w64 (by omega) (by omega)]; omega
      by_cases h0 : i = 0
      · subst h0
        refine Ev.neg (by omega) ?_
        rw [e1]
        exact h3.cast (by simp [prevDay, lotOk, hx])
      · have e2 : wrap64 ((i : Int) - 1) = ((i - 1 : Nat) : Int) := by rw [w64 (by omega) (by omega)]; omega
        rw [e2, rd_Lot, e1]
        have eq : prevDay l i = some (l.getD (i - 1) z43).f2 := by rw [prevDay, if_neg h0]
        rw [eq]
        generalize l.getD (i - 1) z43 = y
        refine Ev.pos (by omega) (Ev.pos (by omega) (Ev.pos (by omega) (Ev.ite (fun h => Ev.eq ?_) (fun h => h3.cast ?_))))
        · have h' : ¬ y.f2 ≤ x.f2 := by omega
          simp [lotOk, hx, h']
        · have h' : y.f2 ≤ x.f2 := by omega
          simp [lotOk, hx, h']
theorem impl_IsStock_l0 (l : List S43) (hl : l.length ≤ 30) : ∀ d i, i + d = l.length →
    Ev (fun k => impl_IsStock.l0 k l l (l.length : Int) (i : Int)) (rises (prevDay l i) (l.drop i)) := by
  intro d
  induction d with
  | zero =>
    intro i hi
    refine Ev.succ ?_
    simp only [impl_IsStock.l0]
    refine Ev.neg (by omega) (Ev.eq ?_)
    have : l.drop i = [] := List.drop_eq_nil_of_le (by omega)
    rw [this]
    simp [rises]
  | succ d ih =>
    intro i hi
    rw [getD_drop l z43 i (by omega)]
    have h3 := ih (i + 1) (by omega)
    refine Ev.succ ?_
    simp only [impl_IsStock.l0, rd_Lot]
    refine Ev.pos (by omega) (Ev.pos (by omega) (Ev.pos (by omega) (Ev.bind (Ev.eq (impl_isLot_eq _ _ _)) ?_)))
    have ep : prevDay l (i + 1) = some (l.getD i z43).f2 := by simp [prevDay]
    rw [ep] at h3
    generalize l.getD i z43 = x at h3 ⊢
    simp only [rises]
    cases hx : lotOk3 x.f0 x.f1 x.f2 with
    | false => exact Ev.neg (by simp) (Ev.eq (by simp [lotOk, hx]))
    | true =>
      refine Ev.pos rfl ?_
      have e1 : wrap64 ((i : Int) + 1) = ((i + 1 : Nat) : Int) := by rw [w64 (by omega) (by omega)]; omega
      by_cases h0 : i = 0
      · subst h0
        refine Ev.neg (by omega) ?_
        rw [e1]
        exact h3.cast (by simp [prevDay, lotOk, hx])
      · have e2 : wrap64 ((i : Int) - 1) = ((i - 1 : Nat) : Int) := by rw [w64 (by omega) (by omega)]; omega
        rw [e2, rd_Lot, e1]
        have eq : prevDay l i = some (l.getD (i - 1) z43).f2 := by rw [prevDay, if_neg h0]
        rw [eq]
        generalize l.getD (i - 1) z43 = y
        refine Ev.pos (by omega) (Ev.pos (by omega) (Ev.pos (by omega) (Ev.ite (fun h => Ev.eq ?_) (fun h => h3.cast ?_))))
        · have h' : ¬ y.f2 ≤ x.f2 := by omega
          simp [lotOk, hx, h']
        · have h' : y.f2 ≤ x.f2 := by omega
          simp [lotOk, hx, h']
theorem spec_IsStock_ev {l : List S43} (hl : l.length ≤ 9223372036854775806) : Ev (fun k => spec_IsStock.f k l) (stockOk l) := by
  unfold spec_IsStock.f
  exact spec_IsStock_l0 l hl l.length 0 (by omega)
theorem impl_IsStock_ev {l : List S43} (hl : l.length ≤ 9223372036854775806) : Ev (fun k => impl_IsStock.f k l) (stockOk l) := by
  unfold impl_IsStock.f
  refine Ev.ite (fun h => Ev.eq ?_) (fun h => (impl_IsStock_l0 l (by omega) l.length 0 (by omega)).cast ?_)
  · have : ¬ l.length ≤ 30 := by omega
    simp [stockOk, this]
  · have : l.length ≤ 30 := by omega
    simp [stockOk, this, prevDay]
theorem stockOk_len {l : List S43} (h : stockOk l = true) : l.length ≤ 30 := by
  simp only [stockOk, Bool.and_eq_true, decide_eq_true_eq] at h; exact h.1
end Go.Proofs.Ytanokgpnmbbajaa.PV
end
