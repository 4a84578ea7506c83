-- Gathered by this session's program wip/tool/shake.py out of its own texts and of what the kit's print and the session's patches of it wrote for this claim.
import Derived.Test.YtanokgpnmbbajaaProg
import Derived.ArgAppend
import Derived.Below
import Derived.BigQuiet
import Derived.Deep.AppendLies
import Derived.Deep.CutBlock
import Derived.Deep.DeepCutAuto
import Derived.Deep.Draws
import Derived.Deep.LoopGhost
import Derived.Deep.OwnRows
import Derived.Deep.QuietTactic
import Derived.Deep.RegionHeld3
import Derived.KernelRfl
import Derived.Laws.BitsLemmas
import Derived.Laws.BytesArg
import Derived.Laws.IdiomCopy
import Derived.Laws.MakeOwn
import Derived.Laws.OwnMore
import Derived.Laws.Rows
import Derived.Laws.Slices
import Derived.Laws.StructEq
import Derived.Lib.AppendStr
import Derived.Lib.ConvBytes
import Derived.Maps.AppendAt
import Derived.OrdersHeld
import Derived.OwnWalk
import Derived.RowKit
import Derived.RowKit3
import Derived.Tactics
import Derived.WalkKit
import Derived.WideLaws
import Derived.Test.YtanokgpnmbbajaaCPurgeOrders6
import Derived.Test.YtanokgpnmbbajaaCPurgeOrders11
import Derived.Test.YtanokgpnmbbajaaCPurgeOrders15
section
namespace Go.Proofs.Ytanokgpnmbbajaa.PT
open Go.RowKit Go.Proofs.YtanokgpnmbbajaaW.PrintWords Go.Proofs.YtanokgpnmbbajaaB
theorem spec_l01In_eq (a b c : Int) : spec_l01In.f a b c = some (decide (b ≤ a ∧ a ≤ c)) := by
  unfold spec_l01In.f
  split <;> simp <;> omega
theorem impl_inRange_eq (a b c : Int) : impl_inRange.f a b c = some (decide (b ≤ a ∧ a ≤ c)) := by
  unfold impl_inRange.f
  split <;> simp <;> omega
end Go.Proofs.Ytanokgpnmbbajaa.PT
end
section
namespace Go.Proofs.Ytanokgpnmbbajaa.PT
open Go.RowKit Go.Proofs.YtanokgpnmbbajaaW.PrintWords Go.Proofs.YtanokgpnmbbajaaB
set_option linter.unusedVariables false
set_option linter.unusedSimpArgs false
theorem rd_Order (l : List S78) (i : Nat) : rd_T78 l (i : Int) = l.getD i z78 := by simp [rd_T78]
theorem rdL_Order (l : List S108) (i : Nat) : rd_T108 l (i : Int) = l.getD i z108 := by simp [rd_T108]
def toOrder (x : S108) : S78 := ⟨x.f0, x.f1, x.f2, x.f3⟩
theorem laws_toOrderS_l0 (l : List S108) (hl : l.length ≤ 1048576) : ∀ d i, i + d = l.length →
    Ev (fun k => laws_toOrderS.l0 k l ((l.take i).map toOrder ++ List.replicate (l.length - i) z78) (i : Int)) (l.map toOrder) := by
  intro d
  induction d with
  | zero =>
    intro i hi
    refine Ev.succ ?_
    simp only [laws_toOrderS.l0]
    refine Ev.neg (by omega) (Ev.eq ?_)
    have : i = l.length := by omega
    subst this
    simp
  | succ d ih =>
    intro i hi
    have h1 := fill_step l z108 z78 toOrder i (by omega)
    have h2 := ih (i + 1) (by omega)
    refine Ev.succ ?_
    simp only [laws_toOrderS.l0]
    refine Ev.pos (by omega) (Ev.pos (by omega) (Ev.bind (Ev.eq rfl) (Ev.pos (by simp; omega) ?_)))
    rw [rdL_Order, w64 (by omega) (by omega), Int.toNat_natCast]
    rw [← h1] at h2
    exact h2
theorem laws_toOrderS_ev {l : List S108} (hl : l.length ≤ 1048576) : Ev (fun k => laws_toOrderS.f k l) (l.map toOrder) := by
  have h := laws_toOrderS_l0 l hl l.length 0 (by omega)
  unfold laws_toOrderS.f
  refine Ev.pos (by omega) (Ev.pos (by omega) ?_)
  rw [Int.toNat_natCast]
  simpa using h
theorem laws_eqOrderS_l0 (l : List S78) (hl : l.length ≤ 9223372036854775806) : ∀ d i, i + d = l.length → Ev (fun k => laws_eqOrderS.l0 k l l (i : Int)) true := by
  intro d
  induction d with
  | zero =>
    intro i hi
    refine Ev.succ ?_
    simp only [laws_eqOrderS.l0]
    exact Ev.neg (by omega) (Ev.eq rfl)
  | succ d ih =>
    intro i hi
    have h2 := ih (i + 1) (by omega)
    refine Ev.succ ?_
    simp only [laws_eqOrderS.l0]
    refine Ev.pos (by omega) (Ev.pos (by omega) (Ev.pos (by omega) (Ev.bind (a := true) (Ev.eq (by simp [laws_eqOrder.f])) (Ev.pos rfl ?_))))
    rw [w64 (by omega) (by omega)]
    exact h2
theorem laws_eqOrderS_refl {l : List S78} (hl : l.length ≤ 9223372036854775806) : Ev (fun k => laws_eqOrderS.f k l l) true := by
  unfold laws_eqOrderS.f
  exact Ev.pos rfl (laws_eqOrderS_l0 l hl l.length 0 (by omega))
theorem laws_szOrderS_eq {l : List S108} (hl : l.length ≤ 9223372036854775807) : ∃ r, laws_szOrderS.f l 1048576 = some r ∧ (r < 0 ↔ ¬ l.length ≤ 1048576) := by
  unfold laws_szOrderS.f
  rw [w64 (by omega) (by omega)]
  split
  · exact ⟨_, rfl, by omega⟩
  · exact ⟨_, rfl, by omega⟩
/-- A list marked with numbers from one on. -/
def markOrder : Int → List S78 → List S78
  | _, [] => []
  | n, _ :: xs => ⟨n, n + 1, n + 2, n + 3⟩ :: markOrder (n + 4) xs
theorem mid_Order (A B : List S78) (x : S78) : (A ++ x :: B).getD A.length z78 = x := by simp [List.getD]
theorem put_Order (A B : List S78) (x y : S78) : (A ++ x :: B).set A.length y = A ++ y :: B := by simp
theorem laws_markOrderS_l0 : ∀ (B A : List S78) (n : Int), A.length + B.length ≤ 1152921504606846976 → 0 ≤ n → n + 4 * (B.length : Int) ≤ 4611686018427387904 →
    Ev (fun k => laws_markOrderS.l0 k (A ++ B) n (A.length : Int)) (n + 4 * (B.length : Int), A ++ markOrder n B) := by
  intro B
  induction B with
  | nil =>
    intro A n hl h0 hn
    refine Ev.succ ?_
    simp only [laws_markOrderS.l0]
    exact Ev.neg (by simp) (Ev.eq (by simp [markOrder]))
  | cons x xs ih =>
    intro A n hl h0 hn
    simp only [List.length_cons] at hl hn
    refine Ev.succ ?_
    simp only [laws_markOrderS.l0, rd_Order, Int.toNat_natCast, mid_Order, put_Order, Option.bind_some]
    refine Ev.pos (by simp; omega) (Ev.pos (by omega) ?_)
    have e1 : wrap64 ((A.length : Int) + 1) = ((A ++ [(⟨n, n + 1, n + 2, n + 3⟩ : S78)]).length : Int) := by rw [w64 (by omega) (by omega)]; simp
    have w1 : wrap64 (n + 1) = n + 1 := by rw [w64 (by omega) (by omega)]; try omega
    have w2 : wrap64 (n + 1 + 1) = n + 2 := by rw [w64 (by omega) (by omega)]; try omega
    have w3 : wrap64 (n + 2 + 1) = n + 3 := by rw [w64 (by omega) (by omega)]; try omega
    have w4 : wrap64 (n + 3 + 1) = n + 4 := by rw [w64 (by omega) (by omega)]; try omega
    have h3 := ih (A ++ [(⟨n, n + 1, n + 2, n + 3⟩ : S78)]) (n + 4) (by simp; omega) (by omega) (by omega)
    simp only [w1, w2, w3, w4, e1]
    simp only [List.append_assoc, List.cons_append, List.nil_append] at h3 ⊢
    refine h3.cast ?_
    simp only [markOrder, List.length_cons]
    congr 1
    omega
theorem laws_markOrderS_ev {l : List S78} {n : Int} (hl : l.length ≤ 1048576000) (h0 : 0 ≤ n) (hn : n ≤ 1152921504606846976) : Ev (fun k => laws_markOrderS.f k l n) (n + 4 * (l.length : Int), markOrder n l) := by
  unfold laws_markOrderS.f
  have h := laws_markOrderS_l0 l [] n (by simp; omega) h0 (by omega)
  simpa using h
theorem laws_heldOrderS_l0 : ∀ (B A : List S78) (n : Int), A.length + B.length ≤ 1152921504606846976 → 0 ≤ n → n + 4 * (B.length : Int) ≤ 4611686018427387904 →
    Ev (fun k => laws_heldOrderS.l0 k (A ++ markOrder n B) n (A.length : Int)) (n + 4 * (B.length : Int)) := by
  intro B
  induction B with
  | nil =>
    intro A n hl h0 hn
    refine Ev.succ ?_
    simp only [laws_heldOrderS.l0, markOrder]
    exact Ev.neg (by simp) (Ev.eq (by simp))
  | cons x xs ih =>
    intro A n hl h0 hn
    simp only [List.length_cons] at hl hn
    refine Ev.succ ?_
    simp only [laws_heldOrderS.l0, rd_Order, markOrder, mid_Order]
    have e1 : wrap64 ((A.length : Int) + 1) = ((A ++ [(⟨n, n + 1, n + 2, n + 3⟩ : S78)]).length : Int) := by rw [w64 (by omega) (by omega)]; simp
    have w1 : wrap64 (n + 1) = n + 1 := by rw [w64 (by omega) (by omega)]; try omega
    have w2 : wrap64 (n + 1 + 1) = n + 2 := by rw [w64 (by omega) (by omega)]; try omega
    have w3 : wrap64 (n + 2 + 1) = n + 3 := by rw [w64 (by omega) (by omega)]; try omega
    have w4 : wrap64 (n + 3 + 1) = n + 4 := by rw [w64 (by omega) (by omega)]; try omega
    have h3 := ih (A ++ [(⟨n, n + 1, n + 2, n + 3⟩ : S78)]) (n + 4) (by simp; omega) (by omega) (by omega)
    simp only [w1, w2, w3, w4, e1]
    simp only [List.append_assoc, List.cons_append, List.nil_append] at h3
    refine Ev.pos (by simp; omega) (Ev.pos (by omega) (Ev.pos (by trivial) (Ev.pos (by trivial) (Ev.pos (by trivial) (Ev.pos (by trivial) (h3.cast ?_))))))
    simp only [List.length_cons]
    omega
theorem laws_heldOrderS_ev {l : List S78} {n : Int} (hl : l.length ≤ 1048576000) (h0 : 0 ≤ n) (hn : n ≤ 1152921504606846976) : Ev (fun k => laws_heldOrderS.f k (markOrder n l) n) (n + 4 * (l.length : Int)) := by
  unfold laws_heldOrderS.f
  exact laws_heldOrderS_l0 l [] n (by simp; omega) h0 (by omega)
end Go.Proofs.Ytanokgpnmbbajaa.PT
end
