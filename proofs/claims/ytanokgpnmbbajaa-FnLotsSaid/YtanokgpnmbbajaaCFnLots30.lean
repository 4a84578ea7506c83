-- Gathered by this session's program wip/tool/shake.py out of its own texts and of what the kit's print and the session's patches of it wrote for this claim.
import Derived.Test.YtanokgpnmbbajaaProg
import Derived.ArgAppend
import Derived.Below
import Derived.BigQuiet
import Derived.Deep.AppendLies
import Derived.Deep.CutBlock
import Derived.Deep.DeepCutAuto
import Derived.Deep.Draws
import Derived.Deep.LoopGhost
import Derived.Deep.OwnRows
import Derived.Deep.QuietTactic
import Derived.Deep.RegionHeld3
import Derived.KernelRfl
import Derived.Laws.BitsLemmas
import Derived.Laws.BytesArg
import Derived.Laws.IdiomCopy
import Derived.Laws.MakeOwn
import Derived.Laws.OwnMore
import Derived.Laws.Rows
import Derived.Laws.Slices
import Derived.Laws.StructEq
import Derived.Lib.AppendStr
import Derived.Lib.ConvBytes
import Derived.Maps.AppendAt
import Derived.OrdersHeld
import Derived.OwnWalk
import Derived.RowKit
import Derived.RowKit3
import Derived.Tactics
import Derived.WalkKit
import Derived.WideLaws
import Derived.Test.YtanokgpnmbbajaaCFnLots23
import Derived.Test.YtanokgpnmbbajaaCFnLots27
section
namespace Go.Proofs.Ytanokgpnmbbajaa.PF
open Go.RowKit Go.Proofs.YtanokgpnmbbajaaW.PrintWords Go.Proofs.YtanokgpnmbbajaaB
set_option linter.unusedVariables false
set_option linter.unusedSimpArgs false
def kindCode (l : List S43) (a : Int) : Int := if stockOk l = true then (if 0 ≤ a ∧ a ≤ 19 then 0 else 2) else 1
theorem spec_l25Code_ev {l : List S43} (hl : l.length ≤ 9223372036854775806) (a : Int) : Ev (fun k => spec_l25Code.f k l a) (kindCode l a) := by
  unfold spec_l25Code.f kindCode
  refine Ev.bind (spec_IsStock_ev hl) (Ev.ite (fun h => ?_) (fun h => Ev.eq (by rw [if_neg h])))
  rw [if_pos h]
  refine Ev.bind (Ev.eq (spec_l01In_eq _ _ _)) (Ev.ite (fun h => Ev.eq (by rw [if_pos (by simpa using h)])) (fun h => Ev.eq (by rw [if_neg (by simpa using h)])))
theorem impl_checkKind_ev {l : List S43} (hl : l.length ≤ 9223372036854775806) (a : Int) : Ev (fun k => impl_checkKind.f k l a) (kindCode l a) := by
  unfold impl_checkKind.f kindCode
  refine Ev.bind (impl_IsStock_ev hl) (Ev.ite (fun h => ?_) (fun h => Ev.eq (by rw [if_neg h])))
  rw [if_pos h]
  refine Ev.bind (Ev.eq (by rw [impl_isKind.f, impl_inRange_eq]; rfl)) (Ev.ite (fun h => Ev.eq (by rw [if_pos (by simpa using h)])) (fun h => Ev.eq (by rw [if_neg (by simpa using h)])))
theorem kindCode_zero {l : List S43} {a : Int} (h : kindCode l a = 0) : stockOk l = true ∧ 0 ≤ a ∧ a ≤ 19 := by
  unfold kindCode at h
  split at h
  · split at h
    · exact ⟨‹_›, ‹_›⟩
    · omega
  · omega
/-- The sheets of a kind. -/
def sheets (a : Int) : List S43 → Int
  | [] => 0
  | x :: xs => (if x.f0 = a then x.f1 else 0) + sheets a xs
theorem sheets_bound (a : Int) : ∀ l : List S43, (∀ x ∈ l, lotOk x = true) → 0 ≤ sheets a l ∧ sheets a l ≤ 1000000 * l.length
  | [], _ => by simp [sheets]
  | x :: xs, h => by
    have h1 := sheets_bound a xs (fun y hy => h y (List.mem_cons_of_mem _ hy))
    have h2 := lotOk_iff.1 (h x (List.mem_cons_self ..))
    simp only [sheets, List.length_cons]
    split <;> omega
theorem spec_l25Sheets_l0 (l : List S43) (a : Int) (hl : l.length ≤ 30) (hok : ∀ x ∈ l, lotOk x = true) : ∀ d i, i + d = l.length → ∀ n : Int, 0 ≤ n → n ≤ 1000000 * (i : Int) →
    Ev (fun k => spec_l25Sheets.l0 k l a n (i : Int)) (n + sheets a (l.drop i)) := by
  intro d
  induction d with
  | zero =>
    intro i hi n h0 hn
    refine Ev.succ ?_
    simp only [spec_l25Sheets.l0]
    refine Ev.neg (by omega) (Ev.eq ?_)
    have : l.drop i = [] := List.drop_eq_nil_of_le (by omega)
    rw [this]
    simp [sheets]
  | succ d ih =>
    intro i hi n h0 hn
    rw [getD_drop l z43 i (by omega)]
    have hx := lotOk_iff.1 (hok _ (getD_mem l z43 i (by omega)))
    have e1 : wrap64 ((i : Int) + 1) = ((i + 1 : Nat) : Int) := by rw [w64 (by omega) (by omega)]; omega
    refine Ev.succ ?_
    simp only [spec_l25Sheets.l0, rd_Lot, e1]
    refine Ev.pos (by omega) (Ev.pos (by omega) (Ev.ite (fun h => ?_) (fun h => ?_)))
    · rw [w64 (by omega) (by omega)]
      refine (ih (i + 1) (by omega) _ (by omega) (by omega)).cast ?_
      simp only [sheets, if_pos h]; omega
    · refine (ih (i + 1) (by omega) _ (by omega) (by omega)).cast ?_
      simp only [sheets, if_neg h]; omega
theorem impl_sheetsOf_l0 (l : List S43) (a : Int) (hl : l.length ≤ 30) (hok : ∀ x ∈ l, lotOk x = true) : ∀ d i, i + d = l.length → ∀ n : Int, 0 ≤ n → n ≤ 1000000 * (i : Int) →
    Ev (fun k => impl_sheetsOf.l0 k a n l (l.length : Int) (i : Int)) (n + sheets a (l.drop i)) := by
  intro d
  induction d with
  | zero =>
    intro i hi n h0 hn
    refine Ev.succ ?_
    simp only [impl_sheetsOf.l0]
    refine Ev.neg (by omega) (Ev.eq ?_)
    have : l.drop i = [] := List.drop_eq_nil_of_le (by omega)
    rw [this]
    simp [sheets]
  | succ d ih =>
    intro i hi n h0 hn
    rw [getD_drop l z43 i (by omega)]
    have hx := lotOk_iff.1 (hok _ (getD_mem l z43 i (by omega)))
    have e1 : wrap64 ((i : Int) + 1) = ((i + 1 : Nat) : Int) := by rw [w64 (by omega) (by omega)]; omega
    refine Ev.succ ?_
    simp only [impl_sheetsOf.l0, rd_Lot, e1]
    refine Ev.pos (by omega) (Ev.pos (by omega) (Ev.pos (by omega) (Ev.ite (fun h => ?_) (fun h => ?_))))
    · rw [w64 (by omega) (by omega)]
      refine (ih (i + 1) (by omega) _ (by omega) (by omega)).cast ?_
      simp only [sheets, if_pos h]; omega
    · refine (ih (i + 1) (by omega) _ (by omega) (by omega)).cast ?_
      simp only [sheets, if_neg h]; omega
theorem spec_l25Sheets_ev {l : List S43} (h : stockOk l = true) (a : Int) : Ev (fun k => spec_l25Sheets.f k l a) (sheets a l) := by
  unfold spec_l25Sheets.f
  exact (spec_l25Sheets_l0 l a (stockOk_len h) (fun _ hx => stockOk_mem h hx) l.length 0 (by omega) 0 (by omega) (by omega)).cast (by simp)
theorem impl_sheetsOf_ev {l : List S43} (h : stockOk l = true) (a : Int) : Ev (fun k => impl_sheetsOf.f k l a) (sheets a l) := by
  unfold impl_sheetsOf.f
  exact (impl_sheetsOf_l0 l a (stockOk_len h) (fun _ hx => stockOk_mem h hx) l.length 0 (by omega) 0 (by omega) (by omega)).cast (by simp)
end Go.Proofs.Ytanokgpnmbbajaa.PF
end
