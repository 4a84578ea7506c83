-- Gathered by this session's program wip/tool/shake.py out of its own texts and of what the kit's print and the session's patches of it wrote for this claim.
import Derived.Test.YtanokgpnmbbajaaProg
import Derived.ArgAppend
import Derived.Below
import Derived.BigQuiet
import Derived.Deep.AppendLies
import Derived.Deep.CutBlock
import Derived.Deep.DeepCutAuto
import Derived.Deep.Draws
import Derived.Deep.LoopGhost
import Derived.Deep.OwnRows
import Derived.Deep.QuietTactic
import Derived.Deep.RegionHeld3
import Derived.KernelRfl
import Derived.Laws.BitsLemmas
import Derived.Laws.BytesArg
import Derived.Laws.IdiomCopy
import Derived.Laws.MakeOwn
import Derived.Laws.OwnMore
import Derived.Laws.Rows
import Derived.Laws.Slices
import Derived.Laws.StructEq
import Derived.Lib.AppendStr
import Derived.Lib.ConvBytes
import Derived.Maps.AppendAt
import Derived.OrdersHeld
import Derived.OwnWalk
import Derived.RowKit
import Derived.RowKit3
import Derived.Sort.LotA
import Derived.Tactics
import Derived.WalkKit
import Derived.WideLaws
import Derived.Test.YtanokgpnmbbajaaCFnLots12
import Derived.Test.YtanokgpnmbbajaaCFnLots27
import Derived.Test.YtanokgpnmbbajaaCFnLots28
section
namespace Go.Proofs.Ytanokgpnmbbajaa.PF
open Go.RowKit Go.Proofs.YtanokgpnmbbajaaW.PrintWords Go.Proofs.YtanokgpnmbbajaaB Go.Proofs.Ytanokgpnmbbajaa.Stab
set_option linter.unusedVariables false
set_option linter.unusedSimpArgs false
def dayOf (o : S43) : Int := o.f2
theorem rises_asc : ∀ (l : List S43) (p : Option Int), rises p l = true → Asc dayOf l ∧ ∀ d, p = some d → ∀ y ∈ l, d ≤ y.f2
  | [], _, _ => ⟨List.Pairwise.nil, fun _ _ y hy => by cases hy⟩
  | x :: xs, p, h => by
    simp only [rises, Bool.and_eq_true] at h
    obtain ⟨h1, h2⟩ := rises_asc xs _ h.2
    refine ⟨List.pairwise_cons.2 ⟨fun y hy => h2 _ rfl y hy, h1⟩, fun d hd y hy => ?_⟩
    have hdx : d ≤ x.f2 := by
      have := h.1.2
      rw [hd] at this
      simpa using this
    rcases List.mem_cons.1 hy with rfl | hy
    · exact hdx
    · have := h2 _ rfl y hy
      omega
theorem stock_asc {l : List S43} (h : stockOk l = true) : Asc dayOf l := by
  simp only [stockOk, Bool.and_eq_true] at h
  exact (rises_asc l none h.2).1
theorem spec_l25Insert_l0 (l : List S43) (x : S43) (hl : l.length ≤ 1000) : ∀ d i, i + d = l.length →
    Ev (fun k => spec_l25Insert.l0 k l (i : Int) x.f0 x.f1 x.f2) (l.take i ++ insB dayOf (l.drop i) x) := by
  have hput : ∀ i : Nat, i ≤ l.length → ((some (([] : List S43) : List S43)).bind fun y133 => ((some (l.take i : List S43)).bind fun y136 => (if y133.length + y136.length < 5864062014805 then ((some (y133 ++ y136 : List S43)).bind fun y140 => ((some (([(⟨x.f0, x.f1, x.f2⟩ : S43)] : List S43) : List S43)).bind fun y143 => (if y140.length + y143.length < 5864062014805 then ((some (y140 ++ y143 : List S43)).bind fun y146 => ((some (l.drop i : List S43)).bind fun y149 => (if y146.length + y149.length < 5864062014805 then (some (y146 ++ y149)) else (none)))) else (none)))) else (none)))) = some (l.take i ++ x :: l.drop i) := by
    intro i hi
    have e1 : (l.take i).length ≤ 1000 := by rw [List.length_take]; omega
    have e2 : (l.drop i).length ≤ 1000 := by rw [List.length_drop]; omega
    simp only [Option.bind_some, List.nil_append, List.length_nil, List.length_append, List.length_cons]
    rw [if_pos (by omega), if_pos (by omega), if_pos (by omega)]
    simp
  intro d
  induction d with
  | zero =>
    intro i hi
    refine Ev.succ ?_
    simp only [spec_l25Insert.l0, Int.toNat_natCast]
    refine Ev.neg (by omega) (Ev.eq ?_)
    simp only [if_pos (show (0 : Int) ≤ (i : Int) by omega), if_pos (show (i : Int) ≤ (l.length : Int) by omega)]
    rw [hput i (by omega)]
    have : l.drop i = [] := List.drop_eq_nil_of_le (by omega)
    rw [this]
    rfl
  | succ d ih =>
    intro i hi
    have h3 := ih (i + 1) (by omega)
    have e1 : wrap64 ((i : Int) + 1) = ((i + 1 : Nat) : Int) := by rw [w64 (by omega) (by omega)]; omega
    have ed := getD_drop l z43 i (by omega)
    have et : l.take (i + 1) = l.take i ++ [l.getD i z43] := by rw [List.take_succ_eq_append_getElem (by omega)]; simp [List.getD, List.getElem?_eq_getElem (show i < l.length by omega)]
    refine Ev.succ ?_
    simp only [spec_l25Insert.l0, rd_Lot, e1, Int.toNat_natCast]
    refine Ev.pos (by omega) (Ev.pos (by omega) (Ev.ite (fun h => ?_) (fun h => Ev.eq ?_)))
    · refine h3.cast ?_
      rw [ed, et]
      conv => rhs; unfold insB
      rw [if_neg (show ¬ dayOf x < dayOf (l.getD i z43) by unfold dayOf; omega), List.append_assoc]; rfl
    · simp only [if_pos (show (i : Int) ≤ (l.length : Int) by omega)]
      rw [hput i (by omega), ed]
      conv => rhs; unfold insB
      rw [if_pos (show dayOf x < dayOf (l.getD i z43) by unfold dayOf; omega)]
theorem spec_l25Insert_ev {l : List S43} (hl : l.length ≤ 1000) (x : S43) : Ev (fun k => spec_l25Insert.f k l x.f0 x.f1 x.f2) (insB dayOf l x) := by
  unfold spec_l25Insert.f
  exact (spec_l25Insert_l0 l x hl l.length 0 (by omega)).cast (by simp)
end Go.Proofs.Ytanokgpnmbbajaa.PF
end
