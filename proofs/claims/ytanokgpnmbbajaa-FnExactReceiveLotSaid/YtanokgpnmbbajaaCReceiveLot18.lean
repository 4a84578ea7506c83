-- Gathered by this session's program wip/tool/shake.py out of its own texts and of what the kit's print and the session's patches of it wrote for this claim.
import Derived.Test.YtanokgpnmbbajaaProg
import Derived.ArgAppend
import Derived.Below
import Derived.BigQuiet
import Derived.Deep.AppendLies
import Derived.Deep.CutBlock
import Derived.Deep.DeepCutAuto
import Derived.Deep.Draws
import Derived.Deep.LoopGhost
import Derived.Deep.OwnRows
import Derived.Deep.QuietTactic
import Derived.Deep.RegionHeld3
import Derived.Deep.RegionWith
import Derived.KernelRfl
import Derived.Laws.BitsLemmas
import Derived.Laws.BytesArg
import Derived.Laws.CopyOwn
import Derived.Laws.CopyRow
import Derived.Laws.Externs
import Derived.Laws.IdiomCopy
import Derived.Laws.MakeOwn
import Derived.Laws.OwnMore
import Derived.Laws.Rows
import Derived.Laws.Slices
import Derived.Laws.StructEq
import Derived.Lib.AppendStr
import Derived.Lib.AppendZerosOnto
import Derived.Lib.ConvBytes
import Derived.Lib.Overlaps
import Derived.Lib.SliceRun
import Derived.Lib.Walk
import Derived.Maps.AppendAt
import Derived.OrdersHeld
import Derived.OwnWalk
import Derived.RowKit
import Derived.RowKit3
import Derived.Shelf.SlSortCmp.KitK
import Derived.Sort.LotA
import Derived.StillTailTactics
import Derived.Tactics
import Derived.WalkKit
import Derived.WideLaws
import Derived.Test.YtanokgpnmbbajaaCReceiveLot7
import Derived.Test.YtanokgpnmbbajaaCReceiveLot11
import Derived.Test.YtanokgpnmbbajaaCReceiveLot17
section
namespace Go.Proofs.Ytanokgpnmbbajaa.Pure
open Go.RowKit Go.Proofs.YtanokgpnmbbajaaW.PrintWords Go.Proofs.YtanokgpnmbbajaaB Go.Proofs.Ytanokgpnmbbajaa.PV Go.Proofs.Ytanokgpnmbbajaa.Stab
set_option linter.unusedVariables false
set_option linter.unusedSimpArgs false
theorem lotPut_ins (x : S43) : ∀ l : List S43, lotPut l x = insB dayOf l x
  | [] => by simp [lotPut, lotPlace, insB]
  | y :: l => by
    have ih := lotPut_ins x l
    unfold lotPut lotPlace at ih ⊢
    rw [List.takeWhile_cons]
    unfold insB
    by_cases h : y.f2 ≤ x.f2
    · rw [if_pos (by simpa using h), if_neg (show ¬ dayOf x < dayOf y by unfold dayOf; omega), ← ih]
      simp
    · rw [if_neg (by simpa using h), if_pos (show dayOf x < dayOf y by unfold dayOf; omega)]
      simp
def received (l : List S43) (x : S43) : List S43 × Int :=
  if stockOk l = true then (if lotOk x = true then (if l.length = 30 then ([], 3) else (insB dayOf l x, 0)) else ([], 2)) else ([], 1)
theorem received_length (l : List S43) (x : S43) : (received l x).1.length ≤ l.length + 1 := by
  unfold received
  split
  · split
    · split
      · simp
      · rw [length_insB]; omega
    · simp
  · simp
theorem spec_ReceiveLot_ev {l : List S43} (hl : l.length ≤ 9223372036854775806) (x : S43) : Ev (fun k => spec_ReceiveLot.f k l x.f0 x.f1 x.f2) (received l x) := by
  unfold spec_ReceiveLot.f received
  refine Ev.bind (spec_IsStock_ev hl) (Ev.ite (fun h => ?_) (fun h => Ev.eq (by rw [if_neg h])))
  rw [if_pos h]
  have la := stockOk_len h
  refine Ev.bind (Ev.eq (spec_l25Lot_eq _ _ _)) (Ev.ite (fun h2 => ?_) (fun h2 => Ev.eq (by rw [if_neg (show ¬ lotOk x = true from h2)])))
  rw [if_pos (show lotOk x = true from h2)]
  refine Ev.ite (fun c => Ev.eq (by rw [if_pos (by omega)])) (fun c => ?_)
  rw [if_neg (by omega)]
  exact Ev.bind (spec_l25Insert_ev (by omega) x) (Ev.eq rfl)
theorem impl_ReceiveLot_ev {l : List S43} (hl : l.length ≤ 9223372036854775806) (x : S43) : Ev (fun k => impl_ReceiveLot.f k l x.f0 x.f1 x.f2) (received l x) := by
  unfold impl_ReceiveLot.f received
  refine Ev.bind (impl_IsStock_ev hl) (Ev.ite (fun h => ?_) (fun h => Ev.eq (by rw [if_neg h])))
  rw [if_pos h]
  have la := stockOk_len h
  refine Ev.bind (Ev.eq (impl_isLot_eq _ _ _)) (Ev.ite (fun h2 => ?_) (fun h2 => Ev.eq (by rw [if_neg (show ¬ lotOk x = true from h2)])))
  rw [if_pos (show lotOk x = true from h2)]
  refine Ev.pos (by omega) (Ev.ite (fun c => Ev.eq (by rw [if_pos c])) (fun c => Ev.eq (by rw [if_neg c, ← lotPut_ins])))
theorem FnExactReceiveLot : laws_FnExactReceiveLot.Pure := by
  intro l a b c hg ha hb hc
  obtain ⟨r, h1, h2⟩ := laws_szLotS_eq hg.1
  refine Ev.rounds (g := fun k => laws_FnExactReceiveLot.f k l a b c) ?_
  unfold laws_FnExactReceiveLot.f
  refine Ev.bind (Ev.eq h1) (Ev.ite (fun _ => Ev.eq rfl) (fun h => ?_))
  have hl : l.length ≤ 1048576 := by omega
  have hl' : (l.map toLot).length ≤ 1048576 := by simpa using hl
  have s0 := laws_toLotS_ev hl
  have t0 : laws_toLot.f a b c = some (a, b, c) := rfl
  have s2 := spec_ReceiveLot_ev (l := l.map toLot) (by omega) ⟨a, b, c⟩
  have s3 := impl_ReceiveLot_ev (l := l.map toLot) (by omega) ⟨a, b, c⟩
  have hd := received_length (l.map toLot) ⟨a, b, c⟩
  generalize l.map toLot = m at s0 s2 s3 hl' hd
  generalize received m ⟨a, b, c⟩ = v at s2 s3 hd
  obtain ⟨v1, v2⟩ := v
  simp only at hd s2 s3
  have q1 := laws_eqLotS_refl (l := v1) (by omega)
  have q2 := laws_eqLotS_refl (l := m) (by omega)
  have k1 := laws_markLotS_ev (l := m) (n := 1) (by omega) (by omega) (by omega)
  have k3 := laws_markLotS_ev (l := v1) (n := 1) (by omega) (by omega) (by omega)
  have k4 := laws_heldLotS_ev (l := v1) (n := 1) (by omega) (by omega) (by omega)
  refine Ev.bind s0 (Ev.bind (Ev.eq t0) (Ev.bind s2 (Ev.bind s0 (Ev.bind (Ev.eq t0) (Ev.bind s3 (Ev.bind q1 (Ev.pos (by trivial) (Ev.succ ?_))))))))
  simp only [laws_FnExactReceiveLot.j0]
  refine Ev.neg (by simp) (Ev.bind s0 (Ev.bind q2 (Ev.pos (by trivial) (Ev.bind k1 (Ev.neg (by simp only; omega) (Ev.bind q1 (Ev.pos (by trivial) (Ev.succ ?_))))))))
  simp only [laws_FnExactReceiveLot.j1]
  refine Ev.neg (by simp) (Ev.bind k3 (Ev.bind k4 (Ev.neg (by omega) (Ev.pos (by trivial) (Ev.bind s0 (Ev.bind (Ev.eq t0) (Ev.bind s3 (Ev.bind q1 (Ev.pos (by trivial) (Ev.succ ?_))))))))))
  simp only [laws_FnExactReceiveLot.j2]
  refine Ev.neg (by simp) (Ev.bind k4 (Ev.neg (by omega) (Ev.pos (by trivial) (Ev.eq rfl))))
end Go.Proofs.Ytanokgpnmbbajaa.Pure
end
