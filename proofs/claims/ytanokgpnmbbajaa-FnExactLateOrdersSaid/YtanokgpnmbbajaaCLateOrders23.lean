-- Gathered by this session's program wip/tool/shake.py out of its own texts and of what the kit's print and the session's patches of it wrote for this claim.
import Derived.Test.YtanokgpnmbbajaaProg
import Derived.ArgAppend
import Derived.Below
import Derived.BigQuiet
import Derived.Deep.AppendLies
import Derived.Deep.CutBlock
import Derived.Deep.DeepCutAuto
import Derived.Deep.Draws
import Derived.Deep.LoopGhost
import Derived.Deep.OwnRows
import Derived.Deep.QuietTactic
import Derived.Deep.RegionHeld3
import Derived.KernelRfl
import Derived.Laws.BitsLemmas
import Derived.Laws.BytesArg
import Derived.Laws.IdiomCopy
import Derived.Laws.MakeOwn
import Derived.Laws.OwnMore
import Derived.Laws.Rows
import Derived.Laws.Slices
import Derived.Laws.StructEq
import Derived.Lib.AppendStr
import Derived.Lib.ConvBytes
import Derived.Maps.AppendAt
import Derived.OrdersHeld
import Derived.OwnWalk
import Derived.RowKit
import Derived.RowKit3
import Derived.Shelf.SlSortCmp.InsertionK
import Derived.Shelf.SlSortCmp.KitK
import Derived.Sort.LotA
import Derived.Sort.WalkB12
import Derived.Sort.WalkB2
import Derived.Tactics
import Derived.WalkKit
import Derived.WideLaws
import Derived.Test.YtanokgpnmbbajaaCLateOrders15
import Derived.Test.YtanokgpnmbbajaaCLateOrders21
import Derived.Test.YtanokgpnmbbajaaCLateOrders22
section
namespace Go.Proofs.Ytanokgpnmbbajaa.Pure
open Go.RowKit Go.Proofs.YtanokgpnmbbajaaW.PrintWords Go.Proofs.YtanokgpnmbbajaaB Go.Proofs.Ytanokgpnmbbajaa.PS
set_option linter.unusedVariables false
set_option linter.unusedSimpArgs false
theorem FnExactLateOrders : laws_FnExactLateOrders.Pure := by
  intro l a hg ha
  obtain ⟨r, h1, h2⟩ := laws_szOrderS_eq hg.1
  refine Ev.rounds (g := fun k => laws_FnExactLateOrders.f k l a) ?_
  unfold laws_FnExactLateOrders.f
  refine Ev.bind (Ev.eq h1) (Ev.ite (fun _ => Ev.eq rfl) (fun h => ?_))
  have hl : l.length ≤ 1048576 := by omega
  have hm : (l.map toOrder).length ≤ 1048576 := by simpa using hl
  have s0 := laws_toOrderS_ev hl
  have s1 := spec_LateOrders_ev (l := l.map toOrder) (by omega) a
  have s2 := impl_LateOrders_ev (l := l.map toOrder) (by omega) a
  have hd := lateVal_len (l := l.map toOrder) a
  generalize l.map toOrder = m at s0 s1 s2 hm hd
  generalize lateVal m a = v at s1 s2 hd
  obtain ⟨v1, v2⟩ := v
  simp only at hd
  have q1 := laws_eqInt64S_refl (l := v1) (by omega)
  have q2 := laws_eqOrderS_refl (l := m) (by omega)
  have k1 := laws_markOrderS_ev (l := m) (n := 1) (by omega) (by omega) (by omega)
  have k2 := laws_markInt64S_ev (l := v1) (n := 1) (by omega) (by omega) (by omega)
  have k3 := laws_heldInt64S_ev (l := v1) (n := 1) (by omega) (by omega) (by omega)
  refine Ev.bind s0 (Ev.bind s1 (Ev.bind s0 (Ev.bind s2 (Ev.bind q1 (Ev.pos (by trivial) (Ev.succ ?_))))))
  simp only [laws_FnExactLateOrders.j0]
  refine Ev.neg (by simp) (Ev.bind s0 (Ev.bind q2 (Ev.pos (by trivial) (Ev.bind k1 (Ev.neg (by simp only; omega) (Ev.bind q1 (Ev.pos (by trivial) (Ev.succ ?_))))))))
  simp only [laws_FnExactLateOrders.j1]
  refine Ev.neg (by simp) (Ev.bind k2 (Ev.bind k3 (Ev.neg (by omega) (Ev.pos (by trivial) (Ev.bind s0 (Ev.bind s2 (Ev.bind q1 (Ev.pos (by trivial) (Ev.succ ?_)))))))))
  simp only [laws_FnExactLateOrders.j2]
  refine Ev.neg (by simp) (Ev.bind k3 (Ev.neg (by omega) (Ev.pos (by trivial) (Ev.eq rfl))))
end Go.Proofs.Ytanokgpnmbbajaa.Pure
end
