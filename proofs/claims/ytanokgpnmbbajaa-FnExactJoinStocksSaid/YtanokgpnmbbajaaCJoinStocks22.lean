-- Gathered by this session's program wip/tool/shake.py out of its own texts and of what the kit's print and the session's patches of it wrote for this claim.
import Derived.Test.YtanokgpnmbbajaaProg
import Derived.ArgAppend
import Derived.Below
import Derived.BigQuiet
import Derived.Deep.AppendLies
import Derived.Deep.CutBlock
import Derived.Deep.DeepCutAuto
import Derived.Deep.Draws
import Derived.Deep.LoopGhost
import Derived.Deep.OwnRows
import Derived.Deep.QuietTactic
import Derived.Deep.RegionHeld3
import Derived.KernelRfl
import Derived.Laws.BitsLemmas
import Derived.Laws.BytesArg
import Derived.Laws.IdiomCopy
import Derived.Laws.MakeOwn
import Derived.Laws.OwnMore
import Derived.Laws.Rows
import Derived.Laws.Slices
import Derived.Laws.StructEq
import Derived.Lib.AppendStr
import Derived.Lib.ConvBytes
import Derived.Maps.AppendAt
import Derived.OrdersHeld
import Derived.OwnWalk
import Derived.RowKit
import Derived.RowKit3
import Derived.Shelf.SlSortCmp.InsertionK
import Derived.Shelf.SlSortCmp.KitK
import Derived.Sort.LotA
import Derived.Sort.WalkB12
import Derived.Sort.WalkB2
import Derived.Tactics
import Derived.WalkKit
import Derived.WideLaws
import Derived.Test.YtanokgpnmbbajaaCJoinStocks9
import Derived.Test.YtanokgpnmbbajaaCJoinStocks15
import Derived.Test.YtanokgpnmbbajaaCJoinStocks21
section
namespace Go.Proofs.Ytanokgpnmbbajaa.Pure
open Go.RowKit Go.Proofs.YtanokgpnmbbajaaW.PrintWords Go.Proofs.YtanokgpnmbbajaaB Go.Proofs.Ytanokgpnmbbajaa.PJ Go.Proofs.Ytanokgpnmbbajaa.Stab
set_option linter.unusedVariables false
set_option linter.unusedSimpArgs false
theorem spec_JoinStocks_l0 (b : List S43) (hb : b.length ≤ 30) : ∀ d i, i + d = b.length → ∀ o : List S43, o.length + d ≤ 100 →
    Ev (fun k => spec_JoinStocks.l0 k b o (i : Int)) ((b.drop i).foldl (insB dayOf) o, 0) := by
  intro d
  induction d with
  | zero =>
    intro i hi o ho
    refine Ev.succ ?_
    simp only [spec_JoinStocks.l0]
    refine Ev.neg (by omega) (Ev.eq ?_)
    have : b.drop i = [] := List.drop_eq_nil_of_le (by omega)
    rw [this]; rfl
  | succ d ih =>
    intro i hi o ho
    have e1 : wrap64 ((i : Int) + 1) = ((i + 1 : Nat) : Int) := by rw [w64 (by omega) (by omega)]; omega
    rw [getD_drop b z43 i (by omega)]
    refine Ev.succ ?_
    simp only [spec_JoinStocks.l0, rd_Lot, e1]
    generalize b.getD i z43 = x
    exact Ev.pos (by omega) (Ev.pos (by omega) (Ev.bind (spec_l25Insert_ev (by omega) x) (ih (i + 1) (by omega) _ (by rw [length_insB]; omega))))
def joined (a b : List S43) : List S43 × Int :=
  if stockOk a = true then (if stockOk b = true then (if (a.length : Int) + (b.length : Int) > 30 then ([], 3) else ((a ++ b).mergeSort (byKey dayOf), 0)) else ([], 1)) else ([], 1)
theorem joined_length (a b : List S43) : (joined a b).1.length ≤ a.length + b.length := by
  unfold joined
  split
  · split
    · split
      · simp
      · simp
    · simp
  · simp
theorem spec_JoinStocks_ev {a b : List S43} (ha : a.length ≤ 9223372036854775806) (hb : b.length ≤ 9223372036854775806) : Ev (fun k => spec_JoinStocks.f k a b) (joined a b) := by
  unfold spec_JoinStocks.f joined
  refine Ev.bind (spec_IsStock_ev ha) (Ev.ite (fun h => ?_) (fun h => ?_))
  · rw [if_pos h]
    refine Ev.bind (spec_IsStock_ev hb) (Ev.succ ?_)
    simp only [spec_JoinStocks.j0]
    have la := stockOk_len h
    cases h2 : stockOk b with
    | false => exact Ev.pos (by trivial) (Ev.eq (by rw [if_neg (by simp)]))
    | true =>
      rw [if_pos rfl]
      have lb := stockOk_len h2
      rw [w64 (by omega) (by omega)]
      refine Ev.neg (by simp) (Ev.ite (fun c => Ev.eq (by rw [if_pos c])) (fun c => ?_))
      rw [if_neg c]
      simp only [Option.bind_some, List.nil_append, List.length_nil, Nat.zero_add]
      refine Ev.pos (by omega) ?_
      refine (spec_JoinStocks_l0 b lb b.length 0 (by omega) a (by omega)).cast ?_
      rw [List.drop_zero, fold_merge (stock_asc h)]
  · rw [if_neg h]
    refine Ev.succ ?_
    simp only [spec_JoinStocks.j0]
    exact Ev.pos (by trivial) (Ev.eq rfl)
theorem impl_JoinStocks_ev {a b : List S43} (ha : a.length ≤ 9223372036854775806) (hb : b.length ≤ 9223372036854775806) : Ev (fun k => impl_JoinStocks.f k a b) (joined a b) := by
  unfold impl_JoinStocks.f joined
  refine Ev.bind (impl_IsStock_ev ha) (Ev.ite (fun h => ?_) (fun h => Ev.eq (by rw [if_neg h])))
  rw [if_pos h]
  refine Ev.bind (impl_IsStock_ev hb) (Ev.ite (fun h2 => ?_) (fun h2 => Ev.eq (by rw [if_neg h2])))
  rw [if_pos h2]
  have la := stockOk_len h
  have lb := stockOk_len h2
  refine Ev.pos (by omega) (Ev.ite (fun c => Ev.eq (by rw [if_pos c])) (fun c => Ev.eq (by rw [if_neg c]; rfl)))
theorem laws_szLotS_gen {l : List S41} {m : Int} (hl : l.length ≤ 9223372036854775807) (h0 : 0 ≤ m) (h1 : m ≤ 4611686018427387904) : ∃ r, laws_szLotS.f l m = some r ∧ (r < 0 ∨ (0 ≤ r ∧ r ≤ m ∧ (l.length : Int) ≤ m)) := by
  unfold laws_szLotS.f
  rw [w64 (by omega) (by omega)]
  split
  · exact ⟨_, rfl, .inl (by omega)⟩
  · exact ⟨_, rfl, .inr (by omega)⟩
theorem FnExactJoinStocks : laws_FnExactJoinStocks.Pure := by
  intro l m hg hh
  obtain ⟨r, h1, h2⟩ := laws_szLotS_gen (m := 1048576) hg.1 (by omega) (by omega)
  refine Ev.rounds (g := fun k => laws_FnExactJoinStocks.f k l m) ?_
  unfold laws_FnExactJoinStocks.f
  refine Ev.bind (Ev.eq h1) (Ev.ite (fun _ => Ev.eq rfl) (fun h => ?_))
  obtain ⟨r', h3, h4⟩ := laws_szLotS_gen (m := r) hh.1 (by omega) (by omega)
  refine Ev.bind (Ev.eq h3) (Ev.ite (fun _ => Ev.eq rfl) (fun h' => ?_))
  have hl : l.length ≤ 1048576 := by omega
  have hm : m.length ≤ 1048576 := by omega
  have hl' : (l.map toLot).length ≤ 1048576 := by simpa using hl
  have hm' : (m.map toLot).length ≤ 1048576 := by simpa using hm
  have s0 := laws_toLotS_ev hl
  have s1 := laws_toLotS_ev hm
  have s2 := spec_JoinStocks_ev (a := l.map toLot) (b := m.map toLot) (by omega) (by omega)
  have s3 := impl_JoinStocks_ev (a := l.map toLot) (b := m.map toLot) (by omega) (by omega)
  have hd := joined_length (l.map toLot) (m.map toLot)
  generalize l.map toLot = a at s0 s2 s3 hl' hd
  generalize m.map toLot = b at s1 s2 s3 hm' hd
  generalize joined a b = v at s2 s3 hd
  obtain ⟨v1, v2⟩ := v
  simp only at hd
  have q1 := laws_eqLotS_refl (l := v1) (by omega)
  have q2 := laws_eqLotS_refl (l := a) (by omega)
  have q3 := laws_eqLotS_refl (l := b) (by omega)
  have k1 := laws_markLotS_ev (l := a) (n := 1) (by omega) (by omega) (by omega)
  have k2 := laws_markLotS_ev (l := b) (n := 1 + 3 * (a.length : Int)) (by omega) (by omega) (by omega)
  have k3 := laws_markLotS_ev (l := v1) (n := 1) (by omega) (by omega) (by omega)
  have k4 := laws_heldLotS_ev (l := v1) (n := 1) (by omega) (by omega) (by omega)
  refine Ev.bind s0 (Ev.bind s1 (Ev.bind s2 (Ev.bind s0 (Ev.bind s1 (Ev.bind s3 (Ev.bind q1 (Ev.pos (by trivial) (Ev.succ ?_))))))))
  simp only [laws_FnExactJoinStocks.j0]
  refine Ev.neg (by simp) (Ev.bind s0 (Ev.bind q2 (Ev.pos (by trivial) (Ev.bind s1 (Ev.bind q3 (Ev.pos (by trivial) (Ev.bind k1 (Ev.bind k2 (Ev.neg (by simp only; omega) (Ev.bind q1 (Ev.pos (by trivial) (Ev.succ ?_))))))))))))
  simp only [laws_FnExactJoinStocks.j1]
  refine Ev.neg (by simp) (Ev.bind k3 (Ev.bind k4 (Ev.neg (by omega) (Ev.pos (by trivial) (Ev.bind s0 (Ev.bind s1 (Ev.bind s3 (Ev.bind q1 (Ev.pos (by trivial) (Ev.succ ?_))))))))))
  simp only [laws_FnExactJoinStocks.j2]
  refine Ev.neg (by simp) (Ev.bind k4 (Ev.neg (by omega) (Ev.pos (by trivial) (Ev.eq rfl))))
end Go.Proofs.Ytanokgpnmbbajaa.Pure
end
