-- Gathered by this session's program wip/tool/shake.py out of its own texts and of what the kit's print and the session's patches of it wrote for this claim.
import Derived.Test.YtanokgpnmbbajaaProg
import Derived.ArgAppend
import Derived.Below
import Derived.BigQuiet
import Derived.Deep.AppendLies
import Derived.Deep.CutBlock
import Derived.Deep.DeepCutAuto
import Derived.Deep.Draws
import Derived.Deep.LoopGhost
import Derived.Deep.OwnRows
import Derived.Deep.QuietTactic
import Derived.Deep.RegionHeld3
import Derived.Deep.RegionWith
import Derived.KernelRfl
import Derived.Laws.BitsLemmas
import Derived.Laws.BytesArg
import Derived.Laws.CopyOwn
import Derived.Laws.CopyRow
import Derived.Laws.Externs
import Derived.Laws.IdiomCopy
import Derived.Laws.MakeOwn
import Derived.Laws.OwnMore
import Derived.Laws.Rows
import Derived.Laws.Slices
import Derived.Laws.StructEq
import Derived.Lib.AppendStr
import Derived.Lib.AppendZerosOnto
import Derived.Lib.ConvBytes
import Derived.Lib.Overlaps
import Derived.Lib.SliceRun
import Derived.Lib.Walk
import Derived.Maps.AppendAt
import Derived.OrdersHeld
import Derived.OwnWalk
import Derived.RowKit
import Derived.RowKit3
import Derived.Shelf.SlSortCmp.InsertionK
import Derived.Shelf.SlSortCmp.KitK
import Derived.Sort.LotA
import Derived.Sort.WalkB12
import Derived.Sort.WalkB2
import Derived.StillTailTactics
import Derived.Tactics
import Derived.WalkKit
import Derived.WideLaws
import Derived.Test.YtanokgpnmbbajaaCFnLots23
import Derived.Test.YtanokgpnmbbajaaCFnLots24
import Derived.Test.YtanokgpnmbbajaaCFnLots31
import Derived.Test.YtanokgpnmbbajaaCFnLots32
section
namespace Go.Proofs.Ytanokgpnmbbajaa.Pure
open Go.RowKit Go.Proofs.YtanokgpnmbbajaaW.PrintWords Go.Proofs.YtanokgpnmbbajaaB Go.Proofs.Ytanokgpnmbbajaa.PF Go.Proofs.Ytanokgpnmbbajaa.Stab
set_option linter.unusedVariables false
set_option linter.unusedSimpArgs false
theorem spec_DrawReceiveLot_ok {c : List Int} (hc : ∀ y ∈ c, 0 ≤ y ∧ y ≤ 255) (hl : c.length ≤ 1048576) : ∃ l a b d, Ev (fun k => spec_DrawReceiveLot.f k c) (l, a, b, d) ∧ l.length ≤ 40 := by
  obtain ⟨s0, E0, S0⟩ := spec_l01From_ev hc hl
  obtain ⟨r, p1, s1, e1, S1, hr0, hr1⟩ := spec_l01Next_ok S0 12
  obtain ⟨l, p2, s2, E2, S2, hl2, hm2⟩ := spec_l25Draw_ok S1
  by_cases c0 : r = 0
  · obtain ⟨a, p3, s3, e3, S3, _⟩ := spec_l01Pick_ok S2 [(-1), 19, 20] (by simp) (by simp)
    obtain ⟨b, p4, s4, e4, S4, _⟩ := spec_l01Pick_ok S3 [0, 1, 1000000, 1000001] (by simp) (by simp)
    obtain ⟨d, p5, s5, e5, S5, _⟩ := spec_l01Pick_ok S4 [(-1), 0, 100000, 100001] (by simp) (by simp)
    refine ⟨l, a, b, d, ?_, hl2⟩
    unfold spec_DrawReceiveLot.f
    exact Ev.bind E0 (Ev.bind (Ev.eq e1) (Ev.pos c0 (Ev.bind E2 (Ev.bind (Ev.eq e3) (Ev.bind (Ev.eq e4) (Ev.bind (Ev.eq e5) (Ev.eq rfl)))))))
  · obtain ⟨a, p3, s3, e3, S3, _, _⟩ := spec_l01Next_ok S2 3
    obtain ⟨b, p4, s4, e4, S4, _, _⟩ := spec_l01Next_ok S3 40
    obtain ⟨d, p5, s5, e5, S5, _, _⟩ := spec_l01Next_ok S4 16
    refine ⟨l, a, wrap64 (1 + b), d, ?_, hl2⟩
    unfold spec_DrawReceiveLot.f
    exact Ev.bind E0 (Ev.bind (Ev.eq e1) (Ev.neg c0 (Ev.bind E2 (Ev.bind (Ev.eq e3) (Ev.bind (Ev.eq e4) (Ev.bind (Ev.eq e5) (Ev.eq rfl)))))))
theorem spec_DrawJoinStocks_ok {c : List Int} (hc : ∀ y ∈ c, 0 ≤ y ∧ y ≤ 255) (hl : c.length ≤ 1048576) : ∃ a b, Ev (fun k => spec_DrawJoinStocks.f k c) (a, b) ∧ a.length ≤ 40 ∧ b.length ≤ 40 := by
  obtain ⟨s0, E0, S0⟩ := spec_l01From_ev hc hl
  obtain ⟨a, p1, s1, E1, S1, h1, _⟩ := spec_l25Draw_ok S0
  obtain ⟨b, p2, s2, E2, S2, h2, _⟩ := spec_l25Draw_ok S1
  refine ⟨a, b, ?_, h1, h2⟩
  unfold spec_DrawJoinStocks.f
  exact Ev.bind E0 (Ev.bind E1 (Ev.bind E2 (Ev.eq rfl)))
theorem spec_DrawDropBefore_ok {c : List Int} (hc : ∀ y ∈ c, 0 ≤ y ∧ y ≤ 255) (hl : c.length ≤ 1048576) : ∃ l a, Ev (fun k => spec_DrawDropBefore.f k c) (l, a) ∧ l.length ≤ 40 := by
  obtain ⟨s0, E0, S0⟩ := spec_l01From_ev hc hl
  obtain ⟨r, p1, s1, e1, S1, hr0, hr1⟩ := spec_l01Next_ok S0 16
  obtain ⟨l, p2, s2, E2, S2, hl2, hm2⟩ := spec_l25Draw_ok S1
  by_cases c0 : r = 0
  · obtain ⟨a, p3, s3, e3, S3, _⟩ := spec_l01Pick_ok S2 [(-1), 0, 100000, 100001] (by simp) (by simp)
    refine ⟨l, a, ?_, hl2⟩
    unfold spec_DrawDropBefore.f
    exact Ev.bind E0 (Ev.bind (Ev.eq e1) (Ev.pos c0 (Ev.bind E2 (Ev.bind (Ev.eq e3) (Ev.eq rfl)))))
  · obtain ⟨a, p3, s3, e3, S3, _, _⟩ := spec_l01Next_ok S2 14
    refine ⟨l, a, ?_, hl2⟩
    unfold spec_DrawDropBefore.f
    exact Ev.bind E0 (Ev.bind (Ev.eq e1) (Ev.neg c0 (Ev.bind E2 (Ev.bind (Ev.eq e3) (Ev.eq rfl)))))
theorem spec_DrawSheetsOf_ok {c : List Int} (hc : ∀ y ∈ c, 0 ≤ y ∧ y ≤ 255) (hl : c.length ≤ 1048576) : ∃ l a, Ev (fun k => spec_DrawSheetsOf.f k c) (l, a) ∧ l.length ≤ 40 := by
  obtain ⟨s0, E0, S0⟩ := spec_l01From_ev hc hl
  obtain ⟨l, p2, s2, E2, S2, hl2, hm2⟩ := spec_l25Draw_ok S0
  obtain ⟨a, p3, s3, e3, S3⟩ := spec_l25DrawKind_ok S2
  refine ⟨l, a, ?_, hl2⟩
  unfold spec_DrawSheetsOf.f
  exact Ev.bind E0 (Ev.bind E2 (Ev.bind (Ev.eq e3) (Ev.eq rfl)))
theorem nn30 {x : Int} {n : Nat} (h : 0 ≤ x ∧ x ≤ 1000000 * (n : Int)) (hn : n ≤ 30) : 0 ≤ x ∧ x ≤ 30000000 := by omega
theorem law_j4 (l : List S43) (x : S43) : Ev (fun k => laws_FnLots.j4 k l (received l x).1 (received l x).2 x.f0 x.f1 x.f2) true := by
  refine Ev.succ ?_
  simp only [laws_FnLots.j4]
  refine Ev.ite (fun h => ?_) (fun h => Ev.eq rfl)
  obtain ⟨h1, h2, h3, h4⟩ := received_zero h
  have hx := lotOk_iff.1 h2
  have hl := stockOk_len h1
  have hl2 := stockOk_len h4
  rw [h3]
  have g1 := impl_SheetsOf_val (l := l) (by omega) x.f0
  have g2 := impl_SheetsOf_val (l := insB dayOf l x) (by omega) x.f0
  rw [sheetsVal_ok h1 (by omega) (by omega)] at g1
  rw [sheetsVal_ok h4 (by omega) (by omega)] at g2
  have hs := sheets_insB x.f0 x l
  rw [if_pos rfl] at hs
  have hb := nn30 (sheets_bound x.f0 l (fun y hy => stockOk_mem h1 hy)) hl
  generalize sheets x.f0 (insB dayOf l x) = B at g2 hs
  generalize sheets x.f0 l = A at g1 hs hb
  refine Ev.bind g1 (Ev.bind g2 (Ev.bind (impl_IsStock_ev (by omega)) (Ev.pos h4 (Ev.pos (by simp only) (Ev.pos (by simp only) (Ev.eq ?_))))))
  simp only
  rw [w64 (by omega) (by omega), hs]
  simp
theorem law_l1 (x3 x5 : List S43) (x6 u v w : Int) (c : List S43) (hc : ∀ y ∈ c, lotOk y = true) (hl : c.length ≤ 30) (hj : Ev (fun k => laws_FnLots.j4 k x3 x5 x6 u v w) true) : ∀ d i, i + d = c.length → ∀ n : Int, n = tot (c.drop i) →
    Ev (fun k => laws_FnLots.l1 k x3 x5 x6 c n (i : Int) u v w) true := by
  intro d
  induction d with
  | zero =>
    intro i hi n hn
    refine Ev.succ ?_
    simp only [laws_FnLots.l1]
    have : c.drop i = [] := List.drop_eq_nil_of_le (by omega)
    rw [this] at hn
    exact Ev.neg (by omega) (Ev.pos hn hj)
  | succ d ih =>
    intro i hi n hn
    have e1 : wrap64 ((i : Int) + 1) = ((i + 1 : Nat) : Int) := by rw [w64 (by omega) (by omega)]; omega
    rw [getD_drop c z43 i (by omega)] at hn
    have hb := tot_bound (c.drop (i + 1)) (fun y hy => hc y (List.mem_of_mem_drop hy))
    have hb2 := nn30 hb (by rw [List.length_drop]; omega)
    have hx := lotOk_iff.1 (hc _ (getD_mem c z43 i (by omega)))
    refine Ev.succ ?_
    simp only [laws_FnLots.l1, rd_Lot, e1]
    generalize c.getD i z43 = y at hn hx
    simp only [tot] at hn
    refine Ev.pos (by omega) (Ev.pos (by omega) ?_)
    have h6 := ih (i + 1) (by omega) (n - y.f1) (by omega)
    rw [w64 (by omega) (by omega)]
    exact h6
theorem law_l0 (x3 x5 : List S43) (x6 u v w day : Int) (c z : List S43) (hc : ∀ y ∈ c, lotOk y = true) (hl : c.length ≤ 30) (hz : ∀ y ∈ z, ¬ y.f2 < day ∧ lotOk y = true) (hzl : z.length ≤ 30) (hj : Ev (fun k => laws_FnLots.j4 k x3 x5 x6 u v w) true) : ∀ d i, i + d = z.length → ∀ n : Int, 0 ≤ n → n + tot (z.drop i) = tot c →
    Ev (fun k => laws_FnLots.l0 k x3 x5 x6 c day z n (i : Int) u v w) true := by
  have hT := nn30 (tot_bound c hc) hl
  intro d
  induction d with
  | zero =>
    intro i hi n h0 hn
    refine Ev.succ ?_
    simp only [laws_FnLots.l0]
    have : z.drop i = [] := List.drop_eq_nil_of_le (by omega)
    rw [this] at hn
    simp only [tot] at hn
    exact Ev.neg (by omega) (law_l1 x3 x5 x6 u v w c hc hl hj c.length 0 (by omega) n (by rw [List.drop_zero]; omega))
  | succ d ih =>
    intro i hi n h0 hn
    have e1 : wrap64 ((i : Int) + 1) = ((i + 1 : Nat) : Int) := by rw [w64 (by omega) (by omega)]; omega
    rw [getD_drop z z43 i (by omega)] at hn
    have hb := tot_bound (z.drop (i + 1)) (fun y hy => (hz y (List.mem_of_mem_drop hy)).2)
    have hx := hz _ (getD_mem z z43 i (by omega))
    have hk := lotOk_iff.1 hx.2
    refine Ev.succ ?_
    simp only [laws_FnLots.l0, rd_Lot, e1]
    generalize z.getD i z43 = y at hn hx hk
    simp only [tot] at hn
    refine Ev.pos (by omega) (Ev.pos (by omega) (Ev.neg hx.1 ?_))
    have h6 := ih (i + 1) (by omega) (n + y.f1) (by omega) (by omega)
    rw [w64 (by omega) (by omega)]
    exact h6
theorem law_j1 (l c : List S43) (x : S43) (day : Int) : Ev (fun k => laws_FnLots.j1 k l (received l x).1 (received l x).2 c day (dropped c day).1 (dropped c day).2.1 (dropped c day).2.2 false x.f0 x.f1 x.f2) true := by
  refine Ev.succ ?_
  simp only [laws_FnLots.j1]
  refine Ev.neg (by simp) (Ev.ite (fun h => ?_) (fun h => law_j4 l x))
  obtain ⟨h1, h2, h3⟩ := dropped_zero h
  have hk := keeps_tot day c
  have hl := stockOk_len h1
  have hc : ∀ y ∈ c, lotOk y = true := fun y hy => stockOk_mem h1 hy
  have hn := keeps_length day c
  have h0 : 0 ≤ (keeps day c).2 := by
    have hb := tot_bound (keeps day c).1 (fun y hy => hc y (hk.2 y hy).2)
    have := keeps_pos day c hc
    exact this
  rw [h2, h3]
  exact law_l0 l _ _ x.f0 x.f1 x.f2 day c (keeps day c).1 hc hl (fun y hy => ⟨(hk.2 y hy).1, hc y (hk.2 y hy).2⟩) (by omega) (law_j4 l x) (keeps day c).1.length 0 (by omega) _ h0 (by rw [List.drop_zero]; exact hk.1)
theorem FnLots : laws_FnLots.Pure := by
  intro c hg
  refine Ev.rounds (g := fun k => laws_FnLots.f k c) ?_
  unfold laws_FnLots.f
  refine Ev.bind (a := decide ((c.length : Int) > 4096)) (Ev.eq rfl) (Ev.ite (fun _ => Ev.eq rfl) (fun h => ?_))
  have hc : c.length ≤ 1048576 := by
    simp only [decide_eq_true_eq] at h; omega
  obtain ⟨l, a, b, d, E1, hl⟩ := spec_DrawReceiveLot_ok hg.2 hc
  obtain ⟨p, q, E2, hp, hq⟩ := spec_DrawJoinStocks_ok hg.2 hc
  obtain ⟨m, day, E3, hm⟩ := spec_DrawDropBefore_ok hg.2 hc
  obtain ⟨o, kd, E4, ho⟩ := spec_DrawSheetsOf_ok hg.2 hc
  have t1 := received_length l ⟨a, b, d⟩
  have t2 := joined_length p q
  have t3 := dropped_length m day
  refine Ev.bind E1 (Ev.bind (impl_ReceiveLot_ev (l := l) (by omega) ⟨a, b, d⟩) (Ev.bind (spec_ReceiveLot_ev (l := l) (by omega) ⟨a, b, d⟩) (Ev.bind E2 (Ev.bind (impl_JoinStocks_ev (a := p) (b := q) (by omega) (by omega)) (Ev.bind (spec_JoinStocks_ev (a := p) (b := q) (by omega) (by omega)) (Ev.bind E3 (Ev.bind (impl_DropBefore_ev (l := m) (by omega) day) (Ev.bind (spec_DropBefore_ev (l := m) (by omega) day) (Ev.bind E4 (Ev.bind (impl_SheetsOf_val (l := o) (by omega) kd) (Ev.bind (spec_SheetsOf_val (l := o) (by omega) kd) ?_)))))))))))
  refine Ev.pos rfl (Ev.bind (likeLots_refl (l := (received l ⟨a, b, d⟩).1) (by omega)) (Ev.pos rfl (Ev.pos rfl (Ev.bind (likeLots_refl (l := (joined p q).1) (by omega)) (Ev.pos rfl (Ev.pos rfl (Ev.bind (likeLots_refl (l := (dropped m day).1) (by omega)) (Ev.pos rfl (Ev.pos rfl (Ev.pos rfl (Ev.succ ?_)))))))))))
  simp only [laws_FnLots.j0]
  refine Ev.neg (by simp) (Ev.ite (fun hj => ?_) (fun hj => law_j1 l m ⟨a, b, d⟩ day))
  obtain ⟨g1, g2, g3⟩ := joined_zero hj
  refine Ev.bind (impl_IsStock_ev (l := (joined p q).1) (by omega)) (Ev.pos g1 ?_)
  have e : (((joined p q).1.length : Int) != (wrap64 ((p.length : Int) + (q.length : Int)))) = false := by
    rw [w64 (by omega) (by omega), g2]; simp
  rw [e]
  exact law_j1 l m ⟨a, b, d⟩ day
end Go.Proofs.Ytanokgpnmbbajaa.Pure
end
