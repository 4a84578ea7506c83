-- Gathered by this session's program wip/tool/shake.py out of its own texts and of what the kit's print and the session's patches of it wrote for this claim.
import Derived.Test.YtanokgpnmbbajaaProg
import Derived.ArgAppend
import Derived.Below
import Derived.BigQuiet
import Derived.Deep.AppendLies
import Derived.Deep.CutBlock
import Derived.Deep.DeepCutAuto
import Derived.Deep.Draws
import Derived.Deep.LoopGhost
import Derived.Deep.OwnRows
import Derived.Deep.QuietTactic
import Derived.Deep.RegionHeld3
import Derived.KernelRfl
import Derived.Laws.BitsLemmas
import Derived.Laws.BytesArg
import Derived.Laws.IdiomCopy
import Derived.Laws.MakeOwn
import Derived.Laws.OwnMore
import Derived.Laws.Rows
import Derived.Laws.Slices
import Derived.Laws.StructEq
import Derived.Lib.AppendStr
import Derived.Lib.ConvBytes
import Derived.Lib.SliceRun
import Derived.Maps.AppendAt
import Derived.OrdersHeld
import Derived.OwnWalk
import Derived.RowKit
import Derived.RowKit3
import Derived.Shelf.SlSortCmp.InsertionK
import Derived.Shelf.SlSortCmp.KitK
import Derived.Sort.LotA
import Derived.Sort.WalkB12
import Derived.Sort.WalkB2
import Derived.Tactics
import Derived.WalkKit
import Derived.WideLaws
import Derived.Test.YtanokgpnmbbajaaCFnDueOrders20
import Derived.Test.YtanokgpnmbbajaaCFnDueOrders26
import Derived.Test.YtanokgpnmbbajaaCFnDueOrders27
section
namespace Go.Proofs.Ytanokgpnmbbajaa.Pure
open Go.RowKit Go.Proofs.YtanokgpnmbbajaaW.PrintWords Go.Proofs.YtanokgpnmbbajaaB Go.Proofs.Ytanokgpnmbbajaa.PT Go.Proofs.Ytanokgpnmbbajaa.Stab
set_option linter.unusedVariables false
set_option linter.unusedSimpArgs false
/-- The orders in the states below k: how many, and their copies. -/
def cntB (l : List S78) (k : Int) : Int := ((l.filter (fun o => decide (o.f3 < k))).length : Int)
def minS (k : Int) : Int := if k < 4 then k else 4
theorem cntB_bound (l : List S78) (k : Int) : 0 ≤ cntB l k ∧ cntB l k ≤ (l.length : Int) := ⟨Int.natCast_nonneg _, Int.ofNat_le.2 (List.length_filter_le _ _)⟩
theorem cntB_succ (k : Int) : ∀ l : List S78, cntB l (k + 1) = cntB l k + ((inNos l k).length : Int)
  | [] => by simp [cntB, inNos]
  | x :: l => by
    have ih := cntB_succ k l
    simp only [cntB, inNos, List.length_map, List.filter_cons] at ih ⊢
    by_cases h1 : x.f3 < k
    · have h2 : x.f3 < k + 1 := by omega
      have h3 : ¬ x.f3 = k := by omega
      simp only [h1, h2, h3, decide_true, decide_false, if_true, List.length_cons, Bool.false_eq_true, if_false]
      omega
    · by_cases h3 : x.f3 = k
      · have h2 : x.f3 < k + 1 := by omega
        simp only [h1, h2, h3, decide_true, decide_false, if_true, List.length_cons, Bool.false_eq_true, if_false]
        have h4 : ¬ k < k := by omega
        have h5 : k < k + 1 := by omega
        simp only [h4, h5, decide_true, decide_false, if_true, List.length_cons, Bool.false_eq_true, if_false]
        omega
      · have h2 : ¬ x.f3 < k + 1 := by omega
        simp only [h1, h2, h3, decide_true, decide_false, Bool.false_eq_true, if_false]
        omega
theorem cntB_all : ∀ (l : List S78), (∀ x ∈ l, orderOk x = true) → cntB l 6 = (l.length : Int)
  | [], _ => by simp [cntB]
  | x :: l, h => by
    have ih := cntB_all l (fun y hy => h y (List.mem_cons_of_mem _ hy))
    have hx := h x (List.mem_cons_self ..)
    simp only [orderOk, decide_eq_true_eq] at hx
    have h2 : x.f3 < 6 := by omega
    simp only [cntB, List.filter_cons, h2, decide_true, if_true, List.length_cons] at ih ⊢
    omega
theorem cntB_zero : ∀ (l : List S78), (∀ x ∈ l, orderOk x = true) → cntB l 0 = 0
  | [], _ => by simp [cntB]
  | x :: l, h => by
    have ih := cntB_zero l (fun y hy => h y (List.mem_cons_of_mem _ hy))
    have hx := h x (List.mem_cons_self ..)
    simp only [orderOk, decide_eq_true_eq] at hx
    have h2 : ¬ x.f3 < 0 := by omega
    simp only [cntB, List.filter_cons, h2, decide_false, Bool.false_eq_true, if_false] at ih ⊢
    exact ih
theorem sumB_succ (k : Int) : ∀ l : List S78, sumIf (fun o => decide (o.f3 < k + 1)) l = sumIf (fun o => decide (o.f3 < k)) l + sumIf (fun o => decide (o.f3 = k)) l
  | [] => by simp [sumIf]
  | x :: l => by
    have ih := sumB_succ k l
    simp only [sumIf, decide_eq_true_eq]
    rw [ih]
    by_cases h1 : x.f3 < k
    · rw [if_pos h1, if_pos (show x.f3 < k + 1 by omega), if_neg (show ¬ x.f3 = k by omega)]; omega
    · by_cases h3 : x.f3 = k
      · rw [if_neg h1, if_pos (show x.f3 < k + 1 by omega), if_pos h3]; omega
      · rw [if_neg h1, if_neg (show ¬ x.f3 < k + 1 by omega), if_neg h3]; omega
theorem sumB_zero : ∀ (l : List S78), (∀ x ∈ l, orderOk x = true) → sumIf (fun o => decide (o.f3 < 0)) l = 0
  | [], _ => by simp [sumIf]
  | x :: l, h => by
    have ih := sumB_zero l (fun y hy => h y (List.mem_cons_of_mem _ hy))
    have hx := h x (List.mem_cons_self ..)
    simp only [orderOk, decide_eq_true_eq] at hx
    simp only [sumIf, decide_eq_true_eq]
    rw [if_neg (show ¬ x.f3 < 0 by omega), ih]; rfl
/-- The first late order is the first open one. -/
theorem late_head {l : List S78} {a n m : Int} {t u : List Int} (h1 : lateNos l a = n :: t) (h2 : lateNos l 100001 = m :: u) (ha : a ≤ 100000) : n = m := by
  have hs := asc_merge (key := fun o : S78 => o.f2) l
  unfold lateNos at h1 h2
  generalize l.mergeSort (byKey fun o : S78 => o.f2) = s at hs h1 h2
  induction s with
  | nil => simp at h1
  | cons x s ih =>
    have hs' := List.pairwise_cons.1 hs
    by_cases hx : x.f3 < 4
    · by_cases hd : x.f2 < a
      · rw [List.filter_cons_of_pos (by simp [lateP, hx, hd]), List.map_cons] at h1
        rw [List.filter_cons_of_pos (by simp [lateP, hx]; omega), List.map_cons] at h2
        rw [← (List.cons.inj h1).1, ← (List.cons.inj h2).1]
      · exfalso
        have : (x :: s).filter (lateP a) = [] := by
          rw [List.filter_eq_nil_iff]
          intro y hy
          have hk : x.f2 ≤ y.f2 := by
            rcases List.mem_cons.1 hy with rfl | hy
            · omega
            · exact hs'.1 y hy
          have : ¬ y.f2 < a := by omega
          simp [lateP, this]
        rw [this] at h1
        cases h1
    · rw [List.filter_cons_of_neg (by simp [lateP, hx])] at h1 h2
      exact ih hs'.2 h1 h2
theorem law_l1 (l : List S78) (hb : bookOk l = true) (v1 : List Int) (v2 n1 n2 op c : Int) (k : Nat) (hk : k ≤ 5) (S : Int) (hr : Ev (fun q => laws_FnDueOrders.l0 q l v1 v2 n1 n2 op c S ((k : Int) + 1)) true) :
    ∀ d i : Nat, i + d = l.length → ∀ o T : Int, 0 ≤ o → o ≤ 100000000 + 1000000 * (i : Int) → sumIf (fun o => decide (o.f3 = (k : Int))) (l.drop i) = T → o + (if (k : Int) < 4 then T else 0) = S →
      Ev (fun q => laws_FnDueOrders.l1 q l v1 v2 n1 n2 op c o (k : Int) (inNos l (k : Int)) (i : Int)) true := by
  have hl := bookOk_len hb
  have hlen : (inNos l (k : Int)).length ≤ 9223372036854775806 := Nat.le_trans (inNos_len l _) (Nat.le_trans hl (by decide))
  have hmem := fun x (hx : x ∈ l) => inNos_mem hb hx (k : Int)
  have hok := bookOk_mem hb
  clear hb
  generalize inNos l (k : Int) = ns at hlen hmem ⊢
  intro d
  induction d with
  | zero =>
    intro i hi o T h0 hn hT he
    refine Ev.succ ?_
    simp only [laws_FnDueOrders.l1]
    have e1 : wrap64 ((k : Int) + 1) = (k : Int) + 1 := w64 (by omega) (by omega)
    rw [e1]
    have : l.drop i = [] := List.drop_eq_nil_of_le (by omega)
    rw [this] at hT
    have hT0 : T = 0 := by rw [← hT]; rfl
    clear hT this
    have eo : o = S := by rw [hT0] at he; split at he <;> omega
    rw [eo]
    exact Ev.neg (by omega) hr
  | succ d ih =>
    intro i hi o T h0 hn hT he
    have hx := hok _ (getD_mem l z78 i (by omega))
    have hm := hmem _ (getD_mem l z78 i (by omega))
    simp only [orderOk, decide_eq_true_eq] at hx
    rw [getD_drop l z78 i (by omega)] at hT
    obtain ⟨U, hU⟩ : ∃ U, sumIf (fun o => decide (o.f3 = (k : Int))) (l.drop (i + 1)) = U := ⟨_, rfl⟩
    have ih3 := fun o h0 hn he => ih (i + 1) (by omega) o U h0 hn hU he
    clear ih
    simp only [sumIf, decide_eq_true_eq, hU] at hT
    clear hU
    have e1 : wrap64 ((i : Int) + 1) = ((i + 1 : Nat) : Int) := by rw [w64 (by omega) (by omega)]; omega
    refine Ev.succ ?_
    simp only [laws_FnDueOrders.l1, rd_Order, e1]
    generalize l.getD i z78 = x at hx hm hT ⊢
    refine Ev.pos (by omega) (Ev.ite (fun h4 => Ev.pos (by omega) (Ev.bind (laws_hasInt_ev hlen _) (Ev.ite (fun h => ?_) (fun h => ?_)))) (fun h4 => ?_))
    · rw [decide_eq_true_eq, hm] at h
      rw [if_pos h] at hT
      rw [if_pos h4] at he
      rw [w64 (by omega) (by omega)]
      refine ih3 _ (by omega) (by omega) ?_
      rw [if_pos h4]; omega
    · rw [decide_eq_true_eq, hm] at h
      rw [if_neg h] at hT
      rw [if_pos h4] at he
      refine ih3 _ (by omega) (by omega) ?_
      rw [if_pos h4]; omega
    · rw [if_neg h4] at he
      refine ih3 _ (by omega) (by omega) ?_
      rw [if_neg h4]; omega
set_option maxHeartbeats 8000000 in
theorem FnDueOrders : laws_FnDueOrders.Pure := by
  intro c hg
  refine Ev.rounds (g := fun k => laws_FnDueOrders.f k c) ?_
  unfold laws_FnDueOrders.f
  refine Ev.bind (a := decide ((c.length : Int) > 4096)) (Ev.eq rfl) (Ev.ite (fun _ => Ev.eq rfl) (fun h => ?_))
  have hc : c.length ≤ 1048576 := by
    simp only [decide_eq_true_eq] at h; omega
  obtain ⟨l, a, E1, hl⟩ := spec_DrawLateOrders_ok hg.2 hc
  obtain ⟨o, s, E2, ho⟩ := spec_DrawOrdersIn_ok hg.2 hc
  have t1 := lateVal_len (l := l) a
  have t2 := inVal_len o s
  refine Ev.bind E1 (Ev.bind (impl_LateOrders_ev (l := l) (by omega) a) (Ev.bind (spec_LateOrders_ev (l := l) (by omega) a) (Ev.bind (impl_NextDue_ev (l := l) (by omega)) (Ev.bind (spec_NextDue_ev (l := l) (by omega)) (Ev.bind (impl_OpenCopies_ev (l := l) (by omega)) (Ev.bind (spec_OpenCopies_ev (l := l) (by omega)) (Ev.bind E2 (Ev.bind (impl_OrdersIn_ev (l := o) (by omega) s) (Ev.bind (spec_OrdersIn_ev (l := o) (by omega) s) ?_)))))))))
  refine Ev.pos rfl (Ev.bind (laws_likeInts_refl (l := (lateVal l a).1) (by omega)) (Ev.pos rfl (Ev.pos rfl (Ev.pos rfl (Ev.pos rfl (Ev.pos rfl (Ev.pos rfl (Ev.bind (laws_likeInts_refl (l := (inVal o s).1) (by omega)) (Ev.succ ?_)))))))))
  simp only [laws_FnDueOrders.j0]
  refine Ev.neg (by simp) (Ev.ite (fun h0 => ?_) (fun _ => Ev.eq rfl))
  have hb : bookOk l = true := by
    unfold openVal at h0
    split at h0
    · assumption
    · simp at h0
  have hll := bookOk_len hb
  have hok := bookOk_mem hb
  have key : ∀ d k : Nat, k + d = 6 → ∀ o : Int, o = sumIf (fun o => decide (o.f3 < minS (k : Int))) l → Ev (fun q => laws_FnDueOrders.l0 q l (lateVal l a).1 (lateVal l a).2 (nextVal l).1 (nextVal l).2 (openVal l).1 (cntB l (k : Int)) o (k : Int)) true := by
    intro d
    induction d with
    | zero =>
      intro k hk o ho
      have hk6 : k = 6 := by omega
      subst hk6
      refine Ev.succ ?_
      simp only [laws_FnDueOrders.l0]
      have e1 : cntB l ((6 : Nat) : Int) = (l.length : Int) := cntB_all l hok
      have e2 : o = (openVal l).1 := by rw [ho]; unfold openVal; rw [if_pos hb]; rfl
      refine Ev.neg (by omega) (Ev.pos e1 (Ev.pos e2 (Ev.ite (fun h1 => Ev.ite (fun _ => Ev.eq rfl) (fun h2 => ?_)) (fun _ => Ev.eq rfl))))
      have hr : 0 ≤ a ∧ a ≤ 100000 := by
        unfold lateVal at h1
        rw [if_pos hb] at h1
        split at h1
        · assumption
        · simp at h1
      have hv : lateVal l a = (lateNos l a, 0) := by unfold lateVal; rw [if_pos hb, if_pos hr]
      rw [hv] at h2 ⊢
      have hn : ∃ n t, lateNos l a = n :: t := by
        cases hh : lateNos l a with
        | nil => rw [hh] at h2; simp at h2
        | cons n t => exact ⟨n, t, rfl⟩
      obtain ⟨n, t, hn⟩ := hn
      have hm : ∃ m u, lateNos l 100001 = m :: u := by
        cases hh : lateNos l 100001 with
        | nil =>
          exfalso
          have hmem : n ∈ lateNos l a := by rw [hn]; exact List.mem_cons_self
          unfold lateNos at hmem hh
          obtain ⟨x, hx, _⟩ := List.mem_map.1 hmem
          have hx' := List.mem_filter.1 hx
          have : x ∈ (l.mergeSort (byKey fun o : S78 => o.f2)).filter (lateP 100001) := by
            refine List.mem_filter.2 ⟨hx'.1, ?_⟩
            have := hx'.2
            simp only [lateP, Bool.and_eq_true, decide_eq_true_eq] at this ⊢
            omega
          rw [List.map_eq_nil_iff.1 hh] at this
          cases this
        | cons m u => exact ⟨m, u, rfl⟩
      obtain ⟨m, u, hm⟩ := hm
      have he := late_head hn hm hr.2
      have hnv : nextVal l = (m, 0) := by unfold nextVal; rw [if_pos hb, hm]
      rw [hnv, hn]
      refine Ev.pos rfl (Ev.pos (by simp only [List.length_cons]; omega) (Ev.eq ?_))
      simp [rd, he]
    | succ d ih =>
      intro k hk o ho
      have hbd := sumIf_bound (fun o => decide (o.f3 < minS (k : Int))) l hok
      refine Ev.succ ?_
      simp only [laws_FnDueOrders.l0]
      have hin : inVal l (k : Int) = (inNos l (k : Int), 0) := by unfold inVal; rw [if_pos hb, if_pos (by omega)]
      have hcb : 0 ≤ cntB l (k : Int) ∧ cntB l (k : Int) ≤ 50 := by
        exact ⟨cntB_bound l (k : Int) |>.1, Int.le_trans (cntB_bound l (k : Int)).2 (by omega)⟩
      have hib : (inNos l (k : Int)).length ≤ 50 := Nat.le_trans (inNos_len l _) hll
      refine Ev.pos (by omega) (Ev.bind (impl_OrdersIn_ev (l := l) (by omega) (k : Int)) ?_)
      rw [hin]
      refine Ev.pos rfl ?_
      have ec : wrap64 (cntB l (k : Int) + ((inNos l (k : Int)).length : Int)) = cntB l ((k : Int) + 1) := by
        rw [w64 (by omega) (by omega), cntB_succ]
      simp only [ec]
      have ih' := fun o ho => ih (k + 1) (by omega) o ho
      rw [show ((k + 1 : Nat) : Int) = (k : Int) + 1 by omega] at ih'
      have hbd2 := sumIf_bound (fun o => decide (o.f3 < minS ((k : Int) + 1))) l hok
      obtain ⟨T, hT⟩ : ∃ T, sumIf (fun o => decide (o.f3 = (k : Int))) l = T := ⟨_, rfl⟩
      have hsum : o + (if (k : Int) < 4 then T else 0) = sumIf (fun o => decide (o.f3 < minS ((k : Int) + 1))) l := by
        rw [ho]
        by_cases h4 : (k : Int) < 4
        · have e : minS ((k : Int) + 1) = (k : Int) + 1 := by
            unfold minS; split <;> omega
          have e2 : minS (k : Int) = (k : Int) := by unfold minS; rw [if_pos h4]
          rw [if_pos h4, ← hT, e2, e, ← sumB_succ]
        · have e : minS ((k : Int) + 1) = minS (k : Int) := by
            unfold minS; rw [if_neg h4, if_neg (by omega)]
          rw [if_neg h4, e, Int.add_zero]
      rw [← ho] at hbd
      have hll2 : (l.length : Int) ≤ 50 := Int.ofNat_le.2 hll
      have hoo : 0 ≤ o ∧ o ≤ 100000000 := ⟨hbd.1, Int.le_trans hbd.2 (by omega)⟩
      exact law_l1 l hb _ _ _ _ _ _ k (by omega) _ (ih' _ rfl) l.length 0 (by omega) o T hoo.1 (by omega) hT hsum
  have h0' := key 6 0 (by omega) 0 (by
    have := sumB_zero l hok
    unfold minS
    rw [if_pos (by omega)]
    exact this.symm)
  have ez : cntB l ((0 : Nat) : Int) = 0 := cntB_zero l hok
  rw [ez] at h0'
  exact h0'
end Go.Proofs.Ytanokgpnmbbajaa.Pure
end
