-- Gathered by this session's program wip/tool/shake.py out of its own texts and of what the kit's print and the session's patches of it wrote for this claim.
import Derived.Test.YtanokgpnmbbajaaProg
import Derived.ArgAppend
import Derived.Below
import Derived.BigQuiet
import Derived.Deep.AppendLies
import Derived.Deep.CutBlock
import Derived.Deep.DeepCutAuto
import Derived.Deep.Draws
import Derived.Deep.LoopGhost
import Derived.Deep.OwnRows
import Derived.Deep.QuietTactic
import Derived.Deep.RegionHeld3
import Derived.KernelRfl
import Derived.Laws.BitsLemmas
import Derived.Laws.BytesArg
import Derived.Laws.IdiomCopy
import Derived.Laws.MakeOwn
import Derived.Laws.OwnMore
import Derived.Laws.Rows
import Derived.Laws.Slices
import Derived.Laws.StructEq
import Derived.Lib.AppendStr
import Derived.Lib.ConvBytes
import Derived.Maps.AppendAt
import Derived.OrdersHeld
import Derived.OwnWalk
import Derived.RowKit
import Derived.RowKit3
import Derived.Shelf.SlSortCmp.InsertionK
import Derived.Shelf.SlSortCmp.KitK
import Derived.Sort.LotA
import Derived.Sort.WalkB12
import Derived.Sort.WalkB2
import Derived.Tactics
import Derived.WalkKit
import Derived.WideLaws
import Derived.Test.YtanokgpnmbbajaaCLateOrders6
import Derived.Test.YtanokgpnmbbajaaCLateOrders7
import Derived.Test.YtanokgpnmbbajaaCLateOrders13
import Derived.Test.YtanokgpnmbbajaaCLateOrders19
import Derived.Test.YtanokgpnmbbajaaCLateOrders20
section
namespace Go.Proofs.Ytanokgpnmbbajaa.PS
open Go.RowKit Go.Proofs.YtanokgpnmbbajaaW.PrintWords Go.Proofs.YtanokgpnmbbajaaB Go.Proofs.Ytanokgpnmbbajaa.Stab
set_option linter.unusedVariables false
set_option linter.unusedSimpArgs false
theorem spec_l01Less_one (a b : Int) : Ev (fun k => spec_l01Less.f k [a] [b]) (decide (a < b)) := by
  unfold spec_l01Less.f
  refine Ev.succ ?_
  simp only [spec_l01Less.l0]
  refine Ev.pos (by simp) (Ev.succ ?_)
  simp only [spec_l01Less.j1]
  refine Ev.pos (by simp) (Ev.pos (by omega) (Ev.pos (by simp) (Ev.pos (by simp) (Ev.ite (fun h => ?_) (fun h => Ev.eq (by simp [rd]))))))
  have e1 : wrap64 ((0 : Int) + 1) = 1 := by rw [w64 (by omega) (by omega)]; rfl
  rw [e1]
  refine Ev.succ ?_
  simp only [spec_l01Less.l0]
  refine Ev.neg (by simp) (Ev.succ ?_)
  simp only [spec_l01Less.j1]
  refine Ev.neg (by simp) (Ev.eq ?_)
  have : a = b := by simpa [rd] using h
  simp [this]
def castN (js : List Nat) : List Int := js.map (fun j : Nat => (j : Int))
theorem rd_castN (js : List Nat) (t : Nat) (h : t < js.length) : rd (castN js) (t : Int) = ((js[t] : Nat) : Int) := by
  simp [rd, castN, h]
theorem put_in {xs : List Int} {i : Int} {t : Nat} (h : xs.length ≤ 100) (ht : t ≤ xs.length) : ((spec_l01Own.f (xs.take (t : Int).toNat)).bind fun t405 => ((some (([i] : List Int) : List Int)).bind fun y408 => (if t405.length + y408.length < 17592186044416 then ((some (t405 ++ y408 : List Int)).bind fun y411 => (if y411.length + (xs.drop (t : Int).toNat).length < 17592186044416 then (some (y411 ++ (xs.drop (t : Int).toNat))) else (none))) else (none)))) = some (xs.take t ++ i :: xs.drop t) := by
  unfold spec_l01Own.f
  simp only [Option.bind_some, Int.toNat_natCast, List.nil_append, List.length_nil, Nat.zero_add]
  rw [if_pos (by rw [List.length_take]; omega)]
  simp only [Option.bind_some]
  rw [if_pos (by rw [List.length_take]; simp; omega), if_pos (by rw [List.length_append, List.length_take, List.length_drop]; simp; omega)]
  simp
theorem spec_l20Insert_l0 (keys : List (List Int)) (kx : Nat → Int) (i : Nat) (js : List Nat) (hl : js.length ≤ 100) (hk : ∀ j, j < keys.length → keys.getD j [] = [kx j]) (hi : i < keys.length) (hj : ∀ j ∈ js, j < keys.length) (hkl : keys.length ≤ 100) :
    ∀ d t : Nat, t + d = js.length → Ev (fun k => spec_l20Insert.l0 k (castN js) keys (i : Int) (t : Int)) (castN (js.take t ++ insB kx (js.drop t) i)) := by
  intro d
  induction d with
  | zero =>
    intro t ht
    have hln : (castN js).length = js.length := by simp [castN]
    refine Ev.succ ?_
    simp only [spec_l20Insert.l0]
    refine Ev.neg (by rw [hln]; omega) (Ev.pos (by omega) (Ev.pos (by rw [hln]; omega) (Ev.eq ?_)))
    rw [put_in (by rw [hln]; exact hl) (by rw [hln]; omega)]
    have e1 : js.drop t = [] := List.drop_eq_nil_of_le (by omega)
    have e2 : (castN js).drop t = [] := List.drop_eq_nil_of_le (by rw [hln]; omega)
    rw [e1, e2]
    simp [castN, insB]
  | succ d ih =>
    intro t ht
    have hln : (castN js).length = js.length := by simp [castN]
    have htl : t < js.length := by omega
    have hjt := hj js[t] (List.getElem_mem htl)
    have h3 := ih (t + 1) (by omega)
    have e1 : wrap64 ((t : Int) + 1) = ((t + 1 : Nat) : Int) := by rw [w64 (by omega) (by omega)]; omega
    refine Ev.succ ?_
    simp only [spec_l20Insert.l0, rd_castN js t htl]
    have r1 : rd_L5 keys (i : Int) = [kx i] := by have := hk i hi; simpa [rd_L5] using this
    have r2 : rd_L5 keys ((js[t] : Nat) : Int) = [kx js[t]] := by have := hk js[t] hjt; simpa [rd_L5] using this
    rw [r1, r2]
    refine Ev.pos (by rw [hln]; omega) (Ev.pos (by omega) (Ev.pos (by omega) (Ev.pos (by omega) (Ev.pos (by omega) (Ev.pos (by omega) (Ev.bind (spec_l01Less_one _ _) ?_))))))
    have ed : js.drop t = js[t] :: js.drop (t + 1) := List.drop_eq_getElem_cons htl
    refine Ev.ite (fun h => ?_) (fun h => ?_)
    · simp only [decide_eq_true_eq] at h
      refine Ev.pos (by rw [hln]; omega) (Ev.eq ?_)
      rw [put_in (by rw [hln]; exact hl) (by rw [hln]; omega), ed]
      unfold insB
      rw [if_pos h, ← ed]
      simp [castN]
    · simp only [decide_eq_true_eq] at h
      rw [e1]
      refine h3.cast ?_
      rw [ed]
      conv => rhs; unfold insB
      rw [if_neg h, List.take_succ_eq_append_getElem htl, List.append_assoc]; rfl
theorem spec_l20Insert_ev (keys : List (List Int)) (kx : Nat → Int) (i : Nat) (js : List Nat) (hl : js.length ≤ 100) (hk : ∀ j, j < keys.length → keys.getD j [] = [kx j]) (hi : i < keys.length) (hj : ∀ j ∈ js, j < keys.length) (hkl : keys.length ≤ 100) :
    Ev (fun k => spec_l20Insert.f k (castN js) keys (i : Int)) (castN (insB kx js i)) := by
  unfold spec_l20Insert.f
  exact (spec_l20Insert_l0 keys kx i js hl hk hi hj hkl js.length 0 (by omega)).cast (by simp)
section
variable (m : List S78) (day : Int)
def lateP (o : S78) : Bool := decide (o.f3 < 4) && decide (o.f2 < day)
def gO (j : Nat) : S78 := m.getD j z78
def jsAt (i : Nat) : List Nat := ((List.range i).filter (fun j => lateP day (gO m j))).foldl (insB (fun j => (gO m j).f2)) []
theorem jsAt_succ (i : Nat) : jsAt m day (i + 1) = if lateP day (gO m i) = true then insB (fun j => (gO m j).f2) (jsAt m day i) i else jsAt m day i := by
  unfold jsAt
  rw [List.range_succ, List.filter_append, List.foldl_append]
  by_cases h : lateP day (gO m i) = true
  · rw [if_pos h, List.filter_cons_of_pos (by exact h)]; rfl
  · rw [if_neg h, List.filter_cons_of_neg (by exact h)]; rfl
theorem jsAt_mem : ∀ i, ∀ j ∈ jsAt m day i, j < i
  | 0, j, h => by simp [jsAt] at h
  | i + 1, j, h => by
    rw [jsAt_succ] at h
    split at h
    · rcases mem_insB h with rfl | h
      · omega
      · have := jsAt_mem i j h; omega
    · have := jsAt_mem i j h; omega
theorem jsAt_len : ∀ i, (jsAt m day i).length ≤ i
  | 0 => by simp [jsAt]
  | i + 1 => by
    rw [jsAt_succ]
    have := jsAt_len i
    split
    · rw [length_insB]; omega
    · omega
theorem insB_map (js : List Nat) (i : Nat) : (insB (fun j => (gO m j).f2) js i).map (gO m) = insB (fun o : S78 => o.f2) (js.map (gO m)) (gO m i) := by
  induction js with
  | nil => rfl
  | cons y l ih =>
    simp only [insB, List.map_cons]
    split
    · rfl
    · rw [List.map_cons, ih]
theorem jsAt_map : ∀ i, i ≤ m.length → (jsAt m day i).map (gO m) = ((m.take i).filter (lateP day)).foldl (insB (fun o : S78 => o.f2)) []
  | 0, _ => by simp [jsAt]
  | i + 1, h => by
    have e : m.take (i + 1) = m.take i ++ [gO m i] := by
      rw [List.take_succ_eq_append_getElem (by omega)]; simp [gO, List.getD, List.getElem?_eq_getElem (show i < m.length by omega)]
    rw [jsAt_succ, e, List.filter_append, List.foldl_append, ← jsAt_map i (by omega)]
    by_cases hp : lateP day (gO m i) = true
    · rw [if_pos hp, List.filter_cons_of_pos hp, insB_map]; rfl
    · rw [if_neg hp, List.filter_cons_of_neg hp]; rfl
def lateNos : List Int := ((m.mergeSort (byKey fun o : S78 => o.f2)).filter (lateP day)).map (fun o => o.f0)
theorem jsAt_all : (jsAt m day m.length).map (fun j => (gO m j).f0) = lateNos m day := by
  have h := jsAt_map m day m.length (Nat.le_refl _)
  rw [List.take_length, fold_merge0, merge_filter] at h
  unfold lateNos
  rw [← h, List.map_map]; rfl
theorem spec_l24Late_l1 (hm : m.length ≤ 50) (js : List Nat) (hl : js.length ≤ 50) (hj : ∀ j ∈ js, j < m.length) : ∀ d t : Nat, t + d = js.length → ∀ acc : List Int, acc.length ≤ t →
    Ev (fun k => spec_l24Late.l1 k m (castN js) acc (t : Int)) (acc ++ (js.drop t).map (fun j => (gO m j).f0)) := by
  intro d
  induction d with
  | zero =>
    intro t ht acc ha
    have hln : (castN js).length = js.length := by simp [castN]
    refine Ev.succ ?_
    simp only [spec_l24Late.l1]
    refine Ev.neg (by rw [hln]; omega) (Ev.eq ?_)
    have e1 : js.drop t = [] := List.drop_eq_nil_of_le (by omega)
    rw [e1]; simp
  | succ d ih =>
    intro t ht acc ha
    have hln : (castN js).length = js.length := by simp [castN]
    have htl : t < js.length := by omega
    have hjt := hj js[t] (List.getElem_mem htl)
    have h3 := ih (t + 1) (by omega) (acc ++ [(gO m js[t]).f0]) (by simp; omega)
    have e1 : wrap64 ((t : Int) + 1) = ((t + 1 : Nat) : Int) := by rw [w64 (by omega) (by omega)]; omega
    refine Ev.succ ?_
    simp only [spec_l24Late.l1, rd_castN js t htl, e1, rd_Order]
    refine Ev.pos (by rw [hln]; omega) (Ev.pos (by omega) (Ev.pos (by omega) (Ev.pos (by omega) (Ev.pos (by omega) (h3.cast ?_)))))
    rw [List.drop_eq_getElem_cons htl, List.map_cons, List.append_assoc]; rfl
theorem spec_l24Late_l0 (hm : m.length ≤ 50) : ∀ d i : Nat, i + d = m.length →
    Ev (fun k => spec_l24Late.l0 k m day ((m.take i).map (fun o => [o.f2])) (castN (jsAt m day i)) (i : Int)) (lateNos m day) := by
  intro d
  induction d with
  | zero =>
    intro i hi
    refine Ev.succ ?_
    simp only [spec_l24Late.l0]
    refine Ev.neg (by omega) ?_
    have e : i = m.length := by omega
    subst e
    have h := spec_l24Late_l1 m hm (jsAt m day m.length) (by have := jsAt_len m day m.length; omega) (jsAt_mem m day m.length) _ 0 (Nat.zero_add _) [] (by simp)
    exact h.cast (by rw [← jsAt_all]; simp)
  | succ d ih =>
    intro i hi
    have h3 := ih (i + 1) (by omega)
    have e1 : wrap64 ((i : Int) + 1) = ((i + 1 : Nat) : Int) := by rw [w64 (by omega) (by omega)]; omega
    have hil : i < m.length := by omega
    have et : m.take (i + 1) = m.take i ++ [gO m i] := by
      rw [List.take_succ_eq_append_getElem hil]; simp [gO, List.getD, List.getElem?_eq_getElem hil]
    have ek : (m.take (i + 1)).map (fun o => [o.f2]) = (m.take i).map (fun o => [o.f2]) ++ [[(gO m i).f2]] := by rw [et]; simp
    rw [ek, jsAt_succ] at h3
    refine Ev.succ ?_
    simp only [spec_l24Late.l0, rd_Order, e1, Option.bind_some]
    show Ev _ _
    refine Ev.pos (by omega) (Ev.pos (by omega) (Ev.pos (by simp; omega) ?_))
    change Ev (fun k => (spec_l24Open.f (gO m i).f0 (gO m i).f1 (gO m i).f2 (gO m i).f3).bind fun t446 => (if t446 = true then (if (gO m i).f2 < day then ((spec_l20Insert.f k (castN (jsAt m day i)) ((m.take i).map (fun o => [o.f2]) ++ [[(gO m i).f2]]) (i : Int)).bind fun t448 => (spec_l24Late.l0 k m day ((m.take i).map (fun o => [o.f2]) ++ [[(gO m i).f2]]) t448 ((i + 1 : Nat) : Int))) else (spec_l24Late.l0 k m day ((m.take i).map (fun o => [o.f2]) ++ [[(gO m i).f2]]) (castN (jsAt m day i)) ((i + 1 : Nat) : Int))) else (spec_l24Late.l0 k m day ((m.take i).map (fun o => [o.f2]) ++ [[(gO m i).f2]]) (castN (jsAt m day i)) ((i + 1 : Nat) : Int)))) _
    refine Ev.bind (Ev.eq (show spec_l24Open.f _ _ _ _ = some (decide ((gO m i).f3 < 4)) by unfold spec_l24Open.f; rfl)) ?_
    rw [← ek] at h3 ⊢
    have hkl : ((m.take (i + 1)).map (fun o => [o.f2])).length = i + 1 := by rw [List.length_map, List.length_take]; omega
    refine Ev.ite (fun c1 => Ev.ite (fun c2 => ?_) (fun c2 => ?_)) (fun c1 => ?_)
    · simp only [decide_eq_true_eq] at c1
      rw [if_pos (by simp [lateP, c1, c2])] at h3
      refine Ev.bind (spec_l20Insert_ev _ (fun j => (gO m j).f2) i (jsAt m day i) (by have := jsAt_len m day i; omega) (fun j hj => ?_) (by rw [hkl]; omega) (fun j hj => by have := jsAt_mem m day i j hj; rw [hkl]; omega) (by rw [hkl]; omega)) h3
      rw [hkl] at hj
      have hjm : j < m.length := by omega
      simp [List.getD, List.getElem?_take_of_lt hj, List.getElem?_eq_getElem hjm, gO]
    · rw [if_neg (by simp [lateP, c2])] at h3; exact h3
    · simp only [decide_eq_true_eq] at c1
      rw [if_neg (by simp [lateP, c1])] at h3; exact h3
theorem spec_l24Late_ev (hm : m.length ≤ 50) : Ev (fun k => spec_l24Late.f k m day) (lateNos m day) := by
  unfold spec_l24Late.f
  exact (spec_l24Late_l0 m day hm m.length 0 (by omega)).cast rfl
theorem lateNos_len : (lateNos m day).length ≤ m.length := by
  unfold lateNos
  rw [List.length_map]
  refine Nat.le_trans (List.length_filter_le _ _) ?_
  rw [List.length_mergeSort]; exact Nat.le_refl _
end
end Go.Proofs.Ytanokgpnmbbajaa.PS
end
section
namespace Go.Proofs.Ytanokgpnmbbajaa.PS
open Go.RowKit Go.Proofs.YtanokgpnmbbajaaW.PrintWords Go.Proofs.YtanokgpnmbbajaaW.PrintLast Go.Proofs.YtanokgpnmbbajaaW.PrintMore
attribute [local go_sem] max2_int min2_int max_two min_two max_three min_three max_four min_four   -- for this text's walks alone
set_option linter.unusedVariables false
set_option linter.unusedSimpArgs false
theorem impl_NextDue.pays (w : World) : PaysNow Try.prog 112 #[] (fun x : S78 => Value.agg #[.int .i64 x.f0, .int .i64 x.f1, .int .i64 x.f2, .int .i64 x.f3]) (fun o => decide (o.f3 < 4)) w := fun W x hb => by
  refine (impl_isOpen.calls x.f0 x.f1 x.f2 x.f3 (decide (x.f3 < 4)) W rfl).mono ?_
  rintro e w' ⟨rfl, hb⟩
  exact ⟨rfl, hb⟩
end Go.Proofs.Ytanokgpnmbbajaa.PS
end
section
namespace Go.Proofs.Ytanokgpnmbbajaa.PS
open Go.RowKit Go.Proofs.YtanokgpnmbbajaaW.PrintWords Go.Proofs.YtanokgpnmbbajaaB Go.Proofs.Ytanokgpnmbbajaa.Stab
set_option linter.unusedVariables false
set_option linter.unusedSimpArgs false
def lateVal (l : List S78) (a : Int) : List Int × Int := if bookOk l = true then (if 0 ≤ a ∧ a ≤ 100000 then (lateNos l a, 0) else ([], 2)) else ([], 1)
theorem spec_LateOrders_ev {l : List S78} (hl : l.length ≤ 9223372036854775806) (a : Int) : Ev (fun k => spec_LateOrders.f k l a) (lateVal l a) := by
  unfold spec_LateOrders.f lateVal
  refine Ev.bind (spec_IsOrderBook_ev hl) (Ev.ite (fun hb => ?_) (fun hb => Ev.eq (by rw [if_neg hb])))
  rw [if_pos hb]
  refine Ev.bind (Ev.eq (spec_l01In_eq _ _ _)) (Ev.ite (fun h => ?_) (fun h => Ev.eq ?_))
  · simp only [decide_eq_true_eq] at h
    rw [if_pos h]
    exact Ev.bind (spec_l24Late_ev l a (bookOk_len hb)) (Ev.eq rfl)
  · simp only [decide_eq_true_eq] at h
    rw [if_neg h]
theorem impl_isMinutes_eq (y : Int) : impl_isMinutes.f y = some (decide (0 ≤ y ∧ y ≤ 100000)) := by rw [impl_isMinutes.f, impl_inRange_eq]; rfl
theorem impl_LateOrders_ev {l : List S78} (hl : l.length ≤ 9223372036854775806) (a : Int) : Ev (fun k => impl_LateOrders.f k l a) (lateVal l a) := by
  unfold impl_LateOrders.f lateVal
  refine Ev.bind (impl_IsOrderBook_ev hl) (Ev.ite (fun hb => ?_) (fun hb => Ev.eq (by rw [if_neg hb])))
  rw [if_pos hb]
  refine Ev.bind (Ev.eq (impl_isMinutes_eq _)) (Ev.ite (fun h => ?_) (fun h => Ev.eq ?_))
  · simp only [decide_eq_true_eq] at h
    rw [if_pos h]
    exact Ev.pos (bookOk_len hb) (Ev.eq rfl)
  · simp only [decide_eq_true_eq] at h
    rw [if_neg h]
theorem lateVal_len {l : List S78} (a : Int) : (lateVal l a).1.length ≤ l.length := by
  unfold lateVal
  split
  · split
    · exact lateNos_len l a
    · simp
  · simp
end Go.Proofs.Ytanokgpnmbbajaa.PS
end
