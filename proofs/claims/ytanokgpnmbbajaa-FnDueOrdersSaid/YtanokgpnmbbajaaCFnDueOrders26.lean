-- Gathered by this session's program wip/tool/shake.py out of its own texts and of what the kit's print and the session's patches of it wrote for this claim.
import Derived.Test.YtanokgpnmbbajaaProg
import Derived.ArgAppend
import Derived.Below
import Derived.BigQuiet
import Derived.Deep.AppendLies
import Derived.Deep.CutBlock
import Derived.Deep.DeepCutAuto
import Derived.Deep.Draws
import Derived.Deep.LoopGhost
import Derived.Deep.OwnRows
import Derived.Deep.QuietTactic
import Derived.Deep.RegionHeld3
import Derived.KernelRfl
import Derived.Laws.BitsLemmas
import Derived.Laws.BytesArg
import Derived.Laws.IdiomCopy
import Derived.Laws.MakeOwn
import Derived.Laws.OwnMore
import Derived.Laws.Rows
import Derived.Laws.Slices
import Derived.Laws.StructEq
import Derived.Lib.AppendStr
import Derived.Lib.ConvBytes
import Derived.Lib.SliceRun
import Derived.Maps.AppendAt
import Derived.OrdersHeld
import Derived.OwnWalk
import Derived.RowKit
import Derived.RowKit3
import Derived.Shelf.SlSortCmp.InsertionK
import Derived.Shelf.SlSortCmp.KitK
import Derived.Sort.LotA
import Derived.Sort.WalkB12
import Derived.Sort.WalkB2
import Derived.Tactics
import Derived.WalkKit
import Derived.WideLaws
import Derived.Test.YtanokgpnmbbajaaCFnDueOrders6
import Derived.Test.YtanokgpnmbbajaaCFnDueOrders14
import Derived.Test.YtanokgpnmbbajaaCFnDueOrders15
import Derived.Test.YtanokgpnmbbajaaCFnDueOrders16
import Derived.Test.YtanokgpnmbbajaaCFnDueOrders18
import Derived.Test.YtanokgpnmbbajaaCFnDueOrders19
import Derived.Test.YtanokgpnmbbajaaCFnDueOrders24
import Derived.Test.YtanokgpnmbbajaaCFnDueOrders25
section
namespace Go.Proofs.Ytanokgpnmbbajaa.PT
open Go.RowKit Go.Proofs.YtanokgpnmbbajaaW.PrintWords Go.Proofs.YtanokgpnmbbajaaB Go.Proofs.Ytanokgpnmbbajaa.Stab
set_option linter.unusedVariables false
set_option linter.unusedSimpArgs false
theorem spec_l01Less_one (a b : Int) : Ev (fun k => spec_l01Less.f k [a] [b]) (decide (a < b)) := by
  unfold spec_l01Less.f
  refine Ev.succ ?_
  simp only [spec_l01Less.l0]
  refine Ev.pos (by simp) (Ev.succ ?_)
  simp only [spec_l01Less.j1]
  refine Ev.pos (by simp) (Ev.pos (by omega) (Ev.pos (by simp) (Ev.pos (by simp) (Ev.ite (fun h => ?_) (fun h => Ev.eq (by simp [rd]))))))
  have e1 : wrap64 ((0 : Int) + 1) = 1 := by rw [w64 (by omega) (by omega)]; rfl
  rw [e1]
  refine Ev.succ ?_
  simp only [spec_l01Less.l0]
  refine Ev.neg (by simp) (Ev.succ ?_)
  simp only [spec_l01Less.j1]
  refine Ev.neg (by simp) (Ev.eq ?_)
  have : a = b := by simpa [rd] using h
  simp [this]
def castN (js : List Nat) : List Int := js.map (fun j : Nat => (j : Int))
theorem rd_castN (js : List Nat) (t : Nat) (h : t < js.length) : rd (castN js) (t : Int) = ((js[t] : Nat) : Int) := by
  simp [rd, castN, h]
theorem put_in {xs : List Int} {i : Int} {t : Nat} (h : xs.length ≤ 100) (ht : t ≤ xs.length) : ((spec_l01Own.f (xs.take (t : Int).toNat)).bind fun t405 => ((some (([i] : List Int) : List Int)).bind fun y408 => (if t405.length + y408.length < 17592186044416 then ((some (t405 ++ y408 : List Int)).bind fun y411 => (if y411.length + (xs.drop (t : Int).toNat).length < 17592186044416 then (some (y411 ++ (xs.drop (t : Int).toNat))) else (none))) else (none)))) = some (xs.take t ++ i :: xs.drop t) := by
  unfold spec_l01Own.f
  simp only [Option.bind_some, Int.toNat_natCast, List.nil_append, List.length_nil, Nat.zero_add]
  rw [if_pos (by rw [List.length_take]; omega)]
  simp only [Option.bind_some]
  rw [if_pos (by rw [List.length_take]; simp; omega), if_pos (by rw [List.length_append, List.length_take, List.length_drop]; simp; omega)]
  simp
theorem put_in2 {xs : List Int} {i : Int} {t : Nat} (h : xs.length ≤ 100) (ht : t ≤ xs.length) : ((spec_l01Own.f (xs.take t)).bind fun t405 => ((some (([i] : List Int) : List Int)).bind fun y408 => (if t405.length + y408.length < 17592186044416 then ((some (t405 ++ y408 : List Int)).bind fun y411 => (if y411.length + (xs.drop t).length < 17592186044416 then (some (y411 ++ (xs.drop t))) else (none))) else (none)))) = some (xs.take t ++ i :: xs.drop t) := by
  have := put_in (i := i) h ht
  simpa only [Int.toNat_natCast] using this
theorem spec_l20Insert_l0 (keys : List (List Int)) (kx : Nat → Int) (i : Nat) (js : List Nat) (hl : js.length ≤ 100) (hk : ∀ j, j < keys.length → keys.getD j [] = [kx j]) (hi : i < keys.length) (hj : ∀ j ∈ js, j < keys.length) (hkl : keys.length ≤ 100) :
    ∀ d t : Nat, t + d = js.length → Ev (fun k => spec_l20Insert.l0 k (castN js) keys (i : Int) (t : Int)) (castN (js.take t ++ insB kx (js.drop t) i)) := by
  intro d
  induction d with
  | zero =>
    intro t ht
    have hln : (castN js).length = js.length := by simp [castN]
    refine Ev.succ ?_
    simp only [spec_l20Insert.l0]
    refine Ev.neg (by rw [hln]; omega) (Ev.pos (by omega) (Ev.pos (by rw [hln]; omega) (Ev.eq ?_)))
    rw [put_in (by rw [hln]; exact hl) (by rw [hln]; omega)]
    have e1 : js.drop t = [] := List.drop_eq_nil_of_le (by omega)
    have e2 : (castN js).drop t = [] := List.drop_eq_nil_of_le (by rw [hln]; omega)
    rw [e1, e2]
    simp [castN, insB]
  | succ d ih =>
    intro t ht
    have hln : (castN js).length = js.length := by simp [castN]
    have htl : t < js.length := by omega
    have hjt := hj js[t] (List.getElem_mem htl)
    have h3 := ih (t + 1) (by omega)
    have e1 : wrap64 ((t : Int) + 1) = ((t + 1 : Nat) : Int) := by rw [w64 (by omega) (by omega)]; omega
    refine Ev.succ ?_
    simp only [spec_l20Insert.l0, rd_castN js t htl, rd_L6, rd_L7, Int.toNat_natCast]
    have r1 := hk i hi
    have r2 := hk js[t] hjt
    rw [r1, r2]
    refine Ev.pos (by rw [hln]; omega) (Ev.pos (by omega) (Ev.pos (by omega) (Ev.pos (by omega) (Ev.pos (by omega) (Ev.pos (by omega) (Ev.bind (spec_l01Less_one _ _) ?_))))))
    have ed : js.drop t = js[t] :: js.drop (t + 1) := List.drop_eq_getElem_cons htl
    refine Ev.ite (fun h => ?_) (fun h => ?_)
    · simp only [decide_eq_true_eq] at h
      refine Ev.pos (by rw [hln]; omega) (Ev.eq ?_)
      rw [put_in2 (by rw [hln]; exact hl) (by rw [hln]; omega), ed]
      unfold insB
      rw [if_pos h, ← ed]
      simp [castN]
    · simp only [decide_eq_true_eq] at h
      rw [e1]
      refine h3.cast ?_
      rw [ed]
      conv => rhs; unfold insB
      rw [if_neg h, List.take_succ_eq_append_getElem htl, List.append_assoc]; rfl
theorem spec_l20Insert_ev (keys : List (List Int)) (kx : Nat → Int) (i : Nat) (js : List Nat) (hl : js.length ≤ 100) (hk : ∀ j, j < keys.length → keys.getD j [] = [kx j]) (hi : i < keys.length) (hj : ∀ j ∈ js, j < keys.length) (hkl : keys.length ≤ 100) :
    Ev (fun k => spec_l20Insert.f k (castN js) keys (i : Int)) (castN (insB kx js i)) := by
  unfold spec_l20Insert.f
  exact (spec_l20Insert_l0 keys kx i js hl hk hi hj hkl js.length 0 (by omega)).cast (by simp)
section
variable (m : List S78) (day : Int)
def lateP (o : S78) : Bool := decide (o.f3 < 4) && decide (o.f2 < day)
def gO (j : Nat) : S78 := m.getD j z78
def jsAt (i : Nat) : List Nat := ((List.range i).filter (fun j => lateP day (gO m j))).foldl (insB (fun j => (gO m j).f2)) []
theorem jsAt_succ (i : Nat) : jsAt m day (i + 1) = if lateP day (gO m i) = true then insB (fun j => (gO m j).f2) (jsAt m day i) i else jsAt m day i := by
  unfold jsAt
  rw [List.range_succ, List.filter_append, List.foldl_append]
  by_cases h : lateP day (gO m i) = true
  · rw [if_pos h, List.filter_cons_of_pos (by exact h)]; rfl
  · rw [if_neg h, List.filter_cons_of_neg (by exact h)]; rfl
theorem jsAt_mem : ∀ i, ∀ j ∈ jsAt m day i, j < i
  | 0, j, h => by simp [jsAt] at h
  | i + 1, j, h => by
    rw [jsAt_succ] at h
    split at h
    · rcases mem_insB h with rfl | h
      · omega
      · have := jsAt_mem i j h; omega
    · have := jsAt_mem i j h; omega
theorem jsAt_len : ∀ i, (jsAt m day i).length ≤ i
  | 0 => by simp [jsAt]
  | i + 1 => by
    rw [jsAt_succ]
    have := jsAt_len i
    split
    · rw [length_insB]; omega
    · omega
theorem insB_map (js : List Nat) (i : Nat) : (insB (fun j => (gO m j).f2) js i).map (gO m) = insB (fun o : S78 => o.f2) (js.map (gO m)) (gO m i) := by
  induction js with
  | nil => rfl
  | cons y l ih =>
    simp only [insB, List.map_cons]
    split
    · rfl
    · rw [List.map_cons, ih]
theorem jsAt_map : ∀ i, i ≤ m.length → (jsAt m day i).map (gO m) = ((m.take i).filter (lateP day)).foldl (insB (fun o : S78 => o.f2)) []
  | 0, _ => by simp [jsAt]
  | i + 1, h => by
    have e : m.take (i + 1) = m.take i ++ [gO m i] := by
      rw [List.take_succ_eq_append_getElem (by omega)]; simp [gO, List.getD, List.getElem?_eq_getElem (show i < m.length by omega)]
    rw [jsAt_succ, e, List.filter_append, List.foldl_append, ← jsAt_map i (by omega)]
    by_cases hp : lateP day (gO m i) = true
    · rw [if_pos hp, List.filter_cons_of_pos hp, insB_map]; rfl
    · rw [if_neg hp, List.filter_cons_of_neg hp]; rfl
def lateNos : List Int := ((m.mergeSort (byKey fun o : S78 => o.f2)).filter (lateP day)).map (fun o => o.f0)
theorem jsAt_all : (jsAt m day m.length).map (fun j => (gO m j).f0) = lateNos m day := by
  have h := jsAt_map m day m.length (Nat.le_refl _)
  rw [List.take_length, fold_merge0, merge_filter] at h
  unfold lateNos
  rw [← h, List.map_map]; rfl
theorem spec_l24Late_l1 (hm : m.length ≤ 50) (js : List Nat) (hl : js.length ≤ 50) (hj : ∀ j ∈ js, j < m.length) : ∀ d t : Nat, t + d = js.length → ∀ acc : List Int, acc.length ≤ t →
    Ev (fun k => spec_l24Late.l1 k m (castN js) acc (t : Int)) (acc ++ (js.drop t).map (fun j => (gO m j).f0)) := by
  intro d
  induction d with
  | zero =>
    intro t ht acc ha
    have hln : (castN js).length = js.length := by simp [castN]
    refine Ev.succ ?_
    simp only [spec_l24Late.l1]
    refine Ev.neg (by rw [hln]; omega) (Ev.eq ?_)
    have e1 : js.drop t = [] := List.drop_eq_nil_of_le (by omega)
    rw [e1]; simp
  | succ d ih =>
    intro t ht acc ha
    have hln : (castN js).length = js.length := by simp [castN]
    have htl : t < js.length := by omega
    have hjt := hj js[t] (List.getElem_mem htl)
    have h3 := ih (t + 1) (by omega) (acc ++ [(gO m js[t]).f0]) (by simp; omega)
    have e1 : wrap64 ((t : Int) + 1) = ((t + 1 : Nat) : Int) := by rw [w64 (by omega) (by omega)]; omega
    refine Ev.succ ?_
    simp only [spec_l24Late.l1, rd_castN js t htl, e1, rd_Order]
    refine Ev.pos (by rw [hln]; omega) (Ev.pos (by omega) (Ev.pos (by omega) (Ev.pos (by omega) (Ev.pos (by omega) (h3.cast ?_)))))
    rw [List.drop_eq_getElem_cons htl, List.map_cons, List.append_assoc]; rfl
theorem spec_l24Late_l0 (hm : m.length ≤ 50) : ∀ d i : Nat, i + d = m.length →
    Ev (fun k => spec_l24Late.l0 k m day ((m.take i).map (fun o => [o.f2])) (castN (jsAt m day i)) (i : Int)) (lateNos m day) := by
  intro d
  induction d with
  | zero =>
    intro i hi
    refine Ev.succ ?_
    simp only [spec_l24Late.l0]
    refine Ev.neg (by omega) ?_
    have e : i = m.length := by omega
    subst e
    have h := spec_l24Late_l1 m hm (jsAt m day m.length) (by have := jsAt_len m day m.length; omega) (jsAt_mem m day m.length) _ 0 (Nat.zero_add _) [] (by simp)
    exact h.cast (by rw [← jsAt_all]; simp)
  | succ d ih =>
    intro i hi
    have h3 := ih (i + 1) (by omega)
    have e1 : wrap64 ((i : Int) + 1) = ((i + 1 : Nat) : Int) := by rw [w64 (by omega) (by omega)]; omega
    have hil : i < m.length := by omega
    have et : m.take (i + 1) = m.take i ++ [gO m i] := by
      rw [List.take_succ_eq_append_getElem hil]; simp [gO, List.getD, List.getElem?_eq_getElem hil]
    have ek : (m.take (i + 1)).map (fun o => [o.f2]) = (m.take i).map (fun o => [o.f2]) ++ [[(gO m i).f2]] := by rw [et]; simp
    rw [ek, jsAt_succ] at h3
    refine Ev.succ ?_
    simp only [spec_l24Late.l0, rd_Order, e1, Option.bind_some]
    show Ev _ _
    refine Ev.pos (by omega) (Ev.pos (by omega) (Ev.pos (by simp; omega) ?_))
    change Ev (fun k => (spec_l24Open.f (gO m i).f0 (gO m i).f1 (gO m i).f2 (gO m i).f3).bind fun t446 => (if t446 = true then (if (gO m i).f2 < day then ((spec_l20Insert.f k (castN (jsAt m day i)) ((m.take i).map (fun o => [o.f2]) ++ [[(gO m i).f2]]) (i : Int)).bind fun t448 => (spec_l24Late.l0 k m day ((m.take i).map (fun o => [o.f2]) ++ [[(gO m i).f2]]) t448 ((i + 1 : Nat) : Int))) else (spec_l24Late.l0 k m day ((m.take i).map (fun o => [o.f2]) ++ [[(gO m i).f2]]) (castN (jsAt m day i)) ((i + 1 : Nat) : Int))) else (spec_l24Late.l0 k m day ((m.take i).map (fun o => [o.f2]) ++ [[(gO m i).f2]]) (castN (jsAt m day i)) ((i + 1 : Nat) : Int)))) _
    refine Ev.bind (Ev.eq (show spec_l24Open.f _ _ _ _ = some (decide ((gO m i).f3 < 4)) by unfold spec_l24Open.f; rfl)) ?_
    rw [← ek] at h3 ⊢
    have hkl : ((m.take (i + 1)).map (fun o => [o.f2])).length = i + 1 := by rw [List.length_map, List.length_take]; omega
    refine Ev.ite (fun c1 => Ev.ite (fun c2 => ?_) (fun c2 => ?_)) (fun c1 => ?_)
    · simp only [decide_eq_true_eq] at c1
      rw [if_pos (by simp [lateP, c1, c2])] at h3
      refine Ev.bind (spec_l20Insert_ev _ (fun j => (gO m j).f2) i (jsAt m day i) (by have := jsAt_len m day i; omega) (fun j hj => ?_) (by rw [hkl]; omega) (fun j hj => by have := jsAt_mem m day i j hj; rw [hkl]; omega) (by rw [hkl]; omega)) h3
      rw [hkl] at hj
      have hjm : j < m.length := by omega
      simp [List.getD, List.getElem?_take_of_lt hj, List.getElem?_eq_getElem hjm, gO]
    · rw [if_neg (by simp [lateP, c2])] at h3; exact h3
    · simp only [decide_eq_true_eq] at c1
      rw [if_neg (by simp [lateP, c1])] at h3; exact h3
theorem spec_l24Late_ev (hm : m.length ≤ 50) : Ev (fun k => spec_l24Late.f k m day) (lateNos m day) := by
  unfold spec_l24Late.f
  exact (spec_l24Late_l0 m day hm m.length 0 (by omega)).cast rfl
theorem lateNos_len : (lateNos m day).length ≤ m.length := by
  unfold lateNos
  rw [List.length_map]
  refine Nat.le_trans (List.length_filter_le _ _) ?_
  rw [List.length_mergeSort]; exact Nat.le_refl _
end
theorem bookRises_ok : ∀ {l : List S78} {p : Option Int}, bookRises p l = true → ∀ x ∈ l, orderOk x = true
  | [], _, _, x, h => by simp at h
  | y :: l, p, h, x, hx => by
    simp only [bookRises, Bool.and_eq_true] at h
    rcases List.mem_cons.1 hx with rfl | hx
    · exact h.1.1
    · exact bookRises_ok h.2 x hx
theorem bookOk_mem {l : List S78} (h : bookOk l = true) : ∀ x ∈ l, orderOk x = true := by
  unfold bookOk at h
  rw [Bool.and_eq_true] at h
  exact bookRises_ok h.2
/-- No order is due behind the last minute: open orders are those that are late at the end of days. -/
theorem lateNos_end {l : List S78} (h : bookOk l = true) : lateNos l 100001 = ((l.mergeSort (byKey fun o : S78 => o.f2)).filter (fun o => decide (o.f3 < 4))).map (fun o => o.f0) := by
  unfold lateNos
  congr 1
  refine List.filter_congr (fun x hx => ?_)
  have := bookOk_mem h x (List.mem_mergeSort.1 hx)
  simp only [orderOk, decide_eq_true_eq] at this
  have e : x.f2 < 100001 := by omega
  simp [lateP, e]
end Go.Proofs.Ytanokgpnmbbajaa.PT
end
section
namespace Go.Proofs.Ytanokgpnmbbajaa.PT
open Go.RowKit Go.Proofs.YtanokgpnmbbajaaW.PrintWords Go.Proofs.YtanokgpnmbbajaaB Go.Proofs.Ytanokgpnmbbajaa.Stab
set_option linter.unusedVariables false
set_option linter.unusedSimpArgs false
def lateVal (l : List S78) (a : Int) : List Int × Int := if bookOk l = true then (if 0 ≤ a ∧ a ≤ 100000 then (lateNos l a, 0) else ([], 2)) else ([], 1)
theorem spec_LateOrders_ev {l : List S78} (hl : l.length ≤ 9223372036854775806) (a : Int) : Ev (fun k => spec_LateOrders.f k l a) (lateVal l a) := by
  unfold spec_LateOrders.f lateVal
  refine Ev.bind (spec_IsOrderBook_ev hl) (Ev.ite (fun hb => ?_) (fun hb => Ev.eq (by rw [if_neg hb])))
  rw [if_pos hb]
  refine Ev.bind (Ev.eq (spec_l01In_eq _ _ _)) (Ev.ite (fun h => ?_) (fun h => Ev.eq ?_))
  · simp only [decide_eq_true_eq] at h
    rw [if_pos h]
    exact Ev.bind (spec_l24Late_ev l a (bookOk_len hb)) (Ev.eq rfl)
  · simp only [decide_eq_true_eq] at h
    rw [if_neg h]
theorem impl_isMinutes_eq (y : Int) : impl_isMinutes.f y = some (decide (0 ≤ y ∧ y ≤ 100000)) := by rw [impl_isMinutes.f, impl_inRange_eq]; rfl
theorem impl_LateOrders_ev {l : List S78} (hl : l.length ≤ 9223372036854775806) (a : Int) : Ev (fun k => impl_LateOrders.f k l a) (lateVal l a) := by
  unfold impl_LateOrders.f lateVal
  refine Ev.bind (impl_IsOrderBook_ev hl) (Ev.ite (fun hb => ?_) (fun hb => Ev.eq (by rw [if_neg hb])))
  rw [if_pos hb]
  refine Ev.bind (Ev.eq (impl_isMinutes_eq _)) (Ev.ite (fun h => ?_) (fun h => Ev.eq ?_))
  · simp only [decide_eq_true_eq] at h
    rw [if_pos h]
    exact Ev.pos (bookOk_len hb) (Ev.eq rfl)
  · simp only [decide_eq_true_eq] at h
    rw [if_neg h]
theorem lateVal_len {l : List S78} (a : Int) : (lateVal l a).1.length ≤ l.length := by
  unfold lateVal
  split
  · split
    · exact lateNos_len l a
    · simp
  · simp
def nextVal (l : List S78) : Int × Int := if bookOk l = true then (match lateNos l 100001 with | [] => (0, 4) | n :: _ => (n, 0)) else (0, 1)
theorem spec_NextDue_ev {l : List S78} (hl : l.length ≤ 9223372036854775806) : Ev (fun k => spec_NextDue.f k l) (nextVal l) := by
  unfold spec_NextDue.f nextVal
  refine Ev.bind (spec_IsOrderBook_ev hl) (Ev.ite (fun hb => ?_) (fun hb => Ev.eq (by rw [if_neg hb])))
  rw [if_pos hb]
  refine Ev.bind (spec_l24Late_ev l 100001 (bookOk_len hb)) ?_
  cases lateNos l 100001 with
  | nil => exact Ev.pos (by simp) (Ev.eq rfl)
  | cons n t => exact Ev.neg (by simp only [List.length_cons]; omega) (Ev.pos (by simp only [List.length_cons]; omega) (Ev.eq (by simp [rd])))
theorem impl_NextDue_ev {l : List S78} (hl : l.length ≤ 9223372036854775806) : Ev (fun k => impl_NextDue.f k l) (nextVal l) := by
  unfold impl_NextDue.f nextVal
  refine Ev.bind (impl_IsOrderBook_ev hl) (Ev.ite (fun hb => ?_) (fun hb => Ev.eq (by rw [if_neg hb])))
  rw [if_pos hb]
  refine Ev.pos (bookOk_len hb) ?_
  rw [← lateNos_end hb]
  cases lateNos l 100001 with
  | nil => exact Ev.pos (by simp) (Ev.eq rfl)
  | cons n t => exact Ev.neg (by simp) (Ev.eq (by simp))
end Go.Proofs.Ytanokgpnmbbajaa.PT
end
section
namespace Go.Proofs.Ytanokgpnmbbajaa.PT
open Go.RowKit Go.Proofs.YtanokgpnmbbajaaW.PrintWords Go.Proofs.YtanokgpnmbbajaaB Go.Proofs.Ytanokgpnmbbajaa.Stab
set_option linter.unusedVariables false
set_option linter.unusedSimpArgs false
def inNos (l : List S78) (a : Int) : List Int := (l.filter (fun o => decide (o.f3 = a))).map (fun o => o.f0)
theorem inNos_len (l : List S78) (a : Int) : (inNos l a).length ≤ l.length := by
  unfold inNos; rw [List.length_map]; exact List.length_filter_le _ _
def inVal (l : List S78) (a : Int) : List Int × Int := if bookOk l = true then (if 0 ≤ a ∧ a ≤ 5 then (inNos l a, 0) else ([], 2)) else ([], 1)
theorem spec_OrdersIn_l0 (l : List S78) (a : Int) (hl : l.length ≤ 50) : ∀ d i : Nat, i + d = l.length → ∀ acc : List Int, acc.length ≤ i → Ev (fun k => spec_OrdersIn.l0 k l a acc (i : Int)) (acc ++ inNos (l.drop i) a, 0) := by
  intro d
  induction d with
  | zero =>
    intro i hi acc ha
    refine Ev.succ ?_
    simp only [spec_OrdersIn.l0]
    refine Ev.neg (by omega) (Ev.eq ?_)
    have : l.drop i = [] := List.drop_eq_nil_of_le (by omega)
    rw [this]; simp [inNos]
  | succ d ih =>
    intro i hi acc ha
    rw [getD_drop l z78 i (by omega)]
    have e1 : wrap64 ((i : Int) + 1) = ((i + 1 : Nat) : Int) := by rw [w64 (by omega) (by omega)]; omega
    have h1 := ih (i + 1) (by omega) (acc ++ [(l.getD i z78).f0]) (by simp; omega)
    have h2 := ih (i + 1) (by omega) acc (by omega)
    refine Ev.succ ?_
    simp only [spec_OrdersIn.l0, rd_Order, e1]
    generalize l.getD i z78 = x at h1 h2 ⊢
    refine Ev.pos (by omega) (Ev.pos (by omega) (Ev.ite (fun h => Ev.pos (by omega) (h1.cast ?_)) (fun h => h2.cast ?_)))
    · unfold inNos; rw [List.filter_cons_of_pos (by simpa using h)]; simp
    · unfold inNos; rw [List.filter_cons_of_neg (by simpa using h)]
theorem spec_OrdersIn_ev {l : List S78} (hl : l.length ≤ 9223372036854775806) (a : Int) : Ev (fun k => spec_OrdersIn.f k l a) (inVal l a) := by
  unfold spec_OrdersIn.f inVal
  refine Ev.bind (spec_IsOrderBook_ev hl) (Ev.ite (fun hb => ?_) (fun hb => Ev.eq (by rw [if_neg hb])))
  rw [if_pos hb]
  refine Ev.bind (Ev.eq (spec_l01In_eq _ _ _)) (Ev.ite (fun h => ?_) (fun h => Ev.eq ?_))
  · simp only [decide_eq_true_eq] at h
    rw [if_pos h]
    exact (spec_OrdersIn_l0 l a (bookOk_len hb) l.length 0 (by omega) [] (by simp)).cast (by simp)
  · simp only [decide_eq_true_eq] at h
    rw [if_neg h]
theorem impl_OrdersIn_ev {l : List S78} (hl : l.length ≤ 9223372036854775806) (a : Int) : Ev (fun k => impl_OrdersIn.f k l a) (inVal l a) := by
  unfold impl_OrdersIn.f inVal
  refine Ev.bind (impl_IsOrderBook_ev hl) (Ev.ite (fun hb => ?_) (fun hb => Ev.eq (by rw [if_neg hb])))
  rw [if_pos hb]
  refine Ev.bind (Ev.eq (impl_inRange_eq _ _ _)) (Ev.ite (fun h => ?_) (fun h => Ev.eq ?_))
  · simp only [decide_eq_true_eq] at h
    rw [if_pos h]
    exact Ev.pos (bookOk_len hb) (Ev.eq rfl)
  · simp only [decide_eq_true_eq] at h
    rw [if_neg h]
theorem inVal_len (l : List S78) (a : Int) : (inVal l a).1.length ≤ l.length := by
  unfold inVal
  split
  · split
    · unfold inNos; rw [List.length_map]; exact List.length_filter_le _ _
    · simp
  · simp
def sumIf (q : S78 → Bool) : List S78 → Int
  | [] => 0
  | x :: l => (if q x = true then x.f1 else 0) + sumIf q l
theorem sumIf_bound (q : S78 → Bool) : ∀ l : List S78, (∀ x ∈ l, orderOk x = true) → 0 ≤ sumIf q l ∧ sumIf q l ≤ 1000000 * l.length
  | [], _ => by simp [sumIf]
  | x :: l, h => by
    have h1 := sumIf_bound q l (fun y hy => h y (List.mem_cons_of_mem _ hy))
    have h2 := h x (List.mem_cons_self ..)
    simp only [orderOk, decide_eq_true_eq] at h2
    simp only [sumIf, List.length_cons]
    split <;> omega
def openVal (l : List S78) : Int × Int := if bookOk l = true then (sumIf (fun o => decide (o.f3 < 4)) l, 0) else (0, 1)
theorem spec_OpenCopies_l0 (l : List S78) (hl : l.length ≤ 50) (hk : ∀ x ∈ l, orderOk x = true) : ∀ d i : Nat, i + d = l.length → ∀ n : Int, 0 ≤ n → n ≤ 1000000 * (i : Int) → Ev (fun k => spec_OpenCopies.l0 k l n (i : Int)) (n + sumIf (fun o => decide (o.f3 < 4)) (l.drop i), 0) := by
  intro d
  induction d with
  | zero =>
    intro i hi n h0 hn
    refine Ev.succ ?_
    simp only [spec_OpenCopies.l0]
    refine Ev.neg (by omega) (Ev.eq ?_)
    have : l.drop i = [] := List.drop_eq_nil_of_le (by omega)
    rw [this]; simp [sumIf]
  | succ d ih =>
    intro i hi n h0 hn
    rw [getD_drop l z78 i (by omega)]
    have hx := hk _ (getD_mem l z78 i (by omega))
    simp only [orderOk, decide_eq_true_eq] at hx
    have e1 : wrap64 ((i : Int) + 1) = ((i + 1 : Nat) : Int) := by rw [w64 (by omega) (by omega)]; omega
    refine Ev.succ ?_
    simp only [spec_OpenCopies.l0, rd_Order, e1]
    refine Ev.pos (by omega) (Ev.pos (by omega) (Ev.bind (Ev.eq (show spec_l24Open.f _ _ _ _ = some (decide ((l.getD i z78).f3 < 4)) by unfold spec_l24Open.f; rfl)) (Ev.ite (fun h => ?_) (fun h => ?_))))
    · rw [w64 (by omega) (by omega)]
      refine (ih (i + 1) (by omega) _ (by omega) (by omega)).cast ?_
      simp only [sumIf, if_pos h]; rw [Int.add_assoc]
    · refine (ih (i + 1) (by omega) _ (by omega) (by omega)).cast ?_
      simp only [sumIf, if_neg h]; rw [Int.zero_add]
theorem impl_OpenCopies_l0 (l : List S78) (hl : l.length ≤ 50) (hk : ∀ x ∈ l, orderOk x = true) : ∀ d i : Nat, i + d = l.length → ∀ n : Int, 0 ≤ n → n ≤ 1000000 * (i : Int) → Ev (fun k => impl_OpenCopies.l0 k n l (l.length : Int) (i : Int)) (n + sumIf (fun o => decide (o.f3 < 4)) (l.drop i), 0) := by
  intro d
  induction d with
  | zero =>
    intro i hi n h0 hn
    refine Ev.succ ?_
    simp only [impl_OpenCopies.l0]
    refine Ev.neg (by omega) (Ev.eq ?_)
    have : l.drop i = [] := List.drop_eq_nil_of_le (by omega)
    rw [this]; simp [sumIf]
  | succ d ih =>
    intro i hi n h0 hn
    rw [getD_drop l z78 i (by omega)]
    have hx := hk _ (getD_mem l z78 i (by omega))
    simp only [orderOk, decide_eq_true_eq] at hx
    have e1 : wrap64 ((i : Int) + 1) = ((i + 1 : Nat) : Int) := by rw [w64 (by omega) (by omega)]; omega
    refine Ev.succ ?_
    simp only [impl_OpenCopies.l0, rd_Order, e1]
    refine Ev.pos (by omega) (Ev.pos (by omega) (Ev.pos (by omega) (Ev.bind (Ev.eq (show impl_isOpen.f _ _ _ _ = some (decide ((l.getD i z78).f3 < 4)) by unfold impl_isOpen.f; rfl)) (Ev.ite (fun h => ?_) (fun h => ?_)))))
    · rw [w64 (by omega) (by omega)]
      refine (ih (i + 1) (by omega) _ (by omega) (by omega)).cast ?_
      simp only [sumIf, if_pos h]; rw [Int.add_assoc]
    · refine (ih (i + 1) (by omega) _ (by omega) (by omega)).cast ?_
      simp only [sumIf, if_neg h]; rw [Int.zero_add]
theorem spec_OpenCopies_ev {l : List S78} (hl : l.length ≤ 9223372036854775806) : Ev (fun k => spec_OpenCopies.f k l) (openVal l) := by
  unfold spec_OpenCopies.f openVal
  refine Ev.bind (spec_IsOrderBook_ev hl) (Ev.ite (fun hb => ?_) (fun hb => Ev.eq (by rw [if_neg hb])))
  rw [if_pos hb]
  exact (spec_OpenCopies_l0 l (bookOk_len hb) (bookOk_mem hb) l.length 0 (by omega) 0 (by omega) (by omega)).cast (by simp)
theorem impl_OpenCopies_ev {l : List S78} (hl : l.length ≤ 9223372036854775806) : Ev (fun k => impl_OpenCopies.f k l) (openVal l) := by
  unfold impl_OpenCopies.f openVal
  refine Ev.bind (impl_IsOrderBook_ev hl) (Ev.ite (fun hb => ?_) (fun hb => Ev.eq (by rw [if_neg hb])))
  rw [if_pos hb]
  exact (impl_OpenCopies_l0 l (bookOk_len hb) (bookOk_mem hb) l.length 0 (by omega) 0 (by omega) (by omega)).cast (by simp)
theorem laws_likeInts_refl {l : List Int} (hl : l.length ≤ 9223372036854775806) : Ev (fun k => laws_likeInts.f k l l) true := by
  have key : ∀ d i : Nat, i + d = l.length → Ev (fun k => laws_likeInts.l0 k l l (i : Int)) true := by
    intro d
    induction d with
    | zero => intro i hi; refine Ev.succ ?_; simp only [laws_likeInts.l0]; exact Ev.neg (by omega) (Ev.eq rfl)
    | succ d ih =>
      intro i hi
      have e1 : wrap64 ((i : Int) + 1) = ((i + 1 : Nat) : Int) := by rw [w64 (by omega) (by omega)]; omega
      refine Ev.succ ?_
      simp only [laws_likeInts.l0, e1]
      exact Ev.pos (by omega) (Ev.pos (by omega) (Ev.pos (by omega) (Ev.pos (by trivial) (ih (i + 1) (by omega)))))
  unfold laws_likeInts.f
  exact Ev.pos (by trivial) (key l.length 0 (by omega))
theorem laws_hasInt_ev {l : List Int} (hl : l.length ≤ 9223372036854775806) (a : Int) : Ev (fun k => laws_hasInt.f k l a) (decide (a ∈ l)) := by
  have key : ∀ d i : Nat, i + d = l.length → Ev (fun k => laws_hasInt.l0 k l a (i : Int)) (decide (a ∈ l.drop i)) := by
    intro d
    induction d with
    | zero =>
      intro i hi
      refine Ev.succ ?_
      simp only [laws_hasInt.l0]
      have : l.drop i = [] := List.drop_eq_nil_of_le (by omega)
      rw [this]
      exact Ev.neg (by omega) (Ev.eq (by simp))
    | succ d ih =>
      intro i hi
      rw [getD_drop l 0 i (by omega)]
      have e1 : wrap64 ((i : Int) + 1) = ((i + 1 : Nat) : Int) := by rw [w64 (by omega) (by omega)]; omega
      refine Ev.succ ?_
      simp only [laws_hasInt.l0, e1, rd_nat]
      refine Ev.pos (by omega) (Ev.pos (by omega) (Ev.ite (fun h => Ev.eq ?_) (fun h => (ih (i + 1) (by omega)).cast ?_)))
      · rw [h]; simp
      · have h' : ¬ a = l.getD i 0 := fun e => h e.symm
        simp only [List.mem_cons, h', false_or]
  unfold laws_hasInt.f
  exact (key l.length 0 (by omega)).cast (by simp)
/-- Numbers rise: no number is in a book twice. -/
theorem bookRises_up : ∀ {l : List S78} {d : Int}, bookRises (some d) l = true → ∀ x ∈ l, d < x.f0
  | [], _, _, x, h => by simp at h
  | y :: l, d, h, x, hx => by
    simp only [bookRises, Bool.and_eq_true, decide_eq_true_eq] at h
    rcases List.mem_cons.1 hx with rfl | hx
    · exact h.1.2
    · have := bookRises_up h.2 x hx; omega
theorem bookRises_inj : ∀ {l : List S78} {p : Option Int}, bookRises p l = true → ∀ x ∈ l, ∀ y ∈ l, x.f0 = y.f0 → x = y
  | [], _, _, x, h, _, _, _ => by simp at h
  | z :: l, p, h, x, hx, y, hy, e => by
    simp only [bookRises, Bool.and_eq_true] at h
    have up := bookRises_up h.2
    rcases List.mem_cons.1 hx with e1 | hx2
    · rcases List.mem_cons.1 hy with e2 | hy2
      · rw [e1, e2]
      · have := up y hy2; rw [e1] at e; omega
    · rcases List.mem_cons.1 hy with e2 | hy2
      · have := up x hx2; rw [e2] at e; omega
      · exact bookRises_inj h.2 x hx2 y hy2 e
theorem inNos_mem {l : List S78} (h : bookOk l = true) {x : S78} (hx : x ∈ l) (a : Int) : x.f0 ∈ inNos l a ↔ x.f3 = a := by
  unfold bookOk at h
  rw [Bool.and_eq_true] at h
  unfold inNos
  rw [List.mem_map]
  constructor
  · rintro ⟨y, hy, e⟩
    have hy' := List.mem_filter.1 hy
    rw [bookRises_inj h.2 x hx y hy'.1 e.symm]
    simpa using hy'.2
  · intro e
    exact ⟨x, List.mem_filter.2 ⟨hx, by simpa using e⟩, rfl⟩
end Go.Proofs.Ytanokgpnmbbajaa.PT
end
