-- Gathered by this session's program wip/tool/shake.py out of its own texts and of what the kit's print and the session's patches of it wrote for this claim.
import Derived.Test.YtanokgpnmbbajaaProg
import Derived.ArgAppend
import Derived.Below
import Derived.BigQuiet
import Derived.Deep.AppendLies
import Derived.Deep.CutBlock
import Derived.Deep.DeepCutAuto
import Derived.Deep.Draws
import Derived.Deep.LoopGhost
import Derived.Deep.OwnRows
import Derived.Deep.QuietTactic
import Derived.Deep.RegionHeld3
import Derived.KernelRfl
import Derived.Laws.BitsLemmas
import Derived.Laws.BytesArg
import Derived.Laws.IdiomCopy
import Derived.Laws.MakeOwn
import Derived.Laws.OwnMore
import Derived.Laws.Rows
import Derived.Laws.Slices
import Derived.Laws.StructEq
import Derived.Lib.AppendStr
import Derived.Lib.ConvBytes
import Derived.Lib.SliceRun
import Derived.Maps.AppendAt
import Derived.OrdersHeld
import Derived.OwnWalk
import Derived.RowKit
import Derived.RowKit3
import Derived.Shelf.SlSortCmp.KitK
import Derived.Tactics
import Derived.WalkKit
import Derived.WideLaws
import Derived.Test.YtanokgpnmbbajaaCFnOrderBooks12
import Derived.Test.YtanokgpnmbbajaaCFnOrderBooks13
import Derived.Test.YtanokgpnmbbajaaCFnOrderBooks15
import Derived.Test.YtanokgpnmbbajaaCFnOrderBooks16
import Derived.Test.YtanokgpnmbbajaaCFnOrderBooks17
import Derived.Test.YtanokgpnmbbajaaCFnOrderBooks21
import Derived.Test.YtanokgpnmbbajaaCFnOrderBooks22
section
namespace Go.Proofs.Ytanokgpnmbbajaa.PT
open Go.RowKit Go.Proofs.YtanokgpnmbbajaaW.PrintWords Go.Proofs.YtanokgpnmbbajaaB
set_option linter.unusedVariables false
set_option linter.unusedSimpArgs false
theorem spec_AdvanceOrder_ev' {l : List S78} (hl : l.length ≤ 9223372036854775806) (a : Int) : Ev (fun k => spec_AdvanceOrder.f k l a) (setState (fun s => wrap64 (s + 1)) l a) := by
  unfold spec_AdvanceOrder.f
  exact Ev.bind (spec_l24Set_ev (fun s => wrap64 (s + 1)) (-1) (fun x => by simp) hl a) (Ev.eq rfl)
theorem impl_AdvanceOrder_ev' {l : List S78} (hl : l.length ≤ 9223372036854775806) (a : Int) : Ev (fun k => impl_AdvanceOrder.f k l a) (setState (fun s => wrap64 (s + 1)) l a) := by
  unfold impl_AdvanceOrder.f
  exact impl_changed_ev (fun s => wrap64 (s + 1)) hl a
theorem spec_DropOrder_ev' {l : List S78} (hl : l.length ≤ 9223372036854775806) (a : Int) : Ev (fun k => spec_DropOrder.f k l a) (setState (fun _ => 5) l a) := by
  unfold spec_DropOrder.f
  exact Ev.bind (spec_l24Set_ev (fun _ => 5) 5 (fun x => by simp) hl a) (Ev.eq rfl)
theorem impl_DropOrder_ev' {l : List S78} (hl : l.length ≤ 9223372036854775806) (a : Int) : Ev (fun k => impl_DropOrder.f k l a) (setState (fun _ => 5) l a) := by
  unfold impl_DropOrder.f
  exact impl_changed_ev (fun _ => 5) hl a
theorem laws_likeOrders9_refl {l : List S78} (hl : l.length ≤ 9223372036854775806) : Ev (fun k => laws_likeOrders9.f k l l) true := by
  have key : ∀ d i : Nat, i + d = l.length → Ev (fun k => laws_likeOrders9.l0 k l l (i : Int)) true := by
    intro d
    induction d with
    | zero => intro i hi; refine Ev.succ ?_; simp only [laws_likeOrders9.l0]; exact Ev.neg (by omega) (Ev.eq rfl)
    | succ d ih =>
      intro i hi
      have e1 : wrap64 ((i : Int) + 1) = ((i + 1 : Nat) : Int) := by rw [w64 (by omega) (by omega)]; omega
      refine Ev.succ ?_
      simp only [laws_likeOrders9.l0, e1]
      exact Ev.pos (by omega) (Ev.pos (by omega) (Ev.pos (by omega) (Ev.neg (by simp) (ih (i + 1) (by omega)))))
  unfold laws_likeOrders9.f
  exact Ev.pos (by trivial) (key l.length 0 (by omega))
def lastNo : Option Int → List S78 → Option Int
  | p, [] => p
  | _, y :: l => lastNo (some y.f0) l
def above (p : Option Int) (n : Int) : Bool := match p with | none => true | some d => decide (d < n)
theorem bookRises_cons (p : Option Int) (y : S78) (l : List S78) : bookRises p (y :: l) = (orderOk y && above p y.f0 && bookRises (some y.f0) l) := by cases p <;> rfl
theorem bookRises_snoc (x : S78) : ∀ (l : List S78) (p : Option Int), bookRises p (l ++ [x]) = (bookRises p l && orderOk x && above (lastNo p l) x.f0)
  | [], p => by rw [List.nil_append, bookRises_cons]; simp [bookRises, lastNo]
  | y :: l, p => by rw [List.cons_append, bookRises_cons, bookRises_cons, bookRises_snoc x l, lastNo]; simp [Bool.and_assoc]
theorem lastNo_getD : ∀ (l : List S78) (p : Option Int), l ≠ [] → lastNo p l = some (l.getD (l.length - 1) z78).f0
  | [], _, h => absurd rfl h
  | [y], _, _ => rfl
  | y :: z :: l, p, _ => by
    have := lastNo_getD (z :: l) (some y.f0) (by simp)
    rw [lastNo, this]
    simp
theorem lastNo_max : ∀ {l : List S78} {p : Option Int}, bookRises p l = true → ∀ x ∈ l, ∃ d, lastNo p l = some d ∧ x.f0 ≤ d
  | [], _, _, x, h => by simp at h
  | y :: l, p, h, x, hx => by
    rw [bookRises_cons, Bool.and_eq_true] at h
    rw [lastNo]
    rcases List.mem_cons.1 hx with e | hx2
    · cases l with
      | nil => exact ⟨y.f0, rfl, by rw [e]; exact Int.le_refl _⟩
      | cons z l =>
        obtain ⟨d, h1, h2⟩ := lastNo_max h.2 z List.mem_cons_self
        have h3 := h.2
        rw [bookRises_cons, Bool.and_eq_true, Bool.and_eq_true] at h3
        have h4 : y.f0 < z.f0 := by simpa [above] using h3.1.2
        exact ⟨d, h1, by rw [e]; omega⟩
    · exact lastNo_max h.2 x hx2
theorem lastNo_range {l : List S78} {p : Option Int} (h : bookRises p l = true) (hl : l ≠ []) : ∃ d, lastNo p l = some d ∧ 1 ≤ d ∧ d ≤ 1000000000 := by
  refine ⟨_, lastNo_getD l p hl, ?_⟩
  have hpos : 0 < l.length := List.length_pos_iff.2 hl
  have hm := getD_mem l z78 (l.length - 1) (by omega)
  have : ∀ {l : List S78} {p : Option Int}, bookRises p l = true → ∀ x ∈ l, orderOk x = true := by
    intro l
    induction l with
    | nil => intro p _ x hx; simp at hx
    | cons y l ih =>
      intro p h x hx
      rw [bookRises_cons, Bool.and_eq_true, Bool.and_eq_true] at h
      rcases List.mem_cons.1 hx with e | hx2
      · rw [e]; exact h.1.1
      · exact ih h.2 x hx2
  have ho := this h _ hm
  simp only [orderOk, decide_eq_true_eq] at ho
  omega
def nextNo (l : List S78) : Int := match lastNo none l with | none => 1 | some d => d + 1
def offerVal (l : List S78) (c d : Int) : List S78 × Int × Int :=
  if bookOk l = true then (if 1 ≤ c ∧ c ≤ 1000000 then (if 0 ≤ d ∧ d ≤ 100000 then (if l.length < 50 ∧ nextNo l ≤ 1000000000 then (l ++ [(⟨nextNo l, c, d, 0⟩ : S78)], nextNo l, 0) else ([], 0, 3)) else ([], 0, 2)) else ([], 0, 2)) else ([], 0, 1)
theorem offer_ok {l : List S78} {c d : Int} (hb : bookOk l = true) (h1 : 1 ≤ c ∧ c ≤ 1000000) (h2 : 0 ≤ d ∧ d ≤ 100000) : bookOk (l ++ [(⟨nextNo l, c, d, 0⟩ : S78)]) = decide (l.length < 50 ∧ nextNo l ≤ 1000000000) := by
  have hb2 := hb
  unfold bookOk at hb ⊢
  rw [Bool.and_eq_true] at hb
  rw [bookRises_snoc, hb.2]
  have hn : 1 ≤ nextNo l ∧ above (lastNo none l) (nextNo l) = true := by
    unfold nextNo
    cases l with
    | nil => exact ⟨by simp [lastNo], by simp [lastNo, above]⟩
    | cons y l =>
      obtain ⟨e, h3, h4, _⟩ := lastNo_range hb.2 (by simp)
      rw [h3]
      exact ⟨by show 1 ≤ e + 1; omega, by simp [above]; omega⟩
  rw [hn.2]
  rw [Bool.eq_iff_iff]
  simp only [Bool.and_true, Bool.true_and, Bool.and_eq_true, decide_eq_true_eq, orderOk, List.length_append, List.length_cons, List.length_nil]
  omega
theorem nextNo_last {l : List S78} (hl : l ≠ []) : nextNo l = (l.getD (l.length - 1) z78).f0 + 1 := by
  unfold nextNo; rw [lastNo_getD l none hl]
theorem nextNo_above {l : List S78} (hb : bookOk l = true) : ∀ x ∈ l, x.f0 < nextNo l := by
  unfold bookOk at hb
  rw [Bool.and_eq_true] at hb
  intro x hx
  obtain ⟨d, h1, h2⟩ := lastNo_max hb.2 x hx
  unfold nextNo; rw [h1]
  show x.f0 < d + 1
  omega
theorem impl_isMinutes_eq' (y : Int) : impl_isMinutes.f y = some (decide (0 ≤ y ∧ y ≤ 100000)) := by rw [impl_isMinutes.f, impl_inRange_eq]; rfl
theorem clone_eq {l : List S78} (hl : l.length ≤ 50) : impl_Order_110.f l = some l := by
  unfold impl_Order_110.f; rw [if_pos (by omega)]
theorem impl_OfferOrder_ev {l : List S78} (hl : l.length ≤ 9223372036854775806) (c d : Int) : Ev (fun k => impl_OfferOrder.f k l c d) (offerVal l c d) := by
  unfold impl_OfferOrder.f offerVal
  refine Ev.bind (impl_IsOrderBook_ev hl) (Ev.ite (fun hb => ?_) (fun hb => Ev.eq (by rw [if_neg hb])))
  rw [if_pos hb]
  have h50 := bookOk_len hb
  refine Ev.bind (Ev.eq (impl_inRange_eq _ _ _)) (Ev.ite (fun h1 => ?_) (fun h1 => Ev.eq ?_))
  · simp only [decide_eq_true_eq] at h1
    rw [if_pos h1]
    refine Ev.bind (Ev.eq (impl_isMinutes_eq' _)) (Ev.ite (fun h2 => ?_) (fun h2 => Ev.eq ?_))
    · simp only [decide_eq_true_eq] at h2
      rw [if_pos h2]
      refine Ev.ite (fun hp => ?_) (fun hp => ?_)
      · have hne : l ≠ [] := by intro e; rw [e] at hp; simp at hp
        have ew : wrap64 ((l.length : Int) - 1) = ((l.length - 1 : Nat) : Int) := by rw [w64 (by omega) (by omega)]; omega
        have hno := nextNo_last hne
        have hb2 := hb
        unfold bookOk at hb2
        rw [Bool.and_eq_true] at hb2
        obtain ⟨e, he1, he2, he3⟩ := lastNo_range hb2.2 hne
        have hnn : nextNo l = e + 1 := by unfold nextNo; rw [he1]
        rw [ew, rd_Order]
        have ex : wrap64 ((l.getD (l.length - 1) z78).f0 + 1) = nextNo l := by rw [← hno]; exact w64 (by omega) (by omega)
        rw [ex]
        refine Ev.pos (by omega) (Ev.pos (by omega) (Ev.ite (fun h3 => Ev.eq ?_) (fun h3 => Ev.ite (fun h4 => Ev.eq ?_) (fun h4 => ?_))))
        · rw [if_neg (by omega)]
        · rw [if_neg (by omega)]
        · rw [if_pos (by omega)]
          exact Ev.bind (Ev.eq (clone_eq h50)) (Ev.pos (by omega) (Ev.eq rfl))
      · have hnil : l = [] := List.length_eq_zero_iff.1 (by omega)
        subst hnil
        refine Ev.neg (by simp) (Ev.neg (by decide) (Ev.bind (Ev.eq (clone_eq (by simp))) (Ev.pos (by simp) (Ev.eq ?_))))
        rw [if_pos (by simp [nextNo, lastNo])]
        rfl
    · simp only [decide_eq_true_eq] at h2
      rw [if_neg h2]
  · simp only [decide_eq_true_eq] at h1
    rw [if_neg h1]
theorem spec_OfferOrder_ev {l : List S78} (hl : l.length ≤ 9223372036854775806) (c d : Int) : Ev (fun k => spec_OfferOrder.f k l c d) (offerVal l c d) := by
  unfold spec_OfferOrder.f offerVal
  refine Ev.bind (spec_IsOrderBook_ev hl) (Ev.ite (fun hb => ?_) (fun hb => Ev.eq (by rw [if_neg hb])))
  rw [if_pos hb]
  have h50 := bookOk_len hb
  refine Ev.bind (Ev.eq (spec_l01In_eq _ _ _)) (Ev.ite (fun h1 => ?_) (fun h1 => Ev.eq ?_))
  · simp only [decide_eq_true_eq] at h1
    rw [if_pos h1]
    refine Ev.bind (Ev.eq (spec_l01In_eq _ _ _)) (Ev.ite (fun h2 => ?_) (fun h2 => Ev.eq ?_))
    · simp only [decide_eq_true_eq] at h2
      rw [if_pos h2]
      have hcand := offer_ok hb h1 h2
      have hcl : (l ++ [(⟨nextNo l, c, d, 0⟩ : S78)]).length ≤ 9223372036854775806 := by simp; omega
      have hev := spec_IsOrderBook_ev hcl
      rw [hcand] at hev
      refine Ev.ite (fun hp => ?_) (fun hp => ?_)
      · have hne : l ≠ [] := by intro e; rw [e] at hp; simp at hp
        have ew : wrap64 ((l.length : Int) - 1) = ((l.length - 1 : Nat) : Int) := by rw [w64 (by omega) (by omega)]; omega
        have hno := nextNo_last hne
        have hb2 := hb
        unfold bookOk at hb2
        rw [Bool.and_eq_true] at hb2
        obtain ⟨e, he1, he2, he3⟩ := lastNo_range hb2.2 hne
        have hnn : nextNo l = e + 1 := by unfold nextNo; rw [he1]
        rw [ew, rd_Order]
        have ex : wrap64 ((l.getD (l.length - 1) z78).f0 + 1) = nextNo l := by rw [← hno]; exact w64 (by omega) (by omega)
        rw [ex]
        refine Ev.pos (by omega) (Ev.pos (by omega) (Ev.bind (Ev.eq rfl) (Ev.pos (by simp; omega) (Ev.bind (Ev.eq rfl) (Ev.pos (by simp; omega) (Ev.bind (Ev.eq rfl) (Ev.bind hev ?_)))))))
        refine Ev.ite (fun h3 => Ev.eq ?_) (fun h3 => Ev.eq ?_)
        · rw [decide_eq_true_eq] at h3; rw [if_pos h3]; rfl
        · rw [decide_eq_true_eq] at h3; rw [if_neg h3]
      · have hnil : l = [] := List.length_eq_zero_iff.1 (by omega)
        subst hnil
        have e1 : nextNo ([] : List S78) = 1 := rfl
        rw [e1] at hev ⊢
        refine Ev.bind (Ev.eq rfl) (Ev.pos (by simp) (Ev.bind (Ev.eq rfl) (Ev.pos (by simp) (Ev.bind (Ev.eq rfl) (Ev.bind hev ?_)))))
        exact Ev.ite (fun h3 => Ev.eq (by rw [decide_eq_true_eq] at h3; rw [if_pos h3]; rfl)) (fun h3 => Ev.eq (by rw [decide_eq_true_eq] at h3; rw [if_neg h3]))
    · simp only [decide_eq_true_eq] at h2
      rw [if_neg h2]
  · simp only [decide_eq_true_eq] at h1
    rw [if_neg h1]
theorem offerVal_len (l : List S78) (c d : Int) : (offerVal l c d).1.length ≤ l.length + 1 := by
  unfold offerVal
  (repeat' split) <;> simp
theorem bookRises_all : ∀ {l : List S78} {p : Option Int}, bookRises p l = true → ∀ x ∈ l, orderOk x = true
  | [], _, _, x, h => by simp at h
  | y :: l, p, h, x, hx => by
    rw [bookRises_cons, Bool.and_eq_true, Bool.and_eq_true] at h
    rcases List.mem_cons.1 hx with e | hx2
    · rw [e]; exact h.1.1
    · exact bookRises_all h.2 x hx2
theorem bookRises_lt : ∀ {l : List S78} {d : Int}, bookRises (some d) l = true → ∀ x ∈ l, d < x.f0
  | [], _, _, x, h => by simp at h
  | y :: l, d, h, x, hx => by
    rw [bookRises_cons, Bool.and_eq_true, Bool.and_eq_true] at h
    have h1 : d < y.f0 := by simpa [above] using h.1.2
    rcases List.mem_cons.1 hx with e | hx2
    · rw [e]; exact h1
    · have := bookRises_lt h.2 x hx2; omega
theorem bookRises_injAt : ∀ {l : List S78} {p : Option Int}, bookRises p l = true → ∀ i j : Nat, i < l.length → j < l.length → (l.getD i z78).f0 = (l.getD j z78).f0 → i = j
  | [], _, _, i, _, h, _, _ => by simp at h
  | y :: l, p, h, i, j, hi, hj, e => by
    rw [bookRises_cons, Bool.and_eq_true] at h
    have up := bookRises_lt h.2
    cases i with
    | zero =>
      cases j with
      | zero => rfl
      | succ j =>
        have := up _ (getD_mem l z78 j (by simpa using hj))
        have e' : y.f0 = (l.getD j z78).f0 := e
        omega
    | succ i =>
      cases j with
      | zero =>
        have := up _ (getD_mem l z78 i (by simpa using hi))
        have e' : (l.getD i z78).f0 = y.f0 := e
        omega
      | succ j => rw [bookRises_injAt h.2 i j (by simpa using hi) (by simpa using hj) e]
theorem bookRises_set (x : S78) : ∀ (l : List S78) (p : Option Int) (i : Nat), i < l.length → orderOk x = true → (l.getD i z78).f0 = x.f0 → bookRises p l = true → bookRises p (l.set i x) = true
  | [], _, _, h, _, _, _ => by simp at h
  | y :: l, p, 0, _, ho, he, hr => by
    rw [bookRises_cons, Bool.and_eq_true, Bool.and_eq_true] at hr
    have he' : y.f0 = x.f0 := he
    rw [List.set_cons_zero, bookRises_cons, ho, ← he', hr.1.2, hr.2]; rfl
  | y :: l, p, i + 1, h, ho, he, hr => by
    rw [bookRises_cons, Bool.and_eq_true] at hr
    rw [List.set_cons_succ, bookRises_cons, hr.1, bookRises_set x l (some y.f0) i (by simpa using h) ho (by simpa using he) hr.2]; rfl
/-- Where the changed order stands. -/
theorem setState_at (nx : Int → Int) {l : List S78} {a : Int} (h : (setState nx l a).2 = 0) : bookOk l = true ∧ ∃ i : Nat, i < l.length ∧ (l.getD i z78).f0 = a ∧ (l.getD i z78).f3 < 4 ∧ firstAt (fun o : S78 => decide (o.f0 = a)) l 0 = (i : Int) := by
  unfold setState at h
  split at h
  · rename_i hb
    refine ⟨hb, ?_⟩
    split at h
    · simp at h
    · rename_i hn
      rcases firstAt_spec (fun o : S78 => decide (o.f0 = a)) z78 l 0 (Int.le_refl 0) with ⟨h1, _⟩ | ⟨k, hk, h1, h2, _⟩
      · omega
      · rw [Int.zero_add] at h1
        rw [h1, rd_Order] at h
        split at h
        · rename_i h4
          exact ⟨k, hk, by simpa using h2, h4, h1⟩
        · simp at h
  · simp at h
theorem setState_val (nx : Int → Int) {l : List S78} {a : Int} (hb : bookOk l = true) {i : Nat} (hi : firstAt (fun o : S78 => decide (o.f0 = a)) l 0 = (i : Int)) (h4 : (l.getD i z78).f3 < 4) :
    setState nx l a = (l.set i (⟨(l.getD i z78).f0, (l.getD i z78).f1, (l.getD i z78).f2, nx (l.getD i z78).f3⟩ : S78), 0) := by
  unfold setState
  rw [if_pos hb, hi, rd_Order, if_neg (by omega), if_pos h4]; rfl
theorem setState_final (nx : Int → Int) {l : List S78} {a : Int} (hb : bookOk l = true) {i : Nat} (hi : firstAt (fun o : S78 => decide (o.f0 = a)) l 0 = (i : Int)) (h4 : ¬ (l.getD i z78).f3 < 4) : setState nx l a = ([], 5) := by
  unfold setState
  rw [if_pos hb, hi, rd_Order, if_neg (by omega), if_neg h4]
theorem firstAt_set (a : Int) (x : S78) : ∀ (l : List S78) (i : Nat) (j : Int), i < l.length → (l.getD i z78).f0 = x.f0 → firstAt (fun o : S78 => decide (o.f0 = a)) (l.set i x) j = firstAt (fun o : S78 => decide (o.f0 = a)) l j
  | [], _, _, h, _ => by simp at h
  | y :: l, 0, j, _, he => by
    have he' : y.f0 = x.f0 := he
    simp only [List.set_cons_zero, firstAt, he']
  | y :: l, i + 1, j, h, he => by
    simp only [List.set_cons_succ, firstAt]
    rw [firstAt_set a x l i (j + 1) (by simpa using h) (by simpa using he)]
end Go.Proofs.Ytanokgpnmbbajaa.PT
end
section
namespace Go.Proofs.Ytanokgpnmbbajaa.PT
open Go.RowKit Go.Proofs.YtanokgpnmbbajaaW.PrintWords Go.Proofs.YtanokgpnmbbajaaB
theorem spec_l24DrawNumber_ok {c : List Int} {p s : Int} (h : Src c p s) : ∃ l a p' s', Ev (fun k => spec_l24DrawNumber.f k c p s) (l, a, p', s') ∧ Src c p' s' ∧ l.length ≤ 60 := by
  obtain ⟨l, p1, s1, e1, hS1, hll⟩ := spec_l24Draw_ok h
  have hF : ∀ (p s : Int), Src c p s → ∃ a p' s', Ev (fun k => spec_l24DrawNumber.j0 k l false c p s) (l, a, p', s') ∧ Src c p' s' := by
    intro p s hS
    obtain ⟨r, p2, s2, e2, hS2, _⟩ := spec_l01Next_ok hS 9
    refine ⟨wrap64 (r - 1), p2, s2, Ev.succ ?_, hS2⟩
    simp only [spec_l24DrawNumber.j0]
    exact Ev.neg (by simp) (Ev.bind (Ev.eq e2) (Ev.eq rfl))
  by_cases hp : (l.length : Int) > 0
  · obtain ⟨r, p2, s2, e2, hS2, _⟩ := spec_l01Next_ok hS1 6
    by_cases hr : r > 0
    · obtain ⟨q, p3, s3, e3, hS3, hq0, hq1⟩ := spec_l01Next_ok hS2 (l.length : Int)
      refine ⟨l, (rd_T78 l q).f0, p3, s3, ?_, hS3, hll⟩
      unfold spec_l24DrawNumber.f
      refine Ev.bind e1 (Ev.pos hp (Ev.bind (Ev.eq e2) (Ev.succ ?_)))
      simp only [spec_l24DrawNumber.j0]
      exact Ev.pos (by simpa using hr) (Ev.bind (Ev.eq e3) (Ev.pos hq0 (Ev.pos (by simp only; omega) (Ev.eq rfl))))
    · obtain ⟨a, p3, s3, e3, hS3⟩ := hF p2 s2 hS2
      refine ⟨l, a, p3, s3, ?_, hS3, hll⟩
      unfold spec_l24DrawNumber.f
      refine Ev.bind e1 (Ev.pos hp (Ev.bind (Ev.eq e2) ?_))
      simp only [decide_eq_false hr]
      exact e3
  · obtain ⟨a, p3, s3, e3, hS3⟩ := hF p1 s1 hS1
    refine ⟨l, a, p3, s3, ?_, hS3, hll⟩
    unfold spec_l24DrawNumber.f
    exact Ev.bind e1 (Ev.neg hp e3)
theorem spec_DrawAdvanceOrder_ok {c : List Int} (hc : ∀ y ∈ c, 0 ≤ y ∧ y ≤ 255) (hl : c.length ≤ 1048576) : ∃ l a, Ev (fun k => spec_DrawAdvanceOrder.f k c) (l, a) ∧ l.length ≤ 60 := by
  obtain ⟨seed, e0, hS0⟩ := spec_l01From_ev hc hl
  obtain ⟨l, a, p2, s2, e2, hS2, hll⟩ := spec_l24DrawNumber_ok hS0
  refine ⟨l, a, ?_, hll⟩
  unfold spec_DrawAdvanceOrder.f
  exact Ev.bind e0 (Ev.bind e2 (Ev.eq rfl))
theorem spec_DrawOfferOrder_ok {c : List Int} (hc : ∀ y ∈ c, 0 ≤ y ∧ y ≤ 255) (hl : c.length ≤ 1048576) : ∃ l a b, Ev (fun k => spec_DrawOfferOrder.f k c) (l, a, b) ∧ l.length ≤ 60 := by
  obtain ⟨seed, e0, hS0⟩ := spec_l01From_ev hc hl
  obtain ⟨r, p1, s1, e1, hS1, _⟩ := spec_l01Next_ok hS0 12
  obtain ⟨l, p2, s2, e2, hS2, hll⟩ := spec_l24Draw_ok hS1
  by_cases c0 : r = 0
  · obtain ⟨a, p3, s3, e3, hS3, _⟩ := spec_l01Pick_ok hS2 [0, 1, 1000000, 1000001] (by simp) (by simp)
    obtain ⟨b, p4, s4, e4, hS4, _⟩ := spec_l01Pick_ok hS3 [(-1), 0, 100000, 100001] (by simp) (by simp)
    refine ⟨l, a, b, ?_, hll⟩
    unfold spec_DrawOfferOrder.f
    exact Ev.bind e0 (Ev.bind (Ev.eq e1) (Ev.pos c0 (Ev.bind e2 (Ev.bind (Ev.eq e3) (Ev.bind (Ev.eq e4) (Ev.eq rfl))))))
  · obtain ⟨a, p3, s3, e3, hS3, _⟩ := spec_l01Next_ok hS2 500
    obtain ⟨b, p4, s4, e4, hS4, _⟩ := spec_l01Next_ok hS3 20
    refine ⟨l, wrap64 (1 + a), b, ?_, hll⟩
    unfold spec_DrawOfferOrder.f
    exact Ev.bind e0 (Ev.bind (Ev.eq e1) (Ev.neg c0 (Ev.bind e2 (Ev.bind (Ev.eq e3) (Ev.bind (Ev.eq e4) (Ev.eq rfl))))))
end Go.Proofs.Ytanokgpnmbbajaa.PT
namespace Go.Proofs.Ytanokgpnmbbajaa.Pure
open Go.RowKit Go.Proofs.YtanokgpnmbbajaaW.PrintWords Go.Proofs.YtanokgpnmbbajaaB Go.Proofs.Ytanokgpnmbbajaa.PT
set_option linter.unusedVariables false
set_option linter.unusedSimpArgs false
theorem nlt_of {i n : Nat} (h : i + 0 = n) : ¬ ((i : Int) < (n : Int)) := by omega
theorem lt_of {i d n : Nat} (h : i + (d + 1) = n) : (i : Int) < (n : Int) := by omega
theorem ltn_of {i d n : Nat} (h : i + (d + 1) = n) : i < n := by omega
theorem nn_of (i : Nat) : (0 : Int) ≤ (i : Int) := by omega
theorem suc_of {i d n : Nat} (h : i + (d + 1) = n) : (i + 1) + d = n := by omega
theorem w64s {i d n : Nat} (h : i + (d + 1) = n) (hn : n ≤ 60) : wrap64 ((i : Int) + 1) = ((i + 1 : Nat) : Int) := by rw [w64 (by omega) (by omega)]; omega
theorem wrap_state {s : Int} (h : s < 4) (h0 : 0 ≤ s) : wrap64 (s + 1) = s + 1 := w64 (by omega) (by omega)
set_option maxHeartbeats 8000000 in
theorem law_l1 {l : List S78} (hb : bookOk l = true) {a : Int} {i0 : Nat} (hi0 : i0 < l.length) (hn : (l.getD i0 z78).f0 = a) (h4 : (l.getD i0 z78).f3 < 4) (hf : firstAt (fun o : S78 => decide (o.f0 = a)) l 0 = (i0 : Int))
    (x y : S78) (hx : x = ⟨(l.getD i0 z78).f0, (l.getD i0 z78).f1, (l.getD i0 z78).f2, wrap64 ((l.getD i0 z78).f3 + 1)⟩) (hy : y = ⟨(l.getD i0 z78).f0, (l.getD i0 z78).f1, (l.getD i0 z78).f2, 5⟩) :
    ∀ d i : Nat, i + d = l.length → Ev (fun q => laws_FnOrderBooks.l1 q l a (l.set i0 x) (l.set i0 y) (i : Int)) true := by
  have hl := bookOk_len hb
  have hl50 : l.length ≤ 9223372036854775806 := by omega
  have hl60 : l.length ≤ 60 := by omega
  have hb2 := hb
  unfold bookOk at hb2
  rw [Bool.and_eq_true] at hb2
  have ho := bookRises_all hb2.2 _ (getD_mem l z78 i0 hi0)
  have ho2 := ho
  simp only [orderOk, decide_eq_true_eq] at ho2
  have hxo : orderOk x = true := by
    rw [hx, wrap_state h4 (by omega)]
    simp only [orderOk, decide_eq_true_eq]; omega
  have hyo : orderOk y = true := by
    rw [hy]; simp only [orderOk, decide_eq_true_eq]; omega
  have hbx : bookOk (l.set i0 x) = true := by
    unfold bookOk; rw [List.length_set, hb2.1, bookRises_set x l none i0 hi0 hxo (by rw [hx]) hb2.2]; rfl
  have hby : bookOk (l.set i0 y) = true := by
    unfold bookOk; rw [List.length_set, hb2.1, bookRises_set y l none i0 hi0 hyo (by rw [hy]) hb2.2]; rfl
  have hlx : (l.set i0 x).length = l.length := List.length_set
  have hly : (l.set i0 y).length = l.length := List.length_set
  have hdrop : setState (fun _ => 5) (l.set i0 y) a = ([], 5) := by
    refine setState_final _ hby (i := i0) ?_ ?_
    · rw [firstAt_set a y l i0 0 hi0 (by rw [hy])]; exact hf
    · have e : (l.set i0 y).getD i0 z78 = y := by simp [List.getD, List.getElem?_set, hi0]
      rw [e, hy]; show ¬ ((5 : Int) < 4); decide
  have lx : (l.set i0 x).length ≤ 9223372036854775806 := by rw [hlx]; exact hl50
  have ly : (l.set i0 y).length ≤ 9223372036854775806 := by rw [hly]; exact hl50
  clear ho2 ho hxo hyo
  intro d
  induction d with
  | zero =>
    intro i hi
    refine Ev.succ ?_
    simp only [laws_FnOrderBooks.l1]
    have hev := impl_DropOrder_ev' (l := l.set i0 y) ly a
    rw [hdrop] at hev
    exact Ev.neg (nlt_of hi) (Ev.bind hev (Ev.bind ((impl_IsOrderBook_ev (l := l.set i0 x) lx).cast hbx) (Ev.pos (by trivial) (Ev.bind ((impl_IsOrderBook_ev (l := l.set i0 y) ly).cast hby) (Ev.pos (by trivial) (Ev.pos (by simp) (Ev.eq rfl)))))))
  | succ d ih =>
    intro i hi
    have h3 := ih (i + 1) (suc_of hi)
    have e1 := w64s hi hl60
    have hil : i < l.length := ltn_of hi
    have g1 := nn_of i
    have g2 : (i : Int) < (l.length : Int) := lt_of hi
    have gx : (i : Int) < ((l.set i0 x).length : Int) := by rw [hlx]; exact g2
    have gy : (i : Int) < ((l.set i0 y).length : Int) := by rw [hly]; exact g2
    refine Ev.succ ?_
    simp only [laws_FnOrderBooks.l1, rd_Order]
    by_cases hii : i = i0
    · subst hii
      have ex : (l.set i x).getD i z78 = x := by simp [List.getD, List.getElem?_set, hi0]
      have ey : (l.set i y).getD i z78 = y := by simp [List.getD, List.getElem?_set, hi0]
      rw [ex, ey]
      refine Ev.pos g2 (Ev.pos g1 (Ev.pos hn (Ev.pos gx (Ev.pos (by rw [hx]) (Ev.pos gy (Ev.succ ?_))))))
      simp only [laws_FnOrderBooks.j4, rd_Order, e1]
      exact Ev.neg (by rw [hy]; simp) (Ev.pos g1 (Ev.pos g2 (Ev.pos hn h3)))
    · have hne : ¬ (l.getD i z78).f0 = a := by
        intro e
        have := bookRises_injAt hb2.2 i i0 hil hi0 (e.trans hn.symm)
        exact hii this
      have ex : (l.set i0 x).getD i z78 = l.getD i z78 := by simp [List.getD, List.getElem?_set, Ne.symm hii]
      have ey : (l.set i0 y).getD i z78 = l.getD i z78 := by simp [List.getD, List.getElem?_set, Ne.symm hii]
      refine Ev.pos g2 (Ev.pos g1 (Ev.neg hne (Ev.succ ?_)))
      simp only [laws_FnOrderBooks.j4, rd_Order, e1]
      rw [ex, ey]
      exact Ev.neg (by simp) (Ev.pos g1 (Ev.pos g2 (Ev.neg hne (Ev.pos gx (Ev.neg (by simp) (Ev.pos gy (Ev.neg (by simp) h3)))))))
set_option maxHeartbeats 8000000 in
theorem FnOrderBooks : laws_FnOrderBooks.Pure := by
  intro c hg
  refine Ev.rounds (g := fun k => laws_FnOrderBooks.f k c) ?_
  unfold laws_FnOrderBooks.f
  refine Ev.bind (a := decide ((c.length : Int) > 4096)) (Ev.eq rfl) (Ev.ite (fun _ => Ev.eq rfl) (fun h => ?_))
  have hc : c.length ≤ 1048576 := by
    simp only [decide_eq_true_eq] at h; omega
  obtain ⟨l, a, E1, hl⟩ := spec_DrawAdvanceOrder_ok hg.2 hc
  obtain ⟨b, n, due, E2, hbl⟩ := spec_DrawOfferOrder_ok hg.2 hc
  have t1 := setState_length (fun s => wrap64 (s + 1)) l a
  have t2 := setState_length (fun _ => 5) l a
  have t3 := offerVal_len b n due
  have t4 := purgeVal_len l
  have hj2 : Ev (fun k => laws_FnOrderBooks.j2 k l a (setState (fun s => wrap64 (s + 1)) l a).1 (setState (fun s => wrap64 (s + 1)) l a).2 (setState (fun _ => 5) l a).1) true := by
    refine Ev.succ ?_
    simp only [laws_FnOrderBooks.j2]
    refine Ev.ite (fun h0 => ?_) (fun _ => Ev.eq rfl)
    obtain ⟨hb, i0, hi0, hn, h4, hf⟩ := setState_at _ h0
    rw [setState_val _ hb hf h4, setState_val _ hb hf h4]
    exact law_l1 hb hi0 hn h4 hf _ _ rfl rfl l.length 0 (Nat.zero_add _)
  have hcode : (setState (fun _ => 5) l a).2 = (setState (fun s => wrap64 (s + 1)) l a).2 := by
    unfold setState
    (repeat' split) <;> rfl
  refine Ev.bind E1 (Ev.bind (impl_AdvanceOrder_ev' (l := l) (by omega) a) (Ev.bind (spec_AdvanceOrder_ev' (l := l) (by omega) a) (Ev.bind (impl_DropOrder_ev' (l := l) (by omega) a) (Ev.bind (spec_DropOrder_ev' (l := l) (by omega) a) (Ev.bind E2 (Ev.bind (impl_OfferOrder_ev (l := b) (by omega) n due) (Ev.bind (spec_OfferOrder_ev (l := b) (by omega) n due) (Ev.bind (impl_PurgeOrders_ev (l := l) (by omega)) (Ev.bind (spec_PurgeOrders_ev (l := l) (by omega)) ?_)))))))))
  refine Ev.pos rfl (Ev.bind (laws_likeOrders9_refl (by omega)) (Ev.pos rfl (Ev.pos rfl (Ev.bind (laws_likeOrders9_refl (by omega)) (Ev.pos rfl (Ev.pos rfl (Ev.bind (laws_likeOrders9_refl (by omega)) (Ev.pos rfl (Ev.pos rfl (Ev.pos rfl (Ev.bind (laws_likeOrders9_refl (by omega)) (Ev.pos rfl (Ev.pos hcode (Ev.bind (impl_IsOrderBook_ev (l := l) (by omega)) (Ev.bind (spec_IsOrderBook_ev (l := l) (by omega)) (Ev.succ ?_))))))))))))))))
  simp only [laws_FnOrderBooks.j0]
  refine Ev.neg (by simp) (Ev.ite (fun h0 => ?_) (fun _ => hj2))
  -- an order was offered
  have hbb : bookOk b = true ∧ (1 ≤ n ∧ n ≤ 1000000) ∧ (0 ≤ due ∧ due ≤ 100000) ∧ (b.length < 50 ∧ nextNo b ≤ 1000000000) := by
    unfold offerVal at h0
    split at h0
    · split at h0
      · split at h0
        · split at h0
          · refine ⟨?_, ?_, ?_, ?_⟩ <;> assumption
          · simp at h0
        · simp at h0
      · simp at h0
    · simp at h0
  obtain ⟨hb, h1, h2, h3⟩ := hbb
  have hv : offerVal b n due = (b ++ [(⟨nextNo b, n, due, 0⟩ : S78)], nextNo b, 0) := by unfold offerVal; rw [if_pos hb, if_pos h1, if_pos h2, if_pos h3]
  rw [hv]
  have hz : bookOk (b ++ [(⟨nextNo b, n, due, 0⟩ : S78)]) = true := by rw [offer_ok hb h1 h2]; exact decide_eq_true h3
  have hbl2 : b.length ≤ 9223372036854775806 := by omega
  have hlz0 : (b ++ [(⟨nextNo b, n, due, 0⟩ : S78)]).length = b.length + 1 := by simp
  have hlz : (b ++ [(⟨nextNo b, n, due, 0⟩ : S78)]).length ≤ 9223372036854775806 := by rw [hlz0]; exact Nat.le_trans (Nat.succ_le_succ hbl) (by decide)
  have hlb : (b.length : Int) ≤ ((b ++ [(⟨nextNo b, n, due, 0⟩ : S78)]).length : Int) := by rw [hlz0]; exact Int.ofNat_le.mpr (Nat.le_succ _)
  have key : ∀ d i : Nat, i + d = b.length → Ev (fun k => laws_FnOrderBooks.l0 k l a (setState (fun s => wrap64 (s + 1)) l a).1 (setState (fun s => wrap64 (s + 1)) l a).2 (setState (fun _ => 5) l a).1 b (b ++ [(⟨nextNo b, n, due, 0⟩ : S78)]) (nextNo b) (i : Int)) true := by
    intro d
    induction d with
    | zero =>
      intro i hi
      refine Ev.succ ?_
      simp only [laws_FnOrderBooks.l0]
      have et : (b ++ [(⟨nextNo b, n, due, 0⟩ : S78)]).take ((b.length : Int) : Int).toNat = b := by simp
      rw [et]
      exact Ev.neg (nlt_of hi) (Ev.bind ((impl_IsOrderBook_ev (l := b ++ [(⟨nextNo b, n, due, 0⟩ : S78)]) hlz).cast hz) (Ev.pos (by trivial) (Ev.pos (nn_of b.length) (Ev.pos hlb (Ev.bind (laws_likeOrders9_refl hbl2) (Ev.pos (by trivial) hj2))))))
    | succ d ih =>
      intro i hi
      have hlt := nextNo_above hb _ (getD_mem b z78 i (ltn_of hi))
      have e1 := w64s hi hbl
      refine Ev.succ ?_
      simp only [laws_FnOrderBooks.l0, rd_Order, e1]
      exact Ev.pos (lt_of hi) (Ev.pos (nn_of i) (Ev.neg (Int.not_le.mpr hlt) (ih (i + 1) (suc_of hi))))
  exact key b.length 0 (Nat.zero_add _)
end Go.Proofs.Ytanokgpnmbbajaa.Pure
end
