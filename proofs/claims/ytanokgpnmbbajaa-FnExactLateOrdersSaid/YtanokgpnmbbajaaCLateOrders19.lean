-- Gathered by this session's program wip/tool/shake.py out of its own texts and of what the kit's print and the session's patches of it wrote for this claim.
import Derived.Test.YtanokgpnmbbajaaProg
import Derived.ArgAppend
import Derived.Below
import Derived.BigQuiet
import Derived.Deep.AppendLies
import Derived.Deep.CutBlock
import Derived.Deep.DeepCutAuto
import Derived.Deep.Draws
import Derived.Deep.LoopGhost
import Derived.Deep.OwnRows
import Derived.Deep.QuietTactic
import Derived.Deep.RegionHeld3
import Derived.KernelRfl
import Derived.Laws.BitsLemmas
import Derived.Laws.BytesArg
import Derived.Laws.IdiomCopy
import Derived.Laws.MakeOwn
import Derived.Laws.OwnMore
import Derived.Laws.Rows
import Derived.Laws.Slices
import Derived.Laws.StructEq
import Derived.Lib.AppendStr
import Derived.Lib.ConvBytes
import Derived.Maps.AppendAt
import Derived.OrdersHeld
import Derived.OwnWalk
import Derived.RowKit
import Derived.RowKit3
import Derived.Tactics
import Derived.WalkKit
import Derived.WideLaws
import Derived.Test.YtanokgpnmbbajaaCLateOrders6
import Derived.Test.YtanokgpnmbbajaaCLateOrders7
import Derived.Test.YtanokgpnmbbajaaCLateOrders12
import Derived.Test.YtanokgpnmbbajaaCLateOrders18
section
namespace Go.Proofs.Ytanokgpnmbbajaa.PS
open Go.RowKit Go.Proofs.YtanokgpnmbbajaaW.PrintWords Go.Proofs.YtanokgpnmbbajaaB
theorem spec_l01In_eq (a b c : Int) : spec_l01In.f a b c = some (decide (b ≤ a ∧ a ≤ c)) := by
  unfold spec_l01In.f
  split <;> simp <;> omega
theorem impl_inRange_eq (a b c : Int) : impl_inRange.f a b c = some (decide (b ≤ a ∧ a ≤ c)) := by
  unfold impl_inRange.f
  split <;> simp <;> omega
end Go.Proofs.Ytanokgpnmbbajaa.PS
end
section
namespace Go.Proofs.Ytanokgpnmbbajaa.PS
open Go.RowKit Go.Proofs.YtanokgpnmbbajaaW.PrintWords Go.Proofs.YtanokgpnmbbajaaB
set_option linter.unusedVariables false
set_option linter.unusedSimpArgs false
theorem rd_Order (l : List S78) (i : Nat) : rd_T78 l (i : Int) = l.getD i z78 := by simp [rd_T78]
theorem rdL_Order (l : List S108) (i : Nat) : rd_T108 l (i : Int) = l.getD i z108 := by simp [rd_T108]
def toOrder (x : S108) : S78 := ⟨x.f0, x.f1, x.f2, x.f3⟩
theorem laws_toOrderS_l0 (l : List S108) (hl : l.length ≤ 1048576) : ∀ d i, i + d = l.length →
    Ev (fun k => laws_toOrderS.l0 k l ((l.take i).map toOrder ++ List.replicate (l.length - i) z78) (i : Int)) (l.map toOrder) := by
  intro d
  induction d with
  | zero =>
    intro i hi
    refine Ev.succ ?_
    simp only [laws_toOrderS.l0]
    refine Ev.neg (by omega) (Ev.eq ?_)
    have : i = l.length := by omega
    subst this
    simp
  | succ d ih =>
    intro i hi
    have h1 := fill_step l z108 z78 toOrder i (by omega)
    have h2 := ih (i + 1) (by omega)
    refine Ev.succ ?_
    simp only [laws_toOrderS.l0]
    refine Ev.pos (by omega) (Ev.pos (by omega) (Ev.bind (Ev.eq rfl) (Ev.pos (by simp; omega) ?_)))
    rw [rdL_Order, w64 (by omega) (by omega), Int.toNat_natCast]
    rw [← h1] at h2
    exact h2
theorem laws_toOrderS_ev {l : List S108} (hl : l.length ≤ 1048576) : Ev (fun k => laws_toOrderS.f k l) (l.map toOrder) := by
  have h := laws_toOrderS_l0 l hl l.length 0 (by omega)
  unfold laws_toOrderS.f
  refine Ev.pos (by omega) (Ev.pos (by omega) ?_)
  rw [Int.toNat_natCast]
  simpa using h
theorem laws_eqOrderS_l0 (l : List S78) (hl : l.length ≤ 9223372036854775806) : ∀ d i, i + d = l.length → Ev (fun k => laws_eqOrderS.l0 k l l (i : Int)) true := by
  intro d
  induction d with
  | zero =>
    intro i hi
    refine Ev.succ ?_
    simp only [laws_eqOrderS.l0]
    exact Ev.neg (by omega) (Ev.eq rfl)
  | succ d ih =>
    intro i hi
    have h2 := ih (i + 1) (by omega)
    refine Ev.succ ?_
    simp only [laws_eqOrderS.l0]
    refine Ev.pos (by omega) (Ev.pos (by omega) (Ev.pos (by omega) (Ev.bind (a := true) (Ev.eq (by simp [laws_eqOrder.f])) (Ev.pos rfl ?_))))
    rw [w64 (by omega) (by omega)]
    exact h2
theorem laws_eqOrderS_refl {l : List S78} (hl : l.length ≤ 9223372036854775806) : Ev (fun k => laws_eqOrderS.f k l l) true := by
  unfold laws_eqOrderS.f
  exact Ev.pos rfl (laws_eqOrderS_l0 l hl l.length 0 (by omega))
theorem laws_szOrderS_eq {l : List S108} (hl : l.length ≤ 9223372036854775807) : ∃ r, laws_szOrderS.f l 1048576 = some r ∧ (r < 0 ↔ ¬ l.length ≤ 1048576) := by
  unfold laws_szOrderS.f
  rw [w64 (by omega) (by omega)]
  split
  · exact ⟨_, rfl, by omega⟩
  · exact ⟨_, rfl, by omega⟩
/-- A list marked with numbers from one on. -/
def markOrder : Int → List S78 → List S78
  | _, [] => []
  | n, _ :: xs => ⟨n, n + 1, n + 2, n + 3⟩ :: markOrder (n + 4) xs
theorem mid_Order (A B : List S78) (x : S78) : (A ++ x :: B).getD A.length z78 = x := by simp [List.getD]
theorem put_Order (A B : List S78) (x y : S78) : (A ++ x :: B).set A.length y = A ++ y :: B := by simp
theorem laws_markOrderS_l0 : ∀ (B A : List S78) (n : Int), A.length + B.length ≤ 1152921504606846976 → 0 ≤ n → n + 4 * (B.length : Int) ≤ 4611686018427387904 →
    Ev (fun k => laws_markOrderS.l0 k (A ++ B) n (A.length : Int)) (n + 4 * (B.length : Int), A ++ markOrder n B) := by
  intro B
  induction B with
  | nil =>
    intro A n hl h0 hn
    refine Ev.succ ?_
    simp only [laws_markOrderS.l0]
    exact Ev.neg (by simp) (Ev.eq (by simp [markOrder]))
  | cons x xs ih =>
    intro A n hl h0 hn
    simp only [List.length_cons] at hl hn
    refine Ev.succ ?_
    simp only [laws_markOrderS.l0, rd_Order, Int.toNat_natCast, mid_Order, put_Order, Option.bind_some]
    refine Ev.pos (by simp; omega) (Ev.pos (by omega) ?_)
    have e1 : wrap64 ((A.length : Int) + 1) = ((A ++ [(⟨n, n + 1, n + 2, n + 3⟩ : S78)]).length : Int) := by rw [w64 (by omega) (by omega)]; simp
    have w1 : wrap64 (n + 1) = n + 1 := by rw [w64 (by omega) (by omega)]; try omega
    have w2 : wrap64 (n + 1 + 1) = n + 2 := by rw [w64 (by omega) (by omega)]; try omega
    have w3 : wrap64 (n + 2 + 1) = n + 3 := by rw [w64 (by omega) (by omega)]; try omega
    have w4 : wrap64 (n + 3 + 1) = n + 4 := by rw [w64 (by omega) (by omega)]; try omega
    have h3 := ih (A ++ [(⟨n, n + 1, n + 2, n + 3⟩ : S78)]) (n + 4) (by simp; omega) (by omega) (by omega)
    simp only [w1, w2, w3, w4, e1]
    simp only [List.append_assoc, List.cons_append, List.nil_append] at h3 ⊢
    refine h3.cast ?_
    simp only [markOrder, List.length_cons]
    congr 1
    omega
theorem laws_markOrderS_ev {l : List S78} {n : Int} (hl : l.length ≤ 1048576000) (h0 : 0 ≤ n) (hn : n ≤ 1152921504606846976) : Ev (fun k => laws_markOrderS.f k l n) (n + 4 * (l.length : Int), markOrder n l) := by
  unfold laws_markOrderS.f
  have h := laws_markOrderS_l0 l [] n (by simp; omega) h0 (by omega)
  simpa using h
end Go.Proofs.Ytanokgpnmbbajaa.PS
end
section
namespace Go.Proofs.Ytanokgpnmbbajaa.PS
open Go.RowKit Go.Proofs.YtanokgpnmbbajaaW.PrintWords Go.Proofs.YtanokgpnmbbajaaW.PrintLast Go.Proofs.YtanokgpnmbbajaaW.PrintMore
attribute [local go_sem] max2_int min2_int max_two min_two max_three min_three max_four min_four   -- for this text's walks alone
set_option linter.unusedVariables false
set_option linter.unusedSimpArgs false
def impl_isOpen.f (a0_0 : Int) (a0_1 : Int) (a0_2 : Int) (a0_3 : Int) : Option (Bool) := some (decide (a0_3 < 4))
set_option maxHeartbeats 8000000 in
set_option maxRecDepth 100000 in
theorem impl_isOpen.calls (a0_0 : Int) (a0_1 : Int) (a0_2 : Int) (a0_3 : Int) (r : Bool) (w : World) (h : impl_isOpen.f a0_0 a0_1 a0_2 a0_3 = some r) :
    Calls Try.prog 112 #[.agg #[.int .i64 a0_0, .int .i64 a0_1, .int .i64 a0_2, .int .i64 a0_3]] w fun e w' => e = .returned (.bool r) ∧ Below w.heap.size w w' := by
  have hu78 := Try.underlying78
  have HB := Aside0.mk (Below.refl w.heap.size w)
  have H : (some (decide (a0_3 < 4))) = some r := h
  clear h
  obtain rfl := Option.some.inj H
  go_enter Try.func112, Try.ntmps112
  go_wp2_with (first | ((with_reducible refine gate_dst (N := 1) rfl ?_); refine box_event ?hg (N := 1) ?hd (cs := #[.int .i64 a0_0, .int .i64 a0_1, .int .i64 a0_2, .int .i64 a0_3]) (t := 78) ?hr ?_; (case hd => rfl); (case hg => rfl); (case hr => first | (go_simp; done) | (go_simp; rfl)); intro gb185 hg w2 hbox hb; have n0_ := Aside0.mk (below_step (by repeat (first | (with_reducible first | exact HB.out | apply below_alloc | apply pw_below_drewN | apply below_drew1) | exact HB.out)) hb); have n1_ := Aside0.mk (hbox); have n2_ := Aside0.mk ((by rw [hg]; exact (below_size (by repeat (first | (with_reducible first | exact HB.out | apply below_alloc | apply pw_below_drewN | apply below_drew1) | exact HB.out))) : w.heap.size ≤ gb185)); have n3_ := Aside0.mk ((by rw [hg]; exact (below_size (by repeat (first | (with_reducible first | exact HB.out | apply below_alloc | apply pw_below_drewN | apply below_drew1) | exact HB.out))) : w.heap.size ≤ gb185)); clear HB; have HB := n0_; have BK185 := n1_; have GW185 := n2_; have GE185 := n3_; clear n0_ n1_ n2_ n3_; clear hb hbox hg; have hcz3_0 : w2.cell? ⟨gb185, 0, none⟩ = some (.int .i64 a0_0) := (blk_cell BK185.out 0).trans rfl; have hcz3_1 : w2.cell? ⟨gb185, 1, none⟩ = some (.int .i64 a0_1) := (blk_cell BK185.out 1).trans rfl; have hcz3_2 : w2.cell? ⟨gb185, 2, none⟩ = some (.int .i64 a0_2) := (blk_cell BK185.out 2).trans rfl; have hcz3_3 : w2.cell? ⟨gb185, 3, none⟩ = some (.int .i64 a0_3) := (blk_cell BK185.out 3).trans rfl; have hfz3_0 := blk_frozen BK185.out 0; have hfz3_1 := blk_frozen BK185.out 1; have hfz3_2 := blk_frozen BK185.out 2; have hfz3_3 := blk_frozen BK185.out 3))
  go_ret
  exact ⟨by first | rfl | (simp [errW_none, errW_some] <;> rfl) | (simp [*, errW_none, errW_some] <;> rfl), by repeat (first | (with_reducible first | exact HB.out | apply below_alloc | apply pw_below_drewN | apply below_drew1 | refine below_set ?_ GE185.out) | exact HB.out)⟩
end Go.Proofs.Ytanokgpnmbbajaa.PS
end
section
namespace Go.Proofs.Ytanokgpnmbbajaa.PS
open Go.RowKit Go.Proofs.YtanokgpnmbbajaaW.PrintWords Go.Proofs.YtanokgpnmbbajaaW.PrintLast Go.Proofs.YtanokgpnmbbajaaW.PrintMore
attribute [local go_sem] max2_int min2_int max_two min_two max_three min_three max_four min_four   -- for this text's walks alone
set_option linter.unusedVariables false
set_option linter.unusedSimpArgs false
theorem impl_changed_1.pays (a1 : Int) (B1 : Nat) (w : World) (h1 : B1 < w.heap.size) (g1 : w.cell? ⟨B1, 0, none⟩ = some (.int .i64 a1)) :
    PaysAt Try.prog 135 #[.pointer (some ⟨B1, 0, none⟩)] (fun x : S78 => Value.agg #[.int .i64 x.f0, .int .i64 x.f1, .int .i64 x.f2, .int .i64 x.f3]) (fun o => decide (o.f0 = a1)) w := fun W x hb => by
  have k1 : W.cell? ⟨B1, 0, none⟩ = some (.int .i64 a1) := (hb.cell (p := ⟨B1, 0, none⟩) h1).trans g1
  have k2 := fun o : Obj => (((Below.refl W.heap.size W).alloc (Nat.le_refl _) o).cell (p := ⟨B1, 0, none⟩) (World.block_lt_of_cell? W _ k1)).trans k1
  clear g1 h1
  have HB := Aside0.mk hb
  clear hb
  show Calls Try.prog 135 #[.agg #[.int .i64 x.f0, .int .i64 x.f1, .int .i64 x.f2, .int .i64 x.f3], .pointer (some ⟨B1, 0, none⟩)] W _
  by_cases h : x.f0 = a1
  · have e1 : (x.f0 == a1) = true := beq_iff_eq.mpr h
    have HD := Aside0.mk (decide_eq_true h)
    clear h
    go_enter Try.func135, Try.ntmps135
    go_wp2
    repeat (go_quiet (fail); try go_wp2)
    go_ret
    exact ⟨ret_b HD.out.symm, by repeat (first | (with_reducible first | exact HB.out | apply below_alloc | apply pw_below_drewN | apply below_drew1) | exact HB.out)⟩
  · have e1 : (x.f0 == a1) = false := beq_eq_false_iff_ne.mpr h
    have HD := Aside0.mk (decide_eq_false h)
    clear h
    go_enter Try.func135, Try.ntmps135
    go_wp2
    repeat (go_quiet (fail); try go_wp2)
    go_ret
    exact ⟨ret_b HD.out.symm, by repeat (first | (with_reducible first | exact HB.out | apply below_alloc | apply pw_below_drewN | apply below_drew1) | exact HB.out)⟩
end Go.Proofs.Ytanokgpnmbbajaa.PS
end
section
namespace Go.Proofs.Ytanokgpnmbbajaa.PS
open Go.RowKit Go.Proofs.YtanokgpnmbbajaaW.PrintWords Go.Proofs.YtanokgpnmbbajaaB
set_option linter.unusedVariables false
set_option linter.unusedSimpArgs false
def orderOk (x : S78) : Bool := decide (1 ≤ x.f0 ∧ x.f0 ≤ 1000000000 ∧ 1 ≤ x.f1 ∧ x.f1 ≤ 1000000 ∧ 0 ≤ x.f2 ∧ x.f2 ≤ 100000 ∧ 0 ≤ x.f3 ∧ x.f3 ≤ 5)
def bookRises : Option Int → List S78 → Bool
  | _, [] => true
  | p, x :: xs => orderOk x && (match p with | none => true | some d => decide (d < x.f0)) && bookRises (some x.f0) xs
def bookOk (l : List S78) : Bool := decide (l.length ≤ 50) && bookRises none l
def prevNo (l : List S78) (i : Nat) : Option Int := if i = 0 then none else some (l.getD (i - 1) z78).f0
theorem spec_IsOrderBook_l0 (l : List S78) (hl : l.length ≤ 9223372036854775806) : ∀ d i, i + d = l.length → Ev (fun k => spec_IsOrderBook.l0 k l (i : Int)) (decide (l.length ≤ 50) && bookRises (prevNo l i) (l.drop i)) := by
  intro d
  induction d with
  | zero =>
    intro i hi
    refine Ev.succ ?_
    simp only [spec_IsOrderBook.l0]
    refine Ev.neg (by omega) (Ev.eq ?_)
    have : l.drop i = [] := List.drop_eq_nil_of_le (by omega)
    rw [this]
    have e : ((l.length : Int) ≤ 50) ↔ l.length ≤ 50 := by omega
    simp [bookRises, e]
  | succ d ih =>
    intro i hi
    rw [getD_drop l z78 i (by omega)]
    have h3 := ih (i + 1) (by omega)
    have ep : prevNo l (i + 1) = some (l.getD i z78).f0 := by simp [prevNo]
    rw [ep] at h3
    have e1 : wrap64 ((i : Int) + 1) = ((i + 1 : Nat) : Int) := by rw [w64 (by omega) (by omega)]; omega
    refine Ev.succ ?_
    simp only [spec_IsOrderBook.l0, rd_Order]
    refine Ev.pos (by omega) (Ev.pos (by omega) ?_)
    generalize l.getD i z78 = x at h3 ⊢
    simp only [bookRises]
    cases hx : orderOk x with
    | false =>
      have hbad : ∀ b c e f : Int, Ev (fun k => spec_IsOrderBook.j1 k l (i : Int) true b c e f) false := fun b c e f => Ev.succ (by simp only [spec_IsOrderBook.j1]; exact Ev.pos (by trivial) (Ev.eq rfl))
      have er : (decide (l.length ≤ 50) && (false && (match prevNo l i with | none => true | some d => decide (d < x.f0)) && bookRises (some x.f0) (l.drop (i + 1)))) = false := by simp
      rw [er]
      simp only [orderOk, decide_eq_false_iff_not] at hx
      refine Ev.bind (Ev.eq (spec_l01In_eq _ _ _)) (Ev.ite (fun c1 => Ev.bind (Ev.eq (spec_l01In_eq _ _ _)) (Ev.ite (fun c2 => Ev.bind (Ev.eq (spec_l01In_eq _ _ _)) (Ev.ite (fun c3 => Ev.bind (Ev.eq (spec_l01In_eq _ _ _)) ?_) (fun _ => hbad _ _ _ _))) (fun _ => hbad _ _ _ _))) (fun _ => hbad _ _ _ _))
      simp only [decide_eq_true_eq] at c1 c2 c3
      have e : decide (0 ≤ x.f3 ∧ x.f3 ≤ 5) = false := decide_eq_false (by omega)
      rw [e]
      exact hbad _ _ _ _
    | true =>
      simp only [orderOk, decide_eq_true_eq] at hx
      refine Ev.bind (Ev.eq (spec_l01In_eq _ _ _)) (Ev.pos (by simp; omega) (Ev.bind (Ev.eq (spec_l01In_eq _ _ _)) (Ev.pos (by simp; omega) (Ev.bind (Ev.eq (spec_l01In_eq _ _ _)) (Ev.pos (by simp; omega) (Ev.bind (Ev.eq (spec_l01In_eq _ _ _)) (Ev.succ ?_)))))))
      have e : decide (0 ≤ x.f3 ∧ x.f3 ≤ 5) = true := decide_eq_true (by omega)
      rw [e]
      simp only [spec_IsOrderBook.j1, e1]
      refine Ev.neg (by simp) ?_
      by_cases h0 : i = 0
      · subst h0
        exact Ev.neg (by omega) (h3.cast (by simp [prevNo]))
      · have e2 : wrap64 ((i : Int) - 1) = ((i - 1 : Nat) : Int) := by rw [w64 (by omega) (by omega)]; omega
        rw [e2, rd_Order]
        have eq : prevNo l i = some (l.getD (i - 1) z78).f0 := by rw [prevNo, if_neg h0]
        rw [eq]
        generalize l.getD (i - 1) z78 = y
        refine Ev.pos (by omega) (Ev.pos (by omega) (Ev.pos (by omega) (Ev.ite (fun h => Ev.eq ?_) (fun h => h3.cast ?_))))
        · have h' : ¬ y.f0 < x.f0 := by omega
          simp [h']
        · have h' : y.f0 < x.f0 := by omega
          simp [h']
theorem impl_IsOrderBook_l0 (l : List S78) (hl : l.length ≤ 50) : ∀ d i, i + d = l.length → Ev (fun k => impl_IsOrderBook.l0 k l l (l.length : Int) (i : Int)) (bookRises (prevNo l i) (l.drop i)) := by
  intro d
  induction d with
  | zero =>
    intro i hi
    refine Ev.succ ?_
    simp only [impl_IsOrderBook.l0]
    refine Ev.neg (by omega) (Ev.eq ?_)
    have : l.drop i = [] := List.drop_eq_nil_of_le (by omega)
    rw [this]
    simp [bookRises]
  | succ d ih =>
    intro i hi
    rw [getD_drop l z78 i (by omega)]
    have h3 := ih (i + 1) (by omega)
    have ep : prevNo l (i + 1) = some (l.getD i z78).f0 := by simp [prevNo]
    rw [ep] at h3
    have e1 : wrap64 ((i : Int) + 1) = ((i + 1 : Nat) : Int) := by rw [w64 (by omega) (by omega)]; omega
    refine Ev.succ ?_
    simp only [impl_IsOrderBook.l0, rd_Order]
    refine Ev.pos (by omega) (Ev.pos (by omega) (Ev.pos (by omega) ?_))
    generalize l.getD i z78 = x at h3 ⊢
    simp only [bookRises]
    have em : ∀ y, impl_isMinutes.f y = some (decide (0 ≤ y ∧ y ≤ 100000)) := fun y => by rw [impl_isMinutes.f, impl_inRange_eq]; rfl
    cases hx : orderOk x with
    | false =>
      have hbad : ∀ b c e f : Int, Ev (fun k => impl_IsOrderBook.j1 k l (i : Int) l (l.length : Int) (i : Int) true b c e f) false := fun b c e f => Ev.succ (by simp only [impl_IsOrderBook.j1]; exact Ev.pos (by trivial) (Ev.eq rfl))
      have er : (false && (match prevNo l i with | none => true | some d => decide (d < x.f0)) && bookRises (some x.f0) (l.drop (i + 1))) = false := by simp
      rw [er]
      simp only [orderOk, decide_eq_false_iff_not] at hx
      refine Ev.bind (Ev.eq (impl_inRange_eq _ _ _)) (Ev.ite (fun c1 => Ev.bind (Ev.eq (impl_inRange_eq _ _ _)) (Ev.ite (fun c2 => Ev.bind (Ev.eq (em _)) (Ev.ite (fun c3 => Ev.bind (Ev.eq (impl_inRange_eq _ _ _)) ?_) (fun _ => hbad _ _ _ _))) (fun _ => hbad _ _ _ _))) (fun _ => hbad _ _ _ _))
      simp only [decide_eq_true_eq] at c1 c2 c3
      have e : decide (0 ≤ x.f3 ∧ x.f3 ≤ 5) = false := decide_eq_false (by omega)
      rw [e]
      exact hbad _ _ _ _
    | true =>
      simp only [orderOk, decide_eq_true_eq] at hx
      refine Ev.bind (Ev.eq (impl_inRange_eq _ _ _)) (Ev.pos (by simp; omega) (Ev.bind (Ev.eq (impl_inRange_eq _ _ _)) (Ev.pos (by simp; omega) (Ev.bind (Ev.eq (em _)) (Ev.pos (by simp; omega) (Ev.bind (Ev.eq (impl_inRange_eq _ _ _)) (Ev.succ ?_)))))))
      have e : decide (0 ≤ x.f3 ∧ x.f3 ≤ 5) = true := decide_eq_true (by omega)
      rw [e]
      simp only [impl_IsOrderBook.j1, e1]
      refine Ev.neg (by simp) ?_
      by_cases h0 : i = 0
      · subst h0
        exact Ev.neg (by omega) (h3.cast (by simp [prevNo]))
      · have e2 : wrap64 ((i : Int) - 1) = ((i - 1 : Nat) : Int) := by rw [w64 (by omega) (by omega)]; omega
        rw [e2, rd_Order]
        have eq : prevNo l i = some (l.getD (i - 1) z78).f0 := by rw [prevNo, if_neg h0]
        rw [eq]
        generalize l.getD (i - 1) z78 = y
        refine Ev.pos (by omega) (Ev.pos (by omega) (Ev.pos (by omega) (Ev.ite (fun h => Ev.eq ?_) (fun h => h3.cast ?_))))
        · have h' : ¬ y.f0 < x.f0 := by omega
          simp [h']
        · have h' : y.f0 < x.f0 := by omega
          simp [h']
theorem spec_IsOrderBook_ev {l : List S78} (hl : l.length ≤ 9223372036854775806) : Ev (fun k => spec_IsOrderBook.f k l) (bookOk l) := by
  unfold spec_IsOrderBook.f
  exact spec_IsOrderBook_l0 l hl l.length 0 (by omega)
theorem impl_IsOrderBook_ev {l : List S78} (hl : l.length ≤ 9223372036854775806) : Ev (fun k => impl_IsOrderBook.f k l) (bookOk l) := by
  unfold impl_IsOrderBook.f
  refine Ev.ite (fun h => Ev.eq ?_) (fun h => (impl_IsOrderBook_l0 l (by omega) l.length 0 (by omega)).cast ?_)
  · have : ¬ l.length ≤ 50 := by omega
    simp [bookOk, this]
  · have : l.length ≤ 50 := by omega
    simp [bookOk, this, prevNo]
theorem bookOk_len {l : List S78} (h : bookOk l = true) : l.length ≤ 50 := by
  simp only [bookOk, Bool.and_eq_true, decide_eq_true_eq] at h; exact h.1
end Go.Proofs.Ytanokgpnmbbajaa.PS
end
