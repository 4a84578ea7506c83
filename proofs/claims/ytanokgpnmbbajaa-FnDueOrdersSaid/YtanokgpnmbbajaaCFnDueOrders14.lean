-- Gathered by this session's program wip/tool/shake.py out of its own texts and of what the kit's print and the session's patches of it wrote for this claim.
import Derived.Test.YtanokgpnmbbajaaProg
import Derived.ArgAppend
import Derived.Below
import Derived.BigQuiet
import Derived.Deep.AppendLies
import Derived.Deep.CutBlock
import Derived.Deep.DeepCutAuto
import Derived.Deep.Draws
import Derived.Deep.LoopGhost
import Derived.Deep.OwnRows
import Derived.Deep.QuietTactic
import Derived.Deep.RegionHeld3
import Derived.KernelRfl
import Derived.Laws.BitsLemmas
import Derived.Laws.BytesArg
import Derived.Laws.IdiomCopy
import Derived.Laws.MakeOwn
import Derived.Laws.OwnMore
import Derived.Laws.Rows
import Derived.Laws.Slices
import Derived.Laws.StructEq
import Derived.Lib.AppendStr
import Derived.Lib.ConvBytes
import Derived.Lib.SliceRun
import Derived.Maps.AppendAt
import Derived.OrdersHeld
import Derived.OwnWalk
import Derived.RowKit
import Derived.RowKit3
import Derived.Shelf.SlSortCmp.InsertionK
import Derived.Shelf.SlSortCmp.KitK
import Derived.Sort.LotA
import Derived.Sort.WalkB12
import Derived.Sort.WalkB2
import Derived.Tactics
import Derived.WalkKit
import Derived.WideLaws
import Derived.Test.YtanokgpnmbbajaaCFnDueOrders6
import Derived.Test.YtanokgpnmbbajaaCFnDueOrders7
import Derived.Test.YtanokgpnmbbajaaCFnDueOrders9
import Derived.Test.YtanokgpnmbbajaaCFnDueOrders10
import Derived.Test.YtanokgpnmbbajaaCFnDueOrders13
section
namespace Go.Proofs.Ytanokgpnmbbajaa.PT
open Go.RowKit Go.Proofs.YtanokgpnmbbajaaW.PrintWords Go.Proofs.YtanokgpnmbbajaaW.PrintLast Go.Proofs.YtanokgpnmbbajaaW.PrintMore
attribute [local go_sem] max2_int min2_int max_two min_two max_three min_three max_four min_four   -- for this text's walks alone
set_option linter.unusedVariables false
set_option linter.unusedSimpArgs false
def impl_byDue.enc (x : S78 × Nat) : List Value := [.int .i64 x.1.f0, .int .i64 x.1.f1, .int .i64 x.1.f2, .int .i64 x.1.f3]
theorem impl_byDue.cmp (W : World) (x y : S78 × Nat) : Calls Try.prog 138 (#[.agg (impl_byDue.enc x).toArray, .agg (impl_byDue.enc y).toArray] ++ #[]) W fun e w' => e = .returned (.int .i64 (Go.Proofs.Ytanokgpnmbbajaa.Stab.cmpK (fun p : S78 × Nat => p.1.f2) x y)) ∧ ∃ q os', w' = Go.Sort.grow (W.drewN q) os' := by
  have HG := Aside0.mk (Go.Proofs.Ytanokgpnmbbajaa.RowKk.Grew.refl W)
  show Calls Try.prog 138 #[.agg #[.int .i64 x.1.f0, .int .i64 x.1.f1, .int .i64 x.1.f2, .int .i64 x.1.f3], .agg #[.int .i64 y.1.f0, .int .i64 y.1.f1, .int .i64 y.1.f2, .int .i64 y.1.f3]] W _
  unfold Go.Proofs.Ytanokgpnmbbajaa.Stab.cmpK
  by_cases h1 : x.1.f2 < y.1.f2
  · have b1 : decide (x.1.f2 < y.1.f2) = true := decide_eq_true h1
    rw [if_pos h1]
    clear h1
    go_enter Try.func138, Try.ntmps138
    go_wp2
    repeat (go_quiet (fail); try go_wp2)
    go_ret
    exact ⟨rfl, by show Go.Proofs.Ytanokgpnmbbajaa.RowKk.Grew W _; repeat (first | (with_reducible first | exact HG.out | refine Go.Proofs.Ytanokgpnmbbajaa.RowKk.Grew.alloc ?_ _ | refine Go.Proofs.Ytanokgpnmbbajaa.RowKk.Grew.drewN ?_ _ | refine Go.Proofs.Ytanokgpnmbbajaa.RowKk.Grew.drew ?_) | exact HG.out)⟩
  · have b1 : decide (x.1.f2 < y.1.f2) = false := decide_eq_false h1
    rw [if_neg h1]
    by_cases h2 : y.1.f2 < x.1.f2
    · have b2 : decide (x.1.f2 > y.1.f2) = true := decide_eq_true h2
      have b3 : decide (y.1.f2 < x.1.f2) = true := decide_eq_true h2
      rw [if_pos h2]
      clear h1 h2
      go_enter Try.func138, Try.ntmps138
      go_wp2
      repeat (go_quiet (fail); try go_wp2)
      go_ret
      exact ⟨rfl, by show Go.Proofs.Ytanokgpnmbbajaa.RowKk.Grew W _; repeat (first | (with_reducible first | exact HG.out | refine Go.Proofs.Ytanokgpnmbbajaa.RowKk.Grew.alloc ?_ _ | refine Go.Proofs.Ytanokgpnmbbajaa.RowKk.Grew.drewN ?_ _ | refine Go.Proofs.Ytanokgpnmbbajaa.RowKk.Grew.drew ?_) | exact HG.out)⟩
    · have b2 : decide (x.1.f2 > y.1.f2) = false := decide_eq_false h2
      have b3 : decide (y.1.f2 < x.1.f2) = false := decide_eq_false h2
      rw [if_neg h2]
      clear h1 h2
      go_enter Try.func138, Try.ntmps138
      go_wp2
      repeat (go_quiet (fail); try go_wp2)
      go_ret
      exact ⟨rfl, by show Go.Proofs.Ytanokgpnmbbajaa.RowKk.Grew W _; repeat (first | (with_reducible first | exact HG.out | refine Go.Proofs.Ytanokgpnmbbajaa.RowKk.Grew.alloc ?_ _ | refine Go.Proofs.Ytanokgpnmbbajaa.RowKk.Grew.drewN ?_ _ | refine Go.Proofs.Ytanokgpnmbbajaa.RowKk.Grew.drew ?_) | exact HG.out)⟩
/-- The stable sort of a row that the call owns. -/
theorem impl_byDue.sorts (W : World) (base : Nat) (A0 : Option Addr) (c0 : Nat) (l0 : List S78) (hR : Kd.R k78 78 W base (fun _ => True) (.slice A0 l0.length c0) l0) (hB : base ≤ W.heap.size) (hl : l0.length ≤ 50) :
    Calls Try.prog 137 #[.slice A0 l0.length c0, .func (.func 138) #[] #[]] W fun e w' => e = .returned (.tuple #[]) ∧ Kd.R k78 78 w' base (fun _ => True) (.slice A0 l0.length c0) (l0.mergeSort (Go.Proofs.Ytanokgpnmbbajaa.Stab.byKey fun o : S78 => o.f2)) ∧ Below base W w' := by
  letI : Inhabited S78 := ⟨z78⟩
  rcases Nat.eq_zero_or_pos l0.length with h0 | h0
  · have hnil : l0 = [] := List.length_eq_zero_iff.1 h0
    subst hnil
    refine (Go.Proofs.Ytanokgpnmbbajaa.SortOrder.sortStable_nil Go.Proofs.Ytanokgpnmbbajaa.SortOrder.lays A0 c0 _ W).mono ?_
    rintro e w' ⟨rfl, rfl⟩
    exact ⟨rfl, by simpa using hR, Below.refl _ _⟩
  · obtain ⟨g, cap, eo, hg, hgl, cells, hcells⟩ := Kd.R_form hR h0
    injection eo with ea en ec
    subst ea ec
    have hk : ∀ x : S78, [Value.int .i64 x.f0, .int .i64 x.f1, .int .i64 x.f2, .int .i64 x.f3].length = (k78).sz := fun _ => rfl
    obtain ⟨hH, hlt, hms, _⟩ := Go.Proofs.Ytanokgpnmbbajaa.RowKk.holds_of_R (enc := fun x : S78 => [Value.int .i64 x.f0, .int .i64 x.f1, .int .i64 x.f2, .int .i64 x.f3]) hk (fun _ _ _ _ _ h => k78_openM h) hR (fun p : S78 × Nat => p.1) (Go.Proofs.Ytanokgpnmbbajaa.Stab.tagged l0) (by simp [Go.Proofs.Ytanokgpnmbbajaa.Stab.tagged])
    have hsz : (Go.Proofs.Ytanokgpnmbbajaa.Stab.tagged l0).size = l0.length := Go.Proofs.Ytanokgpnmbbajaa.Stab.tagged_size l0
    have hc := Go.Proofs.Ytanokgpnmbbajaa.SortOrder.sortStable (P := Try.prog) Go.Proofs.Ytanokgpnmbbajaa.SortOrder.lays 4 Try.isAgg78 Try.sizeOf78 impl_byDue.enc (fun p : S78 × Nat => p.1.f2) (fun p => p.2) 138 #[] (enters_fn Try.func138 (by kernel_rfl) rfl) impl_byDue.cmp g 0 c0 (Go.Proofs.Ytanokgpnmbbajaa.Stab.tagged l0) W ⟨fun _ => rfl, fun x v hv => by simp [impl_byDue.enc] at hv; rcases hv with rfl | rfl | rfl | rfl <;> rfl, hH, hlt⟩ (by rw [hsz]; exact hl) (fun x hx => by rw [Go.Proofs.Ytanokgpnmbbajaa.Stab.tagged_get l0 x (by rw [← hsz]; exact hx)])
    rw [hsz] at hc
    refine hc.mono ?_
    rintro e w' ⟨rfl, d', hS, hW⟩
    refine ⟨rfl, ?_, Go.Proofs.Ytanokgpnmbbajaa.RowKk.SWK_below hW hg hB⟩
    have hr := Go.Proofs.Ytanokgpnmbbajaa.RowKk.R_of_SWK (enc := fun x : S78 => [Value.int .i64 x.f0, .int .i64 x.f1, .int .i64 x.f2, .int .i64 x.f3]) hk (fun w b ok x => k78_mkM w b ok x) hR (fun p : S78 × Nat => p.1) d' (by rw [hS.perm.1, hsz]) hW
    rw [Array.toList_map, Go.Proofs.Ytanokgpnmbbajaa.Stab.stable_list (fun o : S78 => o.f2) l0 d' hS] at hr
    exact hr
def impl_byDue.f (l0 : List S78) : Option (List S78) := if l0.length ≤ 50 then some (l0.mergeSort (Go.Proofs.Ytanokgpnmbbajaa.Stab.byKey fun o : S78 => o.f2)) else none
set_option maxHeartbeats 4000000 in
theorem impl_byDue.calls (A0 : Option Addr) (c0 : Nat) (l0 : List S78) (r : List S78) (w : World) (hr0 : Kd.C k78 w A0 l0.length l0) (hc0 : l0.length ≤ c0) (h : impl_byDue.f l0 = some r) :
    Calls Try.prog 122 #[.slice A0 l0.length c0] w fun e w' => ∃ v0_ : Value, e = .returned (v0_) ∧ Kd.R k78 78 w' w.heap.size (fun _ => True) v0_ r ∧ Below w.heap.size w w' := by
  unfold impl_byDue.f at h
  split at h
  · rename_i hlim
    obtain rfl := Option.some.inj h
    clear h
    have HCL := Aside0.mk (show impl_Order_110.f l0 = some l0 by unfold impl_Order_110.f; rw [if_pos (by omega)])
    have HLM := Aside0.mk hlim
    have HR0 := Aside0.mk hr0
    have HC0 := Aside0.mk hc0
    clear hlim hr0 hc0
    go_enter Try.func122, Try.ntmps122
    go_wp2_with (first | (go_at_call 110; (with_reducible refine (impl_Order_110.calls _ c0 l0 l0 _ HR0.out HC0.out HCL.out).mono ?_); rintro e w4 ⟨v0, rfl, hR, hb⟩; have HB := Aside0.mk hb; obtain ⟨Ao, co, eo⟩ := Kd.R_slice hR; subst eo; have HO := Aside0.mk hR; clear hR hb) | (go_at_call 137; (with_reducible refine (impl_byDue.sorts _ w.heap.size _ _ l0 HO.out HB.out.size HLM.out).mono ?_); rintro e w5 ⟨rfl, hR, hb⟩; have HO2 := Aside0.mk hR; have HB2 := Aside0.mk (HB.out.trans hb); clear hR hb))
    go_ret
    exact ⟨_, rfl, HO2.out, HB2.out⟩
  · cases h
end Go.Proofs.Ytanokgpnmbbajaa.PT
end
section
namespace Go.Proofs.Ytanokgpnmbbajaa.PT
open Go.RowKit Go.Proofs.YtanokgpnmbbajaaW.PrintWords Go.Proofs.YtanokgpnmbbajaaW.PrintLast Go.Proofs.YtanokgpnmbbajaaW.PrintMore
attribute [local go_sem] max2_int min2_int max_two min_two max_three min_three max_four min_four   -- for this text's walks alone
set_option linter.unusedVariables false
set_option linter.unusedSimpArgs false
theorem impl_NextDue.pays (w : World) : PaysNow Try.prog 112 #[] (fun x : S78 => Value.agg #[.int .i64 x.f0, .int .i64 x.f1, .int .i64 x.f2, .int .i64 x.f3]) (fun o => decide (o.f3 < 4)) w := fun W x hb => by
  refine (impl_isOpen.calls x.f0 x.f1 x.f2 x.f3 (decide (x.f3 < 4)) W rfl).mono ?_
  rintro e w' ⟨rfl, hb⟩
  exact ⟨rfl, hb⟩
def impl_NextDue.f (k : Nat) (l0 : List S78) : Option (Int × Int) := (impl_IsOrderBook.f k l0).bind fun t => (if t = true then (if l0.length ≤ 50 then (if (((l0.mergeSort (Go.Proofs.Ytanokgpnmbbajaa.Stab.byKey fun o : S78 => o.f2)).filter (fun o => decide (o.f3 < 4))).map (fun o => o.f0)).length = 0 then some (0, 4) else some ((((l0.mergeSort (Go.Proofs.Ytanokgpnmbbajaa.Stab.byKey fun o : S78 => o.f2)).filter (fun o => decide (o.f3 < 4))).map (fun o => o.f0)).getD 0 0, 0)) else none) else some (0, 1))
set_option maxHeartbeats 8000000 in
set_option maxRecDepth 100000 in
theorem impl_NextDue.calls (k : Nat) (A0 : Option Addr) (c0 : Nat) (l0 : List S78) (r1 : Int) (r2 : Int) (w : World) (hr0 : Kd.C k78 w A0 l0.length l0) (hc0 : l0.length ≤ c0) (h : impl_NextDue.f k l0 = some (r1, r2)) :
    Calls Try.prog 69 #[.slice A0 l0.length c0] w fun e w' => e = .returned (.tuple #[.int .i64 r1, .int .i64 r2]) ∧ Below w.heap.size w w' := by
  have ecl : ∀ args w, (callFunc 112 args).run Try.prog w = .ok (.enter 112 args) w := enters_fn Try.func112 (by kernel_rfl) rfl
  have HW := Aside0.mk (Below.refl w.heap.size w)
  have HEC := Aside0.mk ecl
  have HR0 := Aside0.mk hr0
  have HC0 := Aside0.mk hc0
  clear hr0 hc0 ecl
  unfold impl_NextDue.f at h
  obtain ⟨t, h4, H⟩ := Option.bind_eq_some_iff.mp h
  have A4 := Aside0.mk h4
  clear h h4
  cases t with
  | false =>
    obtain ⟨rfl, rfl⟩ : 0 = r1 ∧ 1 = r2 := by simpa using H
    clear H
    go_enter Try.func69, Try.ntmps69
    go_wp2_with (go_at_call 66; (with_reducible refine (impl_IsOrderBook.calls k _ _ l0 false _ ?side1 ?side2 A4.out).mono ?_); (case side1 => exact Kd.C_below HR0.out HW.out); (case side2 => exact HC0.out); rintro e w1 ⟨rfl, hb⟩; have HB1 := Aside0.mk (HW.out.trans (hb.mono HW.out.size)); clear hb)
    go_ret2
    exact ⟨rfl, HB1.out⟩
  | true =>
    rw [if_pos rfl] at H
    by_cases hl : l0.length ≤ 50
    · rw [if_pos hl] at H
      have HLN := Aside0.mk hl
      have A6 := Aside0.mk (show impl_byDue.f l0 = some (l0.mergeSort (Go.Proofs.Ytanokgpnmbbajaa.Stab.byKey fun o : S78 => o.f2)) by unfold impl_byDue.f; rw [if_pos hl])
      have hlen : (l0.mergeSort (Go.Proofs.Ytanokgpnmbbajaa.Stab.byKey fun o : S78 => o.f2)).length = l0.length := by simp
      obtain ⟨ls, hls⟩ : ∃ ls, (l0.mergeSort (Go.Proofs.Ytanokgpnmbbajaa.Stab.byKey fun o : S78 => o.f2)) = ls := ⟨_, rfl⟩
      rw [hls] at hlen A6 H
      have HLS := Aside0.mk hlen
      clear hl hlen hls
      obtain ⟨xs, hxs⟩ : ∃ xs, (ls.filter (fun o => decide (o.f3 < 4))).map (fun o => o.f0) = xs := ⟨_, rfl⟩
      rw [hxs] at H
      have HXS := Aside0.mk hxs
      clear hxs
      by_cases hx0 : xs.length = 0
      · rw [if_pos hx0] at H
        obtain ⟨rfl, rfl⟩ : 0 = r1 ∧ 4 = r2 := by simpa using H
        clear H
        have HX0 := Aside0.mk hx0
        clear hx0
        go_enter Try.func69, Try.ntmps69
        go_wp2_with (first | (go_at_call 66; (with_reducible refine (impl_IsOrderBook.calls k _ _ l0 true _ ?side1 ?side2 A4.out).mono ?_); (case side1 => exact Kd.C_below HR0.out HW.out); (case side2 => exact HC0.out); rintro e w1 ⟨rfl, hb⟩; have HB1 := Aside0.mk (HW.out.trans (hb.mono HW.out.size)); clear hb) | (go_at_call 122; (with_reducible refine (impl_byDue.calls _ c0 l0 ls _ ?side1 HC0.out A6.out).mono ?_); (case side1 => exact Kd.C_below HR0.out HB1.out); rintro e w3 ⟨v0, rfl, hR, hb⟩; have HB3 := Aside0.mk (HB1.out.trans (hb.mono HB1.out.size)); obtain ⟨Ao, co, eo⟩ := Kd.R_slice hR; subst eo; have HO := Aside0.mk hR; clear hR hb) | (go_at_call 121; (with_reducible refine (impl_numbersOf.calls _ _ ls (fun o => decide (o.f3 < 4)) 112 #[] _ (Kd.R_reads' HO.out).2.2 (by have := HLS.out; have := HLN.out; omega) HEC.out (impl_NextDue.pays _)).mono ?_); rintro e w5 ⟨v1, rfl, hR, hb⟩; rw [HXS.out] at hR; obtain ⟨Ax, cx, ex⟩ := Kd.R_slice hR; subst ex; rw [HX0.out]; have HO2 := Aside0.mk hR; have HB5 := Aside0.mk (HB3.out.trans (hb.mono HB3.out.size)); clear hR hb))
        go_ret2
        exact ⟨rfl, HB5.out⟩
      · rw [if_neg hx0] at H
        obtain ⟨hr1, rfl⟩ : xs.getD 0 0 = r1 ∧ 0 = r2 := by injection H with H; injection H with Ha Hb; exact ⟨Ha, Hb⟩
        have HR1 := Aside0.mk hr1
        clear H hr1
        have hxz : ((xs.length : Int) == 0) = false := beq_eq_false_iff_ne.2 (by omega)
        have hxp : (0 : Int) < (xs.length : Int) := by omega
        have hxp2 : (0 < xs.length) = True := eq_true (by omega)
        have hxn : (xs.length = 0) = False := eq_false hx0
        have HXP := Aside0.mk hxp
        clear hx0
        go_enter Try.func69, Try.ntmps69
        go_wp2_with (first | (go_at_call 66; (with_reducible refine (impl_IsOrderBook.calls k _ _ l0 true _ ?side1 ?side2 A4.out).mono ?_); (case side1 => exact Kd.C_below HR0.out HW.out); (case side2 => exact HC0.out); rintro e w1 ⟨rfl, hb⟩; have HB1 := Aside0.mk (HW.out.trans (hb.mono HW.out.size)); clear hb) | (go_at_call 122; (with_reducible refine (impl_byDue.calls _ c0 l0 ls _ ?side1 HC0.out A6.out).mono ?_); (case side1 => exact Kd.C_below HR0.out HB1.out); rintro e w3 ⟨v0, rfl, hR, hb⟩; have HB3 := Aside0.mk (HB1.out.trans (hb.mono HB1.out.size)); obtain ⟨Ao, co, eo⟩ := Kd.R_slice hR; subst eo; have HO := Aside0.mk hR; clear hR hb) | (go_at_call 121; (with_reducible refine (impl_numbersOf.calls _ _ ls (fun o => decide (o.f3 < 4)) 112 #[] _ (Kd.R_reads' HO.out).2.2 (by have := HLS.out; have := HLN.out; omega) HEC.out (impl_NextDue.pays _)).mono ?_); rintro e w5 ⟨v1, rfl, hR, hb⟩; rw [HXS.out] at hR; obtain ⟨Ax, cx, ex⟩ := Kd.R_slice hR; subst ex; obtain ⟨adx, ex2, hcx⟩ := Kd.at_int (Kd.R_reads' hR).2.2 0 (Int.le_refl 0) HXP.out; cases ex2; have hcx0 : World.cell? w5 adx = some (.int .i64 r1) := (by have z := hcx; rw [show adx.add (Int.toNat 0) = adx from by cases adx; rfl] at z; rw [← HR1.out]; exact z); clear hcx; have HO2 := Aside0.mk hR; have HB5 := Aside0.mk (HB3.out.trans (hb.mono HB3.out.size)); clear hR hb))
        go_ret2
        exact ⟨rfl, HB5.out⟩
    · rw [if_neg hl] at H; cases H
end Go.Proofs.Ytanokgpnmbbajaa.PT
end
