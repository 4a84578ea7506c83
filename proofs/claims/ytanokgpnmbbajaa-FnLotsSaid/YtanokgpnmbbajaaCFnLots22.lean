-- Gathered by this session's program wip/tool/shake.py out of its own texts and of what the kit's print and the session's patches of it wrote for this claim.
import Derived.Test.YtanokgpnmbbajaaProg
import Derived.ArgAppend
import Derived.Below
import Derived.BigQuiet
import Derived.Deep.AppendLies
import Derived.Deep.CutBlock
import Derived.Deep.DeepCutAuto
import Derived.Deep.Draws
import Derived.Deep.LoopGhost
import Derived.Deep.OwnRows
import Derived.Deep.QuietTactic
import Derived.Deep.RegionHeld3
import Derived.KernelRfl
import Derived.Laws.BitsLemmas
import Derived.Laws.BytesArg
import Derived.Laws.IdiomCopy
import Derived.Laws.MakeOwn
import Derived.Laws.OwnMore
import Derived.Laws.Rows
import Derived.Laws.Slices
import Derived.Laws.StructEq
import Derived.Lib.AppendStr
import Derived.Lib.ConvBytes
import Derived.Maps.AppendAt
import Derived.OrdersHeld
import Derived.OwnWalk
import Derived.RowKit
import Derived.RowKit3
import Derived.Shelf.SlSortCmp.InsertionK
import Derived.Shelf.SlSortCmp.KitK
import Derived.Sort.LotA
import Derived.Sort.WalkB12
import Derived.Sort.WalkB2
import Derived.Tactics
import Derived.WalkKit
import Derived.WideLaws
import Derived.Test.YtanokgpnmbbajaaCFnLots11
import Derived.Test.YtanokgpnmbbajaaCFnLots20
import Derived.Test.YtanokgpnmbbajaaCFnLots21
section
namespace Go.Proofs.Ytanokgpnmbbajaa.PF
open Go.RowKit Go.Proofs.YtanokgpnmbbajaaW.PrintWords Go.Proofs.YtanokgpnmbbajaaW.PrintLast Go.Proofs.YtanokgpnmbbajaaW.PrintMore
attribute [local go_sem] max2_int min2_int max_two min_two max_three min_three max_four min_four   -- for this text's walks alone
set_option linter.unusedVariables false
set_option linter.unusedSimpArgs false
def impl_JoinStocks.enc (x : S43 × Nat) : List Value := [.int .i64 x.1.f0, .int .i64 x.1.f1, .int .i64 x.1.f2]
theorem impl_JoinStocks.cmp (W : World) (x y : S43 × Nat) : Calls Try.prog 99 (#[.agg (impl_JoinStocks.enc x).toArray, .agg (impl_JoinStocks.enc y).toArray] ++ #[]) W fun e w' => e = .returned (.int .i64 (Go.Proofs.Ytanokgpnmbbajaa.Stab.cmpK (fun p : S43 × Nat => p.1.f2) x y)) ∧ ∃ q os', w' = Go.Sort.grow (W.drewN q) os' := by
  have HG := Aside0.mk (Go.Proofs.Ytanokgpnmbbajaa.RowKk.Grew.refl W)
  show Calls Try.prog 99 #[.agg #[.int .i64 x.1.f0, .int .i64 x.1.f1, .int .i64 x.1.f2], .agg #[.int .i64 y.1.f0, .int .i64 y.1.f1, .int .i64 y.1.f2]] W _
  unfold Go.Proofs.Ytanokgpnmbbajaa.Stab.cmpK
  by_cases h1 : x.1.f2 < y.1.f2
  · have b1 : decide (x.1.f2 < y.1.f2) = true := decide_eq_true h1
    rw [if_pos h1]
    clear h1
    go_enter Try.func99, Try.ntmps99
    go_wp2
    repeat (go_quiet (fail); try go_wp2)
    go_ret
    exact ⟨rfl, by show Go.Proofs.Ytanokgpnmbbajaa.RowKk.Grew W _; repeat (first | (with_reducible first | exact HG.out | refine Go.Proofs.Ytanokgpnmbbajaa.RowKk.Grew.alloc ?_ _ | refine Go.Proofs.Ytanokgpnmbbajaa.RowKk.Grew.drewN ?_ _ | refine Go.Proofs.Ytanokgpnmbbajaa.RowKk.Grew.drew ?_) | exact HG.out)⟩
  · have b1 : decide (x.1.f2 < y.1.f2) = false := decide_eq_false h1
    rw [if_neg h1]
    by_cases h2 : y.1.f2 < x.1.f2
    · have b2 : decide (x.1.f2 > y.1.f2) = true := decide_eq_true h2
      have b3 : decide (y.1.f2 < x.1.f2) = true := decide_eq_true h2
      rw [if_pos h2]
      clear h1 h2
      go_enter Try.func99, Try.ntmps99
      go_wp2
      repeat (go_quiet (fail); try go_wp2)
      go_ret
      exact ⟨rfl, by show Go.Proofs.Ytanokgpnmbbajaa.RowKk.Grew W _; repeat (first | (with_reducible first | exact HG.out | refine Go.Proofs.Ytanokgpnmbbajaa.RowKk.Grew.alloc ?_ _ | refine Go.Proofs.Ytanokgpnmbbajaa.RowKk.Grew.drewN ?_ _ | refine Go.Proofs.Ytanokgpnmbbajaa.RowKk.Grew.drew ?_) | exact HG.out)⟩
    · have b2 : decide (x.1.f2 > y.1.f2) = false := decide_eq_false h2
      have b3 : decide (y.1.f2 < x.1.f2) = false := decide_eq_false h2
      rw [if_neg h2]
      clear h1 h2
      go_enter Try.func99, Try.ntmps99
      go_wp2
      repeat (go_quiet (fail); try go_wp2)
      go_ret
      exact ⟨rfl, by show Go.Proofs.Ytanokgpnmbbajaa.RowKk.Grew W _; repeat (first | (with_reducible first | exact HG.out | refine Go.Proofs.Ytanokgpnmbbajaa.RowKk.Grew.alloc ?_ _ | refine Go.Proofs.Ytanokgpnmbbajaa.RowKk.Grew.drewN ?_ _ | refine Go.Proofs.Ytanokgpnmbbajaa.RowKk.Grew.drew ?_) | exact HG.out)⟩
/-- The stable sort of a row that the call owns. -/
theorem impl_JoinStocks.sorts (W : World) (base : Nat) (A0 : Option Addr) (c0 : Nat) (l0 : List S43) (hR : Kd.R k43 43 W base (fun _ => True) (.slice A0 l0.length c0) l0) (hB : base ≤ W.heap.size) (hl : l0.length ≤ 50) :
    Calls Try.prog 98 #[.slice A0 l0.length c0, .func (.func 99) #[] #[]] W fun e w' => e = .returned (.tuple #[]) ∧ Kd.R k43 43 w' base (fun _ => True) (.slice A0 l0.length c0) (l0.mergeSort (Go.Proofs.Ytanokgpnmbbajaa.Stab.byKey fun o : S43 => o.f2)) ∧ Below base W w' := by
  letI : Inhabited S43 := ⟨z43⟩
  rcases Nat.eq_zero_or_pos l0.length with h0 | h0
  · have hnil : l0 = [] := List.length_eq_zero_iff.1 h0
    subst hnil
    refine (Go.Proofs.Ytanokgpnmbbajaa.SortLot.sortStable_nil Go.Proofs.Ytanokgpnmbbajaa.SortLot.lays A0 c0 _ W).mono ?_
    rintro e w' ⟨rfl, rfl⟩
    exact ⟨rfl, by simpa using hR, Below.refl _ _⟩
  · obtain ⟨g, cap, eo, hg, hgl, cells, hcells⟩ := Kd.R_form hR h0
    injection eo with ea en ec
    subst ea ec
    have hk : ∀ x : S43, [Value.int .i64 x.f0, .int .i64 x.f1, .int .i64 x.f2].length = (k43).sz := fun _ => rfl
    obtain ⟨hH, hlt, hms, _⟩ := Go.Proofs.Ytanokgpnmbbajaa.RowKk.holds_of_R (enc := fun x : S43 => [Value.int .i64 x.f0, .int .i64 x.f1, .int .i64 x.f2]) hk (fun _ _ _ _ _ h => k43_openM h) hR (fun p : S43 × Nat => p.1) (Go.Proofs.Ytanokgpnmbbajaa.Stab.tagged l0) (by simp [Go.Proofs.Ytanokgpnmbbajaa.Stab.tagged])
    have hsz : (Go.Proofs.Ytanokgpnmbbajaa.Stab.tagged l0).size = l0.length := Go.Proofs.Ytanokgpnmbbajaa.Stab.tagged_size l0
    have hc := Go.Proofs.Ytanokgpnmbbajaa.SortLot.sortStable (P := Try.prog) Go.Proofs.Ytanokgpnmbbajaa.SortLot.lays 3 Try.isAgg43 Try.sizeOf43 impl_JoinStocks.enc (fun p : S43 × Nat => p.1.f2) (fun p => p.2) 99 #[] (enters_fn Try.func99 (by kernel_rfl) rfl) impl_JoinStocks.cmp g 0 c0 (Go.Proofs.Ytanokgpnmbbajaa.Stab.tagged l0) W ⟨fun _ => rfl, fun x v hv => by simp [impl_JoinStocks.enc] at hv; rcases hv with rfl | rfl | rfl <;> rfl, hH, hlt⟩ (by rw [hsz]; exact hl) (fun x hx => by rw [Go.Proofs.Ytanokgpnmbbajaa.Stab.tagged_get l0 x (by rw [← hsz]; exact hx)])
    rw [hsz] at hc
    refine hc.mono ?_
    rintro e w' ⟨rfl, d', hS, hW⟩
    refine ⟨rfl, ?_, Go.Proofs.Ytanokgpnmbbajaa.RowKk.SWK_below hW hg hB⟩
    have hr := Go.Proofs.Ytanokgpnmbbajaa.RowKk.R_of_SWK (enc := fun x : S43 => [Value.int .i64 x.f0, .int .i64 x.f1, .int .i64 x.f2]) hk (fun w b ok x => k43_mkM w b ok x) hR (fun p : S43 × Nat => p.1) d' (by rw [hS.perm.1, hsz]) hW
    rw [Array.toList_map, Go.Proofs.Ytanokgpnmbbajaa.Stab.stable_list (fun o : S43 => o.f2) l0 d' hS] at hr
    exact hr
/-- Two slices side by side are a row of two. -/
theorem impl_JoinStocks.pair (W : World) (b t : Nat) (A1 A2 : Option Addr) (c1 c2 : Nat) (x y : List S43) (h1 : Kd.C k43 W A1 x.length x) (h2 : Kd.C k43 W A2 y.length y) (hc1 : x.length ≤ c1) (hc2 : y.length ≤ c2)
    (hb : W.heap[b]? = some (.cells #[.slice A1 x.length c1, .slice A2 y.length c2] t (0, 0))) : Kd.C (Kd.slice 43 k43) W (some ⟨b, 0, none⟩) ([x, y] : List (List S43)).length [x, y] := by
  refine ⟨rfl, by simp, fun _ => ⟨_, rfl, fun j p hj => ?_⟩⟩
  match j, hj with
  | 0, hj =>
    obtain rfl : x = p := by simpa using hj
    refine ⟨[.slice A1 x.length c1], rfl, ⟨A1, c1, rfl, hc1, h1⟩, fun i u hu => ?_⟩
    match i, hu with
    | 0, hu =>
      obtain rfl : Value.slice A1 x.length c1 = u := by simpa using hu
      simp [World.cell?, Addr.add, hb]
  | 1, hj =>
    obtain rfl : y = p := by simpa using hj
    refine ⟨[.slice A2 y.length c2], rfl, ⟨A2, c2, rfl, hc2, h2⟩, fun i u hu => ?_⟩
    match i, hu with
    | 0, hu =>
      obtain rfl : Value.slice A2 y.length c2 = u := by simpa using hu
      have e : (Kd.slice 43 k43).sz = 1 := rfl
      simp [World.cell?, Addr.add, hb, e]
theorem impl_JoinStocks.cat (l0 l1 : List S43) (W : World) (b : Nat) (hr : Kd.C (Kd.slice 43 k43) W (some ⟨b, 0, none⟩) ([l0, l1] : List (List S43)).length [l0, l1]) (hl : (l0 ++ l1).length ≤ 30) :
    Calls Try.prog 97 #[.slice (some ⟨b, 0, none⟩) 2 2] W fun e w' => ∃ v, e = .returned v ∧ Kd.R k43 43 w' W.heap.size (fun _ => True) v (l0 ++ l1) ∧ Below W.heap.size W w' := by
  have hf : ([l0, l1] : List (List S43)).flatten = l0 ++ l1 := by simp
  have h := impl_Lot_97.calls (some ⟨b, 0, none⟩) 2 ([l0, l1] : List (List S43)) W hr (Nat.le_refl _) (by rw [hf]; omega) (by simp)
  rw [hf] at h
  exact h
def impl_JoinStocks.f (k : Nat) (l0 : List S43) (l1 : List S43) : Option (List S43 × Int) := (impl_IsStock.f k l0).bind fun t => (if t = true then ((impl_IsStock.f k l1).bind fun u => (if u = true then (if l0.length ≤ 1000 ∧ l1.length ≤ 1000 then (if (l0.length : Int) + (l1.length : Int) > 30 then some ([], 3) else some ((l0 ++ l1).mergeSort (Go.Proofs.Ytanokgpnmbbajaa.Stab.byKey fun o : S43 => o.f2), 0)) else none) else some ([], 1))) else some ([], 1))
set_option maxHeartbeats 8000000 in
set_option maxRecDepth 100000 in
theorem impl_JoinStocks.calls (k : Nat) (A0 : Option Addr) (c0 : Nat) (l0 : List S43) (A1 : Option Addr) (c1 : Nat) (l1 : List S43) (r1 : List S43) (r2 : Int) (w : World) (hr0 : Kd.C k43 w A0 l0.length l0) (hc0 : l0.length ≤ c0) (hr1 : Kd.C k43 w A1 l1.length l1) (hc1 : l1.length ≤ c1) (h : impl_JoinStocks.f k l0 l1 = some (r1, r2)) :
    Calls Try.prog 35 #[.slice A0 l0.length c0, .slice A1 l1.length c1] w fun e w' => ∃ v0_ : Value, e = .returned (.tuple #[v0_, .int .i64 r2]) ∧ Kd.R k43 43 w' w.heap.size (fun _ => True) v0_ r1 ∧ Below w.heap.size w w' := by
  have HW := Aside0.mk (Below.refl w.heap.size w)
  have HR0 := Aside0.mk hr0
  have HC0 := Aside0.mk hc0
  have HR1 := Aside0.mk hr1
  have HC1 := Aside0.mk hc1
  clear hr0 hc0 hr1 hc1
  unfold impl_JoinStocks.f at h
  obtain ⟨t, h4, H⟩ := Option.bind_eq_some_iff.mp h
  have A4 := Aside0.mk h4
  clear h h4
  cases t with
  | false =>
    obtain ⟨rfl, rfl⟩ : [] = r1 ∧ 1 = r2 := by simpa using H
    clear H
    go_enter Try.func35, Try.ntmps35
    go_wp2_with (go_at_call 42; (with_reducible refine (impl_IsStock.calls k _ _ l0 false _ ?side1 ?side2 A4.out).mono ?_); (case side1 => exact Kd.C_below HR0.out HW.out); (case side2 => exact HC0.out); rintro e w1 ⟨rfl, hb⟩; have HB1 := Aside0.mk (HW.out.trans (hb.mono HW.out.size)); clear hb)
    go_ret2
    exact ⟨_, rfl, Kd.R_nil _ _ _ _ _, HB1.out⟩
  | true =>
    rw [if_pos rfl] at H
    obtain ⟨u, h5, H⟩ := Option.bind_eq_some_iff.mp H
    have A5 := Aside0.mk h5
    clear h5
    cases u with
    | false =>
      obtain ⟨rfl, rfl⟩ : [] = r1 ∧ 1 = r2 := by simpa using H
      clear H
      go_enter Try.func35, Try.ntmps35
      go_wp2_with (first | (go_at_call 42; (with_reducible refine (impl_IsStock.calls k _ _ l0 true _ ?side1 ?side2 A4.out).mono ?_); (case side1 => exact Kd.C_below HR0.out HW.out); (case side2 => exact HC0.out); rintro e w1 ⟨rfl, hb⟩; have HB1 := Aside0.mk (HW.out.trans (hb.mono HW.out.size)); clear hb) | (go_at_call 42; (with_reducible refine (impl_IsStock.calls k _ _ l1 false _ ?side1 ?side2 A5.out).mono ?_); (case side1 => exact Kd.C_below HR1.out HB1.out); (case side2 => exact HC1.out); rintro e w2 ⟨rfl, hb⟩; have HB2 := Aside0.mk (HB1.out.trans (hb.mono HB1.out.size)); clear hb))
      go_ret2
      exact ⟨_, rfl, Kd.R_nil _ _ _ _ _, HB2.out⟩
    | true =>
      rw [if_pos rfl] at H
      by_cases hl : l0.length ≤ 1000 ∧ l1.length ≤ 1000
      · rw [if_pos hl] at H
        have hw : wrap64 ((l0.length : Int) + (l1.length : Int)) = (l0.length : Int) + (l1.length : Int) := by unfold wrap64; omega
        by_cases hg : (l0.length : Int) + (l1.length : Int) > 30
        · rw [if_pos hg] at H
          obtain ⟨rfl, rfl⟩ : [] = r1 ∧ 3 = r2 := by simpa using H
          have b0 : decide ((l0.length : Int) + (l1.length : Int) > 30) = true := decide_eq_true hg
          have b1 : decide (30 < (l0.length : Int) + (l1.length : Int)) = true := decide_eq_true hg
          clear H hl hg
          go_enter Try.func35, Try.ntmps35
          go_wp2_with (first | (go_at_call 42; (with_reducible refine (impl_IsStock.calls k _ _ l0 true _ ?side1 ?side2 A4.out).mono ?_); (case side1 => exact Kd.C_below HR0.out HW.out); (case side2 => exact HC0.out); rintro e w1 ⟨rfl, hb⟩; have HB1 := Aside0.mk (HW.out.trans (hb.mono HW.out.size)); clear hb) | (go_at_call 42; (with_reducible refine (impl_IsStock.calls k _ _ l1 true _ ?side1 ?side2 A5.out).mono ?_); (case side1 => exact Kd.C_below HR1.out HB1.out); (case side2 => exact HC1.out); rintro e w2 ⟨rfl, hb⟩; have HB2 := Aside0.mk (HB1.out.trans (hb.mono HB1.out.size)); clear hb))
          go_ret2
          exact ⟨_, rfl, Kd.R_nil _ _ _ _ _, HB2.out⟩
        · rw [if_neg hg] at H
          obtain ⟨rfl, rfl⟩ : (l0 ++ l1).mergeSort (Go.Proofs.Ytanokgpnmbbajaa.Stab.byKey fun o : S43 => o.f2) = r1 ∧ 0 = r2 := by simpa using H
          have b0 : decide ((l0.length : Int) + (l1.length : Int) > 30) = false := decide_eq_false hg
          have b1 : decide (30 < (l0.length : Int) + (l1.length : Int)) = false := decide_eq_false hg
          have hll : (l0 ++ l1).length ≤ 30 := by rw [List.length_append]; omega
          obtain ⟨ls, hls⟩ : ∃ ls, l0 ++ l1 = ls := ⟨_, rfl⟩
          rw [hls] at hll
          have HLS := Aside0.mk hls
          have HLL := Aside0.mk hll
          clear H hl hg hll hls
          go_enter Try.func35, Try.ntmps35
          go_wp2_with (first | (go_at_call 42; (with_reducible refine (impl_IsStock.calls k _ _ l0 true _ ?side1 ?side2 A4.out).mono ?_); (case side1 => exact Kd.C_below HR0.out HW.out); (case side2 => exact HC0.out); rintro e w1 ⟨rfl, hb⟩; have HB1 := Aside0.mk (HW.out.trans (hb.mono HW.out.size)); clear hb) | (go_at_call 42; (with_reducible refine (impl_IsStock.calls k _ _ l1 true _ ?side1 ?side2 A5.out).mono ?_); (case side1 => exact Kd.C_below HR1.out HB1.out); (case side2 => exact HC1.out); rintro e w2 ⟨rfl, hb⟩; have HB2 := Aside0.mk (HB1.out.trans (hb.mono HB1.out.size)); clear hb) | (go_at_call 97; (with_reducible refine (impl_JoinStocks.cat l0 l1 _ _ ?side1 (by rw [HLS.out]; exact HLL.out)).mono ?_); (case side1 => exact impl_JoinStocks.pair _ _ 24 _ _ _ _ _ _ (Kd.C_below HR0.out (HB2.out.alloc HB2.out.size _)) (Kd.C_below HR1.out (HB2.out.alloc HB2.out.size _)) HC0.out HC1.out (by first | exact World.heap_alloc_new _ _ | exact heap_alloc_new _ _ | simp [World.alloc])); rintro e w4 ⟨v0, rfl, hR, hb⟩; rw [HLS.out] at hR; have HB4 := Aside0.mk ((HB2.out.alloc HB2.out.size _).trans (hb.mono (HB2.out.alloc HB2.out.size _).size)); obtain ⟨Ao, co, eo⟩ := Kd.R_slice hR; subst eo; have HO := Aside0.mk (Kd.R_lower hR (HB2.out.alloc HB2.out.size _).size); clear hR hb) | (go_at_call 98; (with_reducible refine (impl_JoinStocks.sorts _ w.heap.size _ _ ls HO.out HB4.out.size (by have := HLL.out; omega)).mono ?_); rintro e w5 ⟨rfl, hR, hb⟩; have HO2 := Aside0.mk hR; have HB5 := Aside0.mk (HB4.out.trans hb); clear hR hb))
          go_ret2
          exact ⟨_, rfl, by rw [HLS.out]; exact HO2.out, HB5.out⟩
      · rw [if_neg hl] at H; cases H
end Go.Proofs.Ytanokgpnmbbajaa.PF
end
