-- Gathered by this session's program wip/tool/shake.py out of its own texts and of what the kit's print and the session's patches of it wrote for this claim.
import Derived.Test.YtanokgpnmbbajaaProg
import Derived.ArgAppend
import Derived.Below
import Derived.BigQuiet
import Derived.Deep.AppendLies
import Derived.Deep.CutBlock
import Derived.Deep.DeepCutAuto
import Derived.Deep.Draws
import Derived.Deep.LoopGhost
import Derived.Deep.OwnRows
import Derived.Deep.QuietTactic
import Derived.Deep.RegionHeld3
import Derived.KernelRfl
import Derived.Laws.BitsLemmas
import Derived.Laws.BytesArg
import Derived.Laws.IdiomCopy
import Derived.Laws.MakeOwn
import Derived.Laws.OwnMore
import Derived.Laws.Rows
import Derived.Laws.Slices
import Derived.Laws.StructEq
import Derived.Lib.AppendStr
import Derived.Lib.ConvBytes
import Derived.Lib.SliceRun
import Derived.Maps.AppendAt
import Derived.OrdersHeld
import Derived.OwnWalk
import Derived.RowKit
import Derived.RowKit3
import Derived.Shelf.SlSortCmp.InsertionK
import Derived.Shelf.SlSortCmp.KitK
import Derived.Sort.LotA
import Derived.Sort.WalkB12
import Derived.Sort.WalkB2
import Derived.Tactics
import Derived.WalkKit
import Derived.WideLaws
import Derived.Test.YtanokgpnmbbajaaCFnDueOrders6
import Derived.Test.YtanokgpnmbbajaaCFnDueOrders7
import Derived.Test.YtanokgpnmbbajaaCFnDueOrders10
import Derived.Test.YtanokgpnmbbajaaCFnDueOrders14
section
namespace Go.Proofs.Ytanokgpnmbbajaa.PT
open Go.RowKit Go.Proofs.YtanokgpnmbbajaaW.PrintWords Go.Proofs.YtanokgpnmbbajaaW.PrintLast Go.Proofs.YtanokgpnmbbajaaW.PrintMore
attribute [local go_sem] max2_int min2_int max_two min_two max_three min_three max_four min_four   -- for this text's walks alone
set_option linter.unusedVariables false
set_option linter.unusedSimpArgs false
theorem impl_LateOrders.pays (a1 : Int) (B1 : Nat) (w : World) (h1 : B1 < w.heap.size) (g1 : w.cell? ⟨B1, 0, none⟩ = some (.int .i64 a1)) :
    PaysNow Try.prog 123 #[.pointer (some ⟨B1, 0, none⟩)] (fun x : S78 => Value.agg #[.int .i64 x.f0, .int .i64 x.f1, .int .i64 x.f2, .int .i64 x.f3]) (fun o => decide (o.f3 < 4) && decide (o.f2 < a1)) w := fun W x hb => by
  have k1 : W.cell? ⟨B1, 0, none⟩ = some (.int .i64 a1) := (hb.cell (p := ⟨B1, 0, none⟩) h1).trans g1
  have k2 := fun o : Obj => (((Below.refl W.heap.size W).alloc (Nat.le_refl _) o).cell (p := ⟨B1, 0, none⟩) (World.block_lt_of_cell? W _ k1)).trans k1
  have k3 := fun o o2 : Obj => ((((Below.refl W.heap.size W).alloc (Nat.le_refl _) o).alloc (by simp) o2).cell (p := ⟨B1, 0, none⟩) (World.block_lt_of_cell? W _ k1)).trans k1
  clear g1 h1
  clear hb
  have HB := Aside0.mk (Below.refl W.heap.size W)
  show Calls Try.prog 123 #[.agg #[.int .i64 x.f0, .int .i64 x.f1, .int .i64 x.f2, .int .i64 x.f3], .pointer (some ⟨B1, 0, none⟩)] W _
  by_cases h0 : x.f3 < 4
  · have b0 : decide (x.f3 < 4) = true := decide_eq_true h0
    clear h0
    by_cases h1 : x.f2 < a1
    · have b1 : decide (x.f2 < a1) = true := decide_eq_true h1
      clear h1
      have HD := Aside0.mk (show (decide (x.f3 < 4) && decide (x.f2 < a1)) = true by first | (simp only [b0, b1]; done) | (simp only [b0, b1]; rfl))
      go_enter Try.func123, Try.ntmps123
      go_wp2
      repeat (go_quiet (fail); try go_wp2)
      go_ret
      exact ⟨ret_b (by first | exact HD.out.symm | rfl), by repeat (first | (with_reducible first | exact HB.out | apply below_alloc | apply pw_below_drewN | apply below_drew1) | exact HB.out)⟩
    · have b1 : decide (x.f2 < a1) = false := decide_eq_false h1
      clear h1
      have HD := Aside0.mk (show (decide (x.f3 < 4) && decide (x.f2 < a1)) = false by first | (simp only [b0, b1]; done) | (simp only [b0, b1]; rfl))
      go_enter Try.func123, Try.ntmps123
      go_wp2
      repeat (go_quiet (fail); try go_wp2)
      go_ret
      exact ⟨ret_b (by first | exact HD.out.symm | rfl), by repeat (first | (with_reducible first | exact HB.out | apply below_alloc | apply pw_below_drewN | apply below_drew1) | exact HB.out)⟩
  · have b0 : decide (x.f3 < 4) = false := decide_eq_false h0
    clear h0
    by_cases h1 : x.f2 < a1
    · have b1 : decide (x.f2 < a1) = true := decide_eq_true h1
      clear h1
      have HD := Aside0.mk (show (decide (x.f3 < 4) && decide (x.f2 < a1)) = false by first | (simp only [b0, b1]; done) | (simp only [b0, b1]; rfl))
      go_enter Try.func123, Try.ntmps123
      go_wp2
      repeat (go_quiet (fail); try go_wp2)
      go_ret
      exact ⟨ret_b (by first | exact HD.out.symm | rfl), by repeat (first | (with_reducible first | exact HB.out | apply below_alloc | apply pw_below_drewN | apply below_drew1) | exact HB.out)⟩
    · have b1 : decide (x.f2 < a1) = false := decide_eq_false h1
      clear h1
      have HD := Aside0.mk (show (decide (x.f3 < 4) && decide (x.f2 < a1)) = false by first | (simp only [b0, b1]; done) | (simp only [b0, b1]; rfl))
      go_enter Try.func123, Try.ntmps123
      go_wp2
      repeat (go_quiet (fail); try go_wp2)
      go_ret
      exact ⟨ret_b (by first | exact HD.out.symm | rfl), by repeat (first | (with_reducible first | exact HB.out | apply below_alloc | apply pw_below_drewN | apply below_drew1) | exact HB.out)⟩
def impl_LateOrders.f (k : Nat) (l0 : List S78) (a1 : Int) : Option (List Int × Int) := (impl_IsOrderBook.f k l0).bind fun t => (if t = true then ((impl_isMinutes.f a1).bind fun m => (if m = true then (if l0.length ≤ 50 then some (((l0.mergeSort (Go.Proofs.Ytanokgpnmbbajaa.Stab.byKey fun o : S78 => o.f2)).filter (fun o => decide (o.f3 < 4) && decide (o.f2 < a1))).map (fun o => o.f0), 0) else none) else some ([], 2))) else some ([], 1))
set_option maxHeartbeats 8000000 in
set_option maxRecDepth 100000 in
theorem impl_LateOrders.calls (k : Nat) (A0 : Option Addr) (c0 : Nat) (l0 : List S78) (a1 : Int) (r1 : List Int) (r2 : Int) (w : World) (hr0 : Kd.C k78 w A0 l0.length l0) (hc0 : l0.length ≤ c0) (h : impl_LateOrders.f k l0 a1 = some (r1, r2)) :
    Calls Try.prog 71 #[.slice A0 l0.length c0, .int .i64 a1] w fun e w' => ∃ v0_ : Value, e = .returned (.tuple #[v0_, .int .i64 r2]) ∧ Kd.R (Kd.int .i64) 2 w' w.heap.size (fun _ => True) v0_ r1 ∧ Below w.heap.size w w' := by
  have ecl : ∀ args w, (callFunc 123 args).run Try.prog w = .ok (.enter 123 args) w := enters_fn Try.func123 (by kernel_rfl) rfl
  have HW := Aside0.mk ((Below.refl _ w).alloc (Nat.le_refl w.heap.size) (.cells #[.int .i64 a1] 2))
  have HCE := Aside0.mk (show (w.alloc (.cells #[.int .i64 a1] 2)).cell? ⟨w.heap.size, 0, none⟩ = some (.int .i64 a1) by simp)
  have HSZ := Aside0.mk (show w.heap.size < (w.alloc (.cells #[.int .i64 a1] 2)).heap.size by simp)
  have HEC := Aside0.mk ecl
  have HR0 := Aside0.mk hr0
  have HC0 := Aside0.mk hc0
  clear hr0 hc0 ecl
  unfold impl_LateOrders.f at h
  obtain ⟨t, h4, H⟩ := Option.bind_eq_some_iff.mp h
  have A4 := Aside0.mk h4
  clear h h4
  cases t with
  | false =>
    obtain ⟨rfl, rfl⟩ : [] = r1 ∧ 1 = r2 := by simpa using H
    clear H
    go_enter Try.func71, Try.ntmps71
    go_wp2_with (go_at_call 66; (with_reducible refine (impl_IsOrderBook.calls k _ _ l0 false _ ?side1 ?side2 A4.out).mono ?_); (case side1 => exact Kd.C_below HR0.out HW.out); (case side2 => exact HC0.out); rintro e w1 ⟨rfl, hb⟩; have HB1 := Aside0.mk (HW.out.trans (hb.mono (Nat.le_of_lt HSZ.out))); have HG1 := Aside0.mk ((hb.cell (p := ⟨w.heap.size, 0, none⟩) HSZ.out).trans HCE.out); have hg1 := HG1.out; have HN1 := Aside0.mk (Nat.lt_of_lt_of_le HSZ.out hb.size); clear hb)
    go_ret2
    exact ⟨_, rfl, Kd.R_nil _ _ _ _ _, HB1.out⟩
  | true =>
    rw [if_pos rfl] at H
    obtain ⟨m, h5, H⟩ := Option.bind_eq_some_iff.mp H
    have A5 := Aside0.mk h5
    clear h5
    cases m with
    | false =>
      obtain ⟨rfl, rfl⟩ : [] = r1 ∧ 2 = r2 := by simpa using H
      clear H
      go_enter Try.func71, Try.ntmps71
      go_wp2_with (first | (go_at_call 66; (with_reducible refine (impl_IsOrderBook.calls k _ _ l0 true _ ?side1 ?side2 A4.out).mono ?_); (case side1 => exact Kd.C_below HR0.out HW.out); (case side2 => exact HC0.out); rintro e w1 ⟨rfl, hb⟩; have HB1 := Aside0.mk (HW.out.trans (hb.mono (Nat.le_of_lt HSZ.out))); have HG1 := Aside0.mk ((hb.cell (p := ⟨w.heap.size, 0, none⟩) HSZ.out).trans HCE.out); have hg1 := HG1.out; have HN1 := Aside0.mk (Nat.lt_of_lt_of_le HSZ.out hb.size); clear hb) | (go_at_call 82; (with_reducible refine (impl_isMinutes.calls a1 false _ A5.out).mono ?_); rintro e w2 ⟨rfl, ⟨nd, rfl⟩⟩; have HB2 := Aside0.mk (pw_below_drewN HB1.out nd); have HG2 := Aside0.mk (show World.cell? (World.drewN w1 nd) ⟨w.heap.size, 0, none⟩ = some (.int .i64 a1) from HG1.out); have HN2 := Aside0.mk (show w.heap.size < (World.drewN w1 nd).heap.size from HN1.out)))
      go_ret2
      exact ⟨_, rfl, Kd.R_nil _ _ _ _ _, HB2.out⟩
    | true =>
      rw [if_pos rfl] at H
      by_cases hl : l0.length ≤ 50
      · rw [if_pos hl] at H
        obtain ⟨rfl, rfl⟩ : (((l0.mergeSort (Go.Proofs.Ytanokgpnmbbajaa.Stab.byKey fun o : S78 => o.f2)).filter (fun o => decide (o.f3 < 4) && decide (o.f2 < a1))).map (fun o => o.f0)) = r1 ∧ 0 = r2 := by simpa using H
        clear H
        have HLN := Aside0.mk hl
        have A6 := Aside0.mk (show impl_byDue.f l0 = some (l0.mergeSort (Go.Proofs.Ytanokgpnmbbajaa.Stab.byKey fun o : S78 => o.f2)) by unfold impl_byDue.f; rw [if_pos hl])
        have hlen : (l0.mergeSort (Go.Proofs.Ytanokgpnmbbajaa.Stab.byKey fun o : S78 => o.f2)).length = l0.length := by simp
        obtain ⟨ls, hls⟩ : ∃ ls, (l0.mergeSort (Go.Proofs.Ytanokgpnmbbajaa.Stab.byKey fun o : S78 => o.f2)) = ls := ⟨_, rfl⟩
        rw [hls] at hlen A6 ⊢
        have HLS := Aside0.mk hlen
        clear hl hlen hls
        go_enter Try.func71, Try.ntmps71
        go_wp2_with (first | (go_at_call 66; (with_reducible refine (impl_IsOrderBook.calls k _ _ l0 true _ ?side1 ?side2 A4.out).mono ?_); (case side1 => exact Kd.C_below HR0.out HW.out); (case side2 => exact HC0.out); rintro e w1 ⟨rfl, hb⟩; have HB1 := Aside0.mk (HW.out.trans (hb.mono (Nat.le_of_lt HSZ.out))); have HG1 := Aside0.mk ((hb.cell (p := ⟨w.heap.size, 0, none⟩) HSZ.out).trans HCE.out); have hg1 := HG1.out; have HN1 := Aside0.mk (Nat.lt_of_lt_of_le HSZ.out hb.size); clear hb) | (go_at_call 82; (with_reducible refine (impl_isMinutes.calls a1 true _ A5.out).mono ?_); rintro e w2 ⟨rfl, ⟨nd, rfl⟩⟩; have HB2 := Aside0.mk (pw_below_drewN HB1.out nd); have HG2 := Aside0.mk (show World.cell? (World.drewN w1 nd) ⟨w.heap.size, 0, none⟩ = some (.int .i64 a1) from HG1.out); have HN2 := Aside0.mk (show w.heap.size < (World.drewN w1 nd).heap.size from HN1.out)) | (go_at_call 122; (with_reducible refine (impl_byDue.calls _ c0 l0 ls _ ?side1 HC0.out A6.out).mono ?_); (case side1 => exact Kd.C_below HR0.out HB2.out); rintro e w3 ⟨v0, rfl, hR, hb⟩; have HB3 := Aside0.mk (HB2.out.trans (hb.mono HB2.out.size)); have HG3 := Aside0.mk ((hb.cell (p := ⟨w.heap.size, 0, none⟩) HN2.out).trans HG2.out); have HN3 := Aside0.mk (Nat.lt_of_lt_of_le HN2.out hb.size); obtain ⟨Ao, co, eo⟩ := Kd.R_slice hR; subst eo; have HO := Aside0.mk hR; clear hR hb) | (go_at_call 121; (with_reducible refine (impl_numbersOf.calls _ _ ls (fun o => decide (o.f3 < 4) && decide (o.f2 < a1)) 123 #[.pointer (some ⟨w.heap.size, 0, none⟩)] _ (Kd.R_reads' HO.out).2.2 (by have := HLS.out; have := HLN.out; omega) HEC.out (impl_LateOrders.pays a1 w.heap.size _ HN3.out HG3.out)).mono ?_); rintro e w5 ⟨v1, rfl, hR, hb⟩; have HO2 := Aside0.mk (Kd.R_lower hR HB3.out.size); have HB5 := Aside0.mk (HB3.out.trans (hb.mono HB3.out.size)); clear hR hb))
        go_ret2
        exact ⟨_, rfl, HO2.out, HB5.out⟩
      · rw [if_neg hl] at H; cases H
end Go.Proofs.Ytanokgpnmbbajaa.PT
end
