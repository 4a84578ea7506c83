-- Gathered by this session's program wip/tool/shake.py out of its own texts and of what the kit's print and the session's patches of it wrote for this claim.
import Derived.Test.YtanokgpnmbbajaaProg
import Derived.ArgAppend
import Derived.Below
import Derived.BigQuiet
import Derived.Deep.AppendLies
import Derived.Deep.CutBlock
import Derived.Deep.DeepCutAuto
import Derived.Deep.Draws
import Derived.Deep.LoopGhost
import Derived.Deep.OwnRows
import Derived.Deep.QuietTactic
import Derived.Deep.RegionHeld3
import Derived.KernelRfl
import Derived.Laws.BitsLemmas
import Derived.Laws.BytesArg
import Derived.Laws.IdiomCopy
import Derived.Laws.MakeOwn
import Derived.Laws.OwnMore
import Derived.Laws.Rows
import Derived.Laws.Slices
import Derived.Laws.StructEq
import Derived.Lib.AppendStr
import Derived.Lib.ConvBytes
import Derived.Lib.SliceRun
import Derived.Maps.AppendAt
import Derived.OrdersHeld
import Derived.OwnWalk
import Derived.RowKit
import Derived.RowKit3
import Derived.Shelf.SlSortCmp.KitK
import Derived.Tactics
import Derived.WalkKit
import Derived.WideLaws
import Derived.Test.YtanokgpnmbbajaaCFnOrderBooks7
import Derived.Test.YtanokgpnmbbajaaCFnOrderBooks10
import Derived.Test.YtanokgpnmbbajaaCFnOrderBooks11
import Derived.Test.YtanokgpnmbbajaaCFnOrderBooks12
section
namespace Go.Proofs.Ytanokgpnmbbajaa.PT
open Go.RowKit Go.Proofs.YtanokgpnmbbajaaW.PrintWords Go.Proofs.YtanokgpnmbbajaaW.PrintLast Go.Proofs.YtanokgpnmbbajaaW.PrintMore
attribute [local go_sem] max2_int min2_int max_two min_two max_three min_three max_four min_four   -- for this text's walks alone
set_option linter.unusedVariables false
set_option linter.unusedSimpArgs false
theorem impl_changed_1.pays (a1 : Int) (B1 : Nat) (w : World) (h1 : B1 < w.heap.size) (g1 : w.cell? ⟨B1, 0, none⟩ = some (.int .i64 a1)) :
    PaysAt Try.prog 135 #[.pointer (some ⟨B1, 0, none⟩)] (fun x : S78 => Value.agg #[.int .i64 x.f0, .int .i64 x.f1, .int .i64 x.f2, .int .i64 x.f3]) (fun o => decide (o.f0 = a1)) w := fun W x hb => by
  have k1 : W.cell? ⟨B1, 0, none⟩ = some (.int .i64 a1) := (hb.cell (p := ⟨B1, 0, none⟩) h1).trans g1
  have k2 := fun o : Obj => (((Below.refl W.heap.size W).alloc (Nat.le_refl _) o).cell (p := ⟨B1, 0, none⟩) (World.block_lt_of_cell? W _ k1)).trans k1
  clear g1 h1
  have HB := Aside0.mk hb
  clear hb
  show Calls Try.prog 135 #[.agg #[.int .i64 x.f0, .int .i64 x.f1, .int .i64 x.f2, .int .i64 x.f3], .pointer (some ⟨B1, 0, none⟩)] W _
  by_cases h : x.f0 = a1
  · have e1 : (x.f0 == a1) = true := beq_iff_eq.mpr h
    have HD := Aside0.mk (decide_eq_true h)
    clear h
    go_enter Try.func135, Try.ntmps135
    go_wp2
    repeat (go_quiet (fail); try go_wp2)
    go_ret
    exact ⟨ret_b HD.out.symm, by repeat (first | (with_reducible first | exact HB.out | apply below_alloc | apply pw_below_drewN | apply below_drew1) | exact HB.out)⟩
  · have e1 : (x.f0 == a1) = false := beq_eq_false_iff_ne.mpr h
    have HD := Aside0.mk (decide_eq_false h)
    clear h
    go_enter Try.func135, Try.ntmps135
    go_wp2
    repeat (go_quiet (fail); try go_wp2)
    go_ret
    exact ⟨ret_b HD.out.symm, by repeat (first | (with_reducible first | exact HB.out | apply below_alloc | apply pw_below_drewN | apply below_drew1) | exact HB.out)⟩
def impl_changed.f (k : Nat) (l0 : List S78) (a1 : Int) (nx : Int → Int) : Option (List S78 × Int) := (impl_IsOrderBook.f k l0).bind fun t => (if t = true then (if firstAt (fun o : S78 => decide (o.f0 = a1)) l0 0 < 0 then some ([], 4) else (if (rd_T78 l0 (firstAt (fun o : S78 => decide (o.f0 = a1)) l0 0)).f3 < 4 then (if l0.length ≤ 4398046511104 then some (l0.set (firstAt (fun o : S78 => decide (o.f0 = a1)) l0 0).toNat (⟨(rd_T78 l0 (firstAt (fun o : S78 => decide (o.f0 = a1)) l0 0)).f0, (rd_T78 l0 (firstAt (fun o : S78 => decide (o.f0 = a1)) l0 0)).f1, (rd_T78 l0 (firstAt (fun o : S78 => decide (o.f0 = a1)) l0 0)).f2, nx (rd_T78 l0 (firstAt (fun o : S78 => decide (o.f0 = a1)) l0 0)).f3⟩ : S78), 0) else none) else some ([], 5))) else some ([], 1))
theorem firstAt_lt {α : Type} (p : α → Bool) : ∀ (l : List α) (i : Int), 0 ≤ i → firstAt p l i < i + l.length
  | [], i, h => by simp [firstAt]; omega
  | x :: xs, i, h => by
    have := firstAt_lt p xs (i + 1) (by omega)
    simp only [firstAt, List.length_cons]
    split <;> omega
theorem firstAt_neg {α : Type} (p : α → Bool) : ∀ (l : List α) (i : Int), 0 ≤ i → firstAt p l i = -1 ∨ i ≤ firstAt p l i
  | [], i, h => .inl rfl
  | x :: xs, i, h => by
    have := firstAt_neg p xs (i + 1) (by omega)
    simp only [firstAt]
    split
    · right; omega
    · rcases this with h | h
      · exact .inl h
      · right; omega
set_option maxHeartbeats 8000000 in
set_option maxRecDepth 100000 in
theorem impl_changed.calls (k : Nat) (A0 : Option Addr) (c0 : Nat) (l0 : List S78) (a1 : Int) (g : Nat) (nx : Int → Int) (r1 : List S78) (r2 : Int) (w : World) (hr0 : Kd.C k78 w A0 l0.length l0) (hc0 : l0.length ≤ c0)
    (eg : ∀ args w, (callFunc g args).run Try.prog w = .ok (.enter g args) w) (hn : ∀ (W : World) (x : Int), Calls Try.prog g #[.int .i64 x] W fun e w' => e = .returned (.int .i64 (nx x)) ∧ Below W.heap.size W w')
    (h : impl_changed.f k l0 a1 nx = some (r1, r2)) :
    Calls Try.prog 115 #[.slice A0 l0.length c0, .int .i64 a1, .func (.func g) #[] #[]] w fun e w' => ∃ v0_ : Value, e = .returned (.tuple #[v0_, .int .i64 r2]) ∧ Kd.R k78 78 w' w.heap.size (fun _ => True) v0_ r1 ∧ Below w.heap.size w w' := by
  have hu78 := Try.underlying78
  have HC0 := Aside0.mk hc0
  clear hc0
  have e135 : ∀ args w, (callFunc 135 args).run Try.prog w = .ok (.enter 135 args) w := enters_fn Try.func135 (by kernel_rfl) rfl
  have hW : Below w.heap.size w (w.alloc (.cells #[.int .i64 a1] 2)) := (Below.refl _ w).alloc (Nat.le_refl _) _
  have hcell : (w.alloc (.cells #[.int .i64 a1] 2)).cell? ⟨w.heap.size, 0, none⟩ = some (.int .i64 a1) := by simp
  have hsz : w.heap.size < (w.alloc (.cells #[.int .i64 a1] 2)).heap.size := by simp
  unfold impl_changed.f at h
  obtain ⟨ix, hix⟩ : ∃ j, firstAt (fun o : S78 => decide (o.f0 = a1)) l0 0 = j := ⟨_, rfl⟩
  have hlt : ix < (l0.length : Int) := by have := firstAt_lt (fun o : S78 => decide (o.f0 = a1)) l0 0 (Int.le_refl 0); omega
  have hlow := firstAt_neg (fun o : S78 => decide (o.f0 = a1)) l0 0 (Int.le_refl 0)
  rw [hix] at hlow
  have hidx : ∀ W : World, Below w.heap.size w W → w.heap.size < W.heap.size → W.cell? ⟨w.heap.size, 0, none⟩ = some (.int .i64 a1) → Calls Try.prog 133 #[.slice A0 l0.length c0, .func (.func 135) #[] #[.pointer (some ⟨w.heap.size, 0, none⟩)]] W fun e w' => e = .returned (.int .i64 ix) ∧ Below W.heap.size W w' := fun W h1 h2 h3 => by
    rw [← hix]
    exact slices_IndexFunc_Order.calls A0 c0 l0 (fun o : S78 => decide (o.f0 = a1)) 135 #[.pointer (some ⟨w.heap.size, 0, none⟩)] W (Kd.C_below hr0 h1) e135 (impl_changed_1.pays a1 w.heap.size W h2 h3)
  rw [hix] at h
  have HIX := Aside0.mk hidx
  have HR0 := Aside0.mk hr0
  have HW := Aside0.mk hW
  have HCE := Aside0.mk hcell
  have HSZ := Aside0.mk hsz
  have HN := Aside0.mk hn
  clear hidx hr0 hW hcell hsz hn hix
  have H : ((impl_IsOrderBook.f k l0).bind fun t => (if t = true then (if ix < 0 then some ([], 4) else (if (rd_T78 l0 ix).f3 < 4 then (if l0.length ≤ 4398046511104 then some (l0.set ix.toNat (⟨(rd_T78 l0 ix).f0, (rd_T78 l0 ix).f1, (rd_T78 l0 ix).f2, nx (rd_T78 l0 ix).f3⟩ : S78), 0) else none) else some ([], 5))) else some ([], 1))) = some (r1, r2) := h
  clear h
  replace H := Option.bind_eq_some_iff.mp H
  obtain ⟨t, A40, H⟩ := H
  replace H : (if t = true then (if ix < 0 then some ([], 4) else (if (rd_T78 l0 ix).f3 < 4 then (if l0.length ≤ 4398046511104 then some (l0.set ix.toNat (⟨(rd_T78 l0 ix).f0, (rd_T78 l0 ix).f1, (rd_T78 l0 ix).f2, nx (rd_T78 l0 ix).f3⟩ : S78), 0) else none) else some ([], 5))) else some ([], 1)) = some (r1, r2) := H
  have A4 := Aside0.mk A40
  clear A40
  cases t with
  | false =>
    have H2 : some (([] : List S78), (1 : Int)) = some (r1, r2) := H
    clear H
    obtain ⟨rfl, rfl⟩ : [] = r1 ∧ 1 = r2 := by simpa using H2
    clear H2 hlt hlow
    go_enter Try.func115, Try.ntmps115
    go_wp2_with (first | (go_at_call 66; (with_reducible refine (impl_IsOrderBook.calls k _ _ l0 false _ ?side1 ?side2 A4.out).mono ?_); (case side1 => exact Kd.C_below HR0.out HW.out); (case side2 => exact HC0.out); rintro e w1 ⟨rfl, hb⟩; have HB := Aside0.mk (HW.out.trans (hb.mono (Nat.le_of_lt HSZ.out))); clear hb))
    go_ret2
    exact ⟨_, rfl, Kd.R_nil _ _ _ _ _, HB.out⟩
  | true =>
    have H2 : (if ix < 0 then some ([], 4) else (if (rd_T78 l0 ix).f3 < 4 then (if l0.length ≤ 4398046511104 then some (l0.set ix.toNat (⟨(rd_T78 l0 ix).f0, (rd_T78 l0 ix).f1, (rd_T78 l0 ix).f2, nx (rd_T78 l0 ix).f3⟩ : S78), (0 : Int)) else none) else some ([], 5))) = some (r1, r2) := H
    clear H
    by_cases c1 : ix < 0
    · rw [if_pos c1] at H2
      obtain ⟨rfl, rfl⟩ : [] = r1 ∧ 4 = r2 := by simpa using H2
      have b1 : decide (ix < 0) = true := decide_eq_true c1
      clear H2 hlt hlow c1
      go_enter Try.func115, Try.ntmps115
      go_wp2_with (first | (go_at_call 66; (with_reducible refine (impl_IsOrderBook.calls k _ _ l0 true _ ?side1 ?side2 A4.out).mono ?_); (case side1 => exact Kd.C_below HR0.out HW.out); (case side2 => exact HC0.out); rintro e w1 ⟨rfl, hb⟩; have HB1 := Aside0.mk (HW.out.trans (hb.mono (Nat.le_of_lt HSZ.out))); have HG1 := Aside0.mk ((hb.cell (p := ⟨w.heap.size, 0, none⟩) HSZ.out).trans HCE.out); have HN1 := Aside0.mk (Nat.lt_of_lt_of_le HSZ.out hb.size); clear hb) | (go_at_call 133; (with_reducible refine (HIX.out _ HB1.out HN1.out HG1.out).mono ?_); rintro e w2 ⟨rfl, hb⟩; have HB2 := Aside0.mk (HB1.out.trans (hb.mono (Nat.le_of_lt HN1.out))); clear hb))
      repeat (go_quiet (first | (go_at_call 66; (with_reducible refine (impl_IsOrderBook.calls k _ _ l0 true _ ?side1 ?side2 A4.out).mono ?_); (case side1 => exact Kd.C_below HR0.out HW.out); (case side2 => exact HC0.out); rintro e w1 ⟨rfl, hb⟩; have HB1 := Aside0.mk (HW.out.trans (hb.mono (Nat.le_of_lt HSZ.out))); have HG1 := Aside0.mk ((hb.cell (p := ⟨w.heap.size, 0, none⟩) HSZ.out).trans HCE.out); have HN1 := Aside0.mk (Nat.lt_of_lt_of_le HSZ.out hb.size); clear hb) | (go_at_call 133; (with_reducible refine (HIX.out _ HB1.out HN1.out HG1.out).mono ?_); rintro e w2 ⟨rfl, hb⟩; have HB2 := Aside0.mk (HB1.out.trans (hb.mono (Nat.le_of_lt HN1.out))); clear hb)); try go_wp2_with (first | (go_at_call 66; (with_reducible refine (impl_IsOrderBook.calls k _ _ l0 true _ ?side1 ?side2 A4.out).mono ?_); (case side1 => exact Kd.C_below HR0.out HW.out); (case side2 => exact HC0.out); rintro e w1 ⟨rfl, hb⟩; have HB1 := Aside0.mk (HW.out.trans (hb.mono (Nat.le_of_lt HSZ.out))); have HG1 := Aside0.mk ((hb.cell (p := ⟨w.heap.size, 0, none⟩) HSZ.out).trans HCE.out); have HN1 := Aside0.mk (Nat.lt_of_lt_of_le HSZ.out hb.size); clear hb) | (go_at_call 133; (with_reducible refine (HIX.out _ HB1.out HN1.out HG1.out).mono ?_); rintro e w2 ⟨rfl, hb⟩; have HB2 := Aside0.mk (HB1.out.trans (hb.mono (Nat.le_of_lt HN1.out))); clear hb)))
      go_ret2
      exact ⟨_, rfl, Kd.R_nil _ _ _ _ _, HB2.out⟩
    · rw [if_neg c1] at H2
      have b1 : decide (ix < 0) = false := decide_eq_false c1
      have p0 : (0 ≤ ix) = True := eq_true (by omega)
      have p1 : (ix < (l0.length : Int)) = True := eq_true hlt
      have HL := Aside0.mk hlt
      clear c1 hlow hlt
      by_cases c2 : (rd_T78 l0 ix).f3 < 4
      · rw [if_pos c2] at H2
        have A11 := Aside0.mk (show impl_isOpen.f (rd_T78 l0 ix).f0 (rd_T78 l0 ix).f1 (rd_T78 l0 ix).f2 (rd_T78 l0 ix).f3 = some true by unfold impl_isOpen.f; rw [decide_eq_true c2])
        clear c2
        by_cases c3 : l0.length ≤ 4398046511104
        · rw [if_pos c3] at H2
          have HCL := Aside0.mk (show impl_Order_110.f l0 = some l0 by unfold impl_Order_110.f; rw [if_pos c3])
          clear c3
          obtain ⟨rfl, rfl⟩ : l0.set ix.toNat (⟨(rd_T78 l0 ix).f0, (rd_T78 l0 ix).f1, (rd_T78 l0 ix).f2, nx (rd_T78 l0 ix).f3⟩ : S78) = r1 ∧ 0 = r2 := by simpa using H2
          clear H2
          go_enter Try.func115, Try.ntmps115
          go_wp2_with (first | (go_at_call 66; (with_reducible refine (impl_IsOrderBook.calls k _ _ l0 true _ ?side1 ?side2 A4.out).mono ?_); (case side1 => exact Kd.C_below HR0.out HW.out); (case side2 => exact HC0.out); rintro e w1 ⟨rfl, hb⟩; have HB1 := Aside0.mk (HW.out.trans (hb.mono (Nat.le_of_lt HSZ.out))); have HG1 := Aside0.mk ((hb.cell (p := ⟨w.heap.size, 0, none⟩) HSZ.out).trans HCE.out); have HN1 := Aside0.mk (Nat.lt_of_lt_of_le HSZ.out hb.size); clear hb) | (go_at_call 133; (with_reducible refine (HIX.out _ HB1.out HN1.out HG1.out).mono ?_); rintro e w2 ⟨rfl, hb⟩; have HB2 := Aside0.mk (HB1.out.trans (hb.mono (Nat.le_of_lt HN1.out))); clear hb; obtain ⟨ad, e, hx0, hx1, hx2, hx3⟩ := at_T78 (Kd.C_below HR0.out HB2.out) ix (of_eq_true p0) (of_eq_true p1); cases e) | (go_at_call 112; (with_reducible refine (impl_isOpen.calls _ _ _ _ true _ A11.out).mono ?_); rintro e w3 ⟨rfl, hb⟩; have HB3 := Aside0.mk (HB2.out.trans (hb.mono HB2.out.size)); clear hb hx0 hx1 hx2 hx3) | (go_at_call 110; (with_reducible refine (impl_Order_110.calls _ c0 l0 l0 _ (Kd.C_below HR0.out HB3.out) HC0.out HCL.out).mono ?_); rintro e w4 ⟨v0, rfl, hR, hb⟩; have HB4 := Aside0.mk (HB3.out.trans (hb.mono HB3.out.size)); have HO := Aside0.mk (Kd.R_lower hR HB3.out.size); clear hb hR; obtain ⟨Ao, co, eo⟩ := Kd.R_slice HO.out; subst eo; obtain ⟨go15, co15, eo15, gb15, gl15, cl15, HG15⟩ := Kd.R_form HO.out (by have h1_ := HL.out; have h2_ := of_eq_true p0; omega); (first | cases eo15 | (injection eo15 with ea_ en_ ec_; (first | subst ea_ | (injection ea_ with ea_; subst ea_)); subst ec_; clear en_)); have GB15 := Aside0.mk gb15; clear gb15 gl15 HG15; obtain ⟨ce15, hcl15, hM15, hcc15, hfr15⟩ := Kd.R_elem HO.out z78 ix (of_eq_true p0) (of_eq_true p1); obtain rfl := k78_openM hM15; have hx15_3 : w4.cell? ⟨go15, ix.toNat * 4 + 3, none⟩ = some (.int .i64 ((rd_T78 l0 ix).f3)) := hcc15 3 _ rfl; clear hcl15 hcc15 hfr15 hM15) | ((with_reducible refine (HN.out _ _).mono ?_); rintro e w5 ⟨rfl, hb⟩; have HB5 := Aside0.mk (HB4.out.trans (hb.mono HB4.out.size)); have HO5 := Aside0.mk (Kd.R_below HO.out hb); clear hb hx15_3; obtain ⟨ce32, hcl32, hM32, hcc32, hfr32⟩ := Kd.R_elem HO5.out z78 ix (of_eq_true p0) (of_eq_true p1); obtain rfl := k78_openM hM32; have HP32 := Kd.R_seg HO5.out ix (of_eq_true p0) (of_eq_true p1) (seg := [.int .i64 (nx (rd_T78 l0 ix).f3)]) (j := 3) hcl32 hcc32 (show 4 ≤ 4 from by decide) (x' := (⟨(rd_T78 l0 ix).f0, (rd_T78 l0 ix).f1, (rd_T78 l0 ix).f2, nx (rd_T78 l0 ix).f3⟩ : S78)) (k78_mkM _ _ _ (⟨(rd_T78 l0 ix).f0, (rd_T78 l0 ix).f1, (rd_T78 l0 ix).f2, nx (rd_T78 l0 ix).f3⟩ : S78)) (fun _ hk => hk); have hx32_3 := hcc32 3 _ rfl; (try simp only [show (k78).sz = 4 from rfl, Nat.mul_one, Nat.add_zero] at hx32_3); have hf32_3 := hfr32 3; (try simp only [show (k78).sz = 4 from rfl, Nat.mul_one, Nat.add_zero] at hf32_3); clear hcl32 hcc32 hfr32 hM32))
          repeat (go_quiet (first | (go_at_call 66; (with_reducible refine (impl_IsOrderBook.calls k _ _ l0 true _ ?side1 ?side2 A4.out).mono ?_); (case side1 => exact Kd.C_below HR0.out HW.out); (case side2 => exact HC0.out); rintro e w1 ⟨rfl, hb⟩; have HB1 := Aside0.mk (HW.out.trans (hb.mono (Nat.le_of_lt HSZ.out))); have HG1 := Aside0.mk ((hb.cell (p := ⟨w.heap.size, 0, none⟩) HSZ.out).trans HCE.out); have HN1 := Aside0.mk (Nat.lt_of_lt_of_le HSZ.out hb.size); clear hb) | (go_at_call 133; (with_reducible refine (HIX.out _ HB1.out HN1.out HG1.out).mono ?_); rintro e w2 ⟨rfl, hb⟩; have HB2 := Aside0.mk (HB1.out.trans (hb.mono (Nat.le_of_lt HN1.out))); clear hb; obtain ⟨ad, e, hx0, hx1, hx2, hx3⟩ := at_T78 (Kd.C_below HR0.out HB2.out) ix (of_eq_true p0) (of_eq_true p1); cases e) | (go_at_call 112; (with_reducible refine (impl_isOpen.calls _ _ _ _ true _ A11.out).mono ?_); rintro e w3 ⟨rfl, hb⟩; have HB3 := Aside0.mk (HB2.out.trans (hb.mono HB2.out.size)); clear hb hx0 hx1 hx2 hx3) | (go_at_call 110; (with_reducible refine (impl_Order_110.calls _ c0 l0 l0 _ (Kd.C_below HR0.out HB3.out) HC0.out HCL.out).mono ?_); rintro e w4 ⟨v0, rfl, hR, hb⟩; have HB4 := Aside0.mk (HB3.out.trans (hb.mono HB3.out.size)); have HO := Aside0.mk (Kd.R_lower hR HB3.out.size); clear hb hR; obtain ⟨Ao, co, eo⟩ := Kd.R_slice HO.out; subst eo; obtain ⟨go15, co15, eo15, gb15, gl15, cl15, HG15⟩ := Kd.R_form HO.out (by have h1_ := HL.out; have h2_ := of_eq_true p0; omega); (first | cases eo15 | (injection eo15 with ea_ en_ ec_; (first | subst ea_ | (injection ea_ with ea_; subst ea_)); subst ec_; clear en_)); have GB15 := Aside0.mk gb15; clear gb15 gl15 HG15; obtain ⟨ce15, hcl15, hM15, hcc15, hfr15⟩ := Kd.R_elem HO.out z78 ix (of_eq_true p0) (of_eq_true p1); obtain rfl := k78_openM hM15; have hx15_3 : w4.cell? ⟨go15, ix.toNat * 4 + 3, none⟩ = some (.int .i64 ((rd_T78 l0 ix).f3)) := hcc15 3 _ rfl; clear hcl15 hcc15 hfr15 hM15) | ((with_reducible refine (HN.out _ _).mono ?_); rintro e w5 ⟨rfl, hb⟩; have HB5 := Aside0.mk (HB4.out.trans (hb.mono HB4.out.size)); have HO5 := Aside0.mk (Kd.R_below HO.out hb); clear hb hx15_3; obtain ⟨ce32, hcl32, hM32, hcc32, hfr32⟩ := Kd.R_elem HO5.out z78 ix (of_eq_true p0) (of_eq_true p1); obtain rfl := k78_openM hM32; have HP32 := Kd.R_seg HO5.out ix (of_eq_true p0) (of_eq_true p1) (seg := [.int .i64 (nx (rd_T78 l0 ix).f3)]) (j := 3) hcl32 hcc32 (show 4 ≤ 4 from by decide) (x' := (⟨(rd_T78 l0 ix).f0, (rd_T78 l0 ix).f1, (rd_T78 l0 ix).f2, nx (rd_T78 l0 ix).f3⟩ : S78)) (k78_mkM _ _ _ (⟨(rd_T78 l0 ix).f0, (rd_T78 l0 ix).f1, (rd_T78 l0 ix).f2, nx (rd_T78 l0 ix).f3⟩ : S78)) (fun _ hk => hk); have hx32_3 := hcc32 3 _ rfl; (try simp only [show (k78).sz = 4 from rfl, Nat.mul_one, Nat.add_zero] at hx32_3); have hf32_3 := hfr32 3; (try simp only [show (k78).sz = 4 from rfl, Nat.mul_one, Nat.add_zero] at hf32_3); clear hcl32 hcc32 hfr32 hM32)); try go_wp2_with (first | (go_at_call 66; (with_reducible refine (impl_IsOrderBook.calls k _ _ l0 true _ ?side1 ?side2 A4.out).mono ?_); (case side1 => exact Kd.C_below HR0.out HW.out); (case side2 => exact HC0.out); rintro e w1 ⟨rfl, hb⟩; have HB1 := Aside0.mk (HW.out.trans (hb.mono (Nat.le_of_lt HSZ.out))); have HG1 := Aside0.mk ((hb.cell (p := ⟨w.heap.size, 0, none⟩) HSZ.out).trans HCE.out); have HN1 := Aside0.mk (Nat.lt_of_lt_of_le HSZ.out hb.size); clear hb) | (go_at_call 133; (with_reducible refine (HIX.out _ HB1.out HN1.out HG1.out).mono ?_); rintro e w2 ⟨rfl, hb⟩; have HB2 := Aside0.mk (HB1.out.trans (hb.mono (Nat.le_of_lt HN1.out))); clear hb; obtain ⟨ad, e, hx0, hx1, hx2, hx3⟩ := at_T78 (Kd.C_below HR0.out HB2.out) ix (of_eq_true p0) (of_eq_true p1); cases e) | (go_at_call 112; (with_reducible refine (impl_isOpen.calls _ _ _ _ true _ A11.out).mono ?_); rintro e w3 ⟨rfl, hb⟩; have HB3 := Aside0.mk (HB2.out.trans (hb.mono HB2.out.size)); clear hb hx0 hx1 hx2 hx3) | (go_at_call 110; (with_reducible refine (impl_Order_110.calls _ c0 l0 l0 _ (Kd.C_below HR0.out HB3.out) HC0.out HCL.out).mono ?_); rintro e w4 ⟨v0, rfl, hR, hb⟩; have HB4 := Aside0.mk (HB3.out.trans (hb.mono HB3.out.size)); have HO := Aside0.mk (Kd.R_lower hR HB3.out.size); clear hb hR; obtain ⟨Ao, co, eo⟩ := Kd.R_slice HO.out; subst eo; obtain ⟨go15, co15, eo15, gb15, gl15, cl15, HG15⟩ := Kd.R_form HO.out (by have h1_ := HL.out; have h2_ := of_eq_true p0; omega); (first | cases eo15 | (injection eo15 with ea_ en_ ec_; (first | subst ea_ | (injection ea_ with ea_; subst ea_)); subst ec_; clear en_)); have GB15 := Aside0.mk gb15; clear gb15 gl15 HG15; obtain ⟨ce15, hcl15, hM15, hcc15, hfr15⟩ := Kd.R_elem HO.out z78 ix (of_eq_true p0) (of_eq_true p1); obtain rfl := k78_openM hM15; have hx15_3 : w4.cell? ⟨go15, ix.toNat * 4 + 3, none⟩ = some (.int .i64 ((rd_T78 l0 ix).f3)) := hcc15 3 _ rfl; clear hcl15 hcc15 hfr15 hM15) | ((with_reducible refine (HN.out _ _).mono ?_); rintro e w5 ⟨rfl, hb⟩; have HB5 := Aside0.mk (HB4.out.trans (hb.mono HB4.out.size)); have HO5 := Aside0.mk (Kd.R_below HO.out hb); clear hb hx15_3; obtain ⟨ce32, hcl32, hM32, hcc32, hfr32⟩ := Kd.R_elem HO5.out z78 ix (of_eq_true p0) (of_eq_true p1); obtain rfl := k78_openM hM32; have HP32 := Kd.R_seg HO5.out ix (of_eq_true p0) (of_eq_true p1) (seg := [.int .i64 (nx (rd_T78 l0 ix).f3)]) (j := 3) hcl32 hcc32 (show 4 ≤ 4 from by decide) (x' := (⟨(rd_T78 l0 ix).f0, (rd_T78 l0 ix).f1, (rd_T78 l0 ix).f2, nx (rd_T78 l0 ix).f3⟩ : S78)) (k78_mkM _ _ _ (⟨(rd_T78 l0 ix).f0, (rd_T78 l0 ix).f1, (rd_T78 l0 ix).f2, nx (rd_T78 l0 ix).f3⟩ : S78)) (fun _ hk => hk); have hx32_3 := hcc32 3 _ rfl; (try simp only [show (k78).sz = 4 from rfl, Nat.mul_one, Nat.add_zero] at hx32_3); have hf32_3 := hfr32 3; (try simp only [show (k78).sz = 4 from rfl, Nat.mul_one, Nat.add_zero] at hf32_3); clear hcl32 hcc32 hfr32 hM32)))
          go_ret2
          exact ⟨_, rfl, HP32.1, below_set HB5.out GB15.out⟩
        · rw [if_neg c3] at H2; cases H2
      · rw [if_neg c2] at H2
        have A11 := Aside0.mk (show impl_isOpen.f (rd_T78 l0 ix).f0 (rd_T78 l0 ix).f1 (rd_T78 l0 ix).f2 (rd_T78 l0 ix).f3 = some false by unfold impl_isOpen.f; rw [decide_eq_false c2])
        clear c2
        obtain ⟨rfl, rfl⟩ : [] = r1 ∧ 5 = r2 := by simpa using H2
        clear H2
        go_enter Try.func115, Try.ntmps115
        go_wp2_with (first | (go_at_call 66; (with_reducible refine (impl_IsOrderBook.calls k _ _ l0 true _ ?side1 ?side2 A4.out).mono ?_); (case side1 => exact Kd.C_below HR0.out HW.out); (case side2 => exact HC0.out); rintro e w1 ⟨rfl, hb⟩; have HB1 := Aside0.mk (HW.out.trans (hb.mono (Nat.le_of_lt HSZ.out))); have HG1 := Aside0.mk ((hb.cell (p := ⟨w.heap.size, 0, none⟩) HSZ.out).trans HCE.out); have HN1 := Aside0.mk (Nat.lt_of_lt_of_le HSZ.out hb.size); clear hb) | (go_at_call 133; (with_reducible refine (HIX.out _ HB1.out HN1.out HG1.out).mono ?_); rintro e w2 ⟨rfl, hb⟩; have HB2 := Aside0.mk (HB1.out.trans (hb.mono (Nat.le_of_lt HN1.out))); clear hb; obtain ⟨ad, e, hx0, hx1, hx2, hx3⟩ := at_T78 (Kd.C_below HR0.out HB2.out) ix (of_eq_true p0) (of_eq_true p1); cases e) | (go_at_call 112; (with_reducible refine (impl_isOpen.calls _ _ _ _ false _ A11.out).mono ?_); rintro e w3 ⟨rfl, hb⟩; have HB3 := Aside0.mk (HB2.out.trans (hb.mono HB2.out.size)); clear hb hx0 hx1 hx2 hx3))
        repeat (go_quiet (first | (go_at_call 66; (with_reducible refine (impl_IsOrderBook.calls k _ _ l0 true _ ?side1 ?side2 A4.out).mono ?_); (case side1 => exact Kd.C_below HR0.out HW.out); (case side2 => exact HC0.out); rintro e w1 ⟨rfl, hb⟩; have HB1 := Aside0.mk (HW.out.trans (hb.mono (Nat.le_of_lt HSZ.out))); have HG1 := Aside0.mk ((hb.cell (p := ⟨w.heap.size, 0, none⟩) HSZ.out).trans HCE.out); have HN1 := Aside0.mk (Nat.lt_of_lt_of_le HSZ.out hb.size); clear hb) | (go_at_call 133; (with_reducible refine (HIX.out _ HB1.out HN1.out HG1.out).mono ?_); rintro e w2 ⟨rfl, hb⟩; have HB2 := Aside0.mk (HB1.out.trans (hb.mono (Nat.le_of_lt HN1.out))); clear hb; obtain ⟨ad, e, hx0, hx1, hx2, hx3⟩ := at_T78 (Kd.C_below HR0.out HB2.out) ix (of_eq_true p0) (of_eq_true p1); cases e) | (go_at_call 112; (with_reducible refine (impl_isOpen.calls _ _ _ _ false _ A11.out).mono ?_); rintro e w3 ⟨rfl, hb⟩; have HB3 := Aside0.mk (HB2.out.trans (hb.mono HB2.out.size)); clear hb hx0 hx1 hx2 hx3)); try go_wp2_with (first | (go_at_call 66; (with_reducible refine (impl_IsOrderBook.calls k _ _ l0 true _ ?side1 ?side2 A4.out).mono ?_); (case side1 => exact Kd.C_below HR0.out HW.out); (case side2 => exact HC0.out); rintro e w1 ⟨rfl, hb⟩; have HB1 := Aside0.mk (HW.out.trans (hb.mono (Nat.le_of_lt HSZ.out))); have HG1 := Aside0.mk ((hb.cell (p := ⟨w.heap.size, 0, none⟩) HSZ.out).trans HCE.out); have HN1 := Aside0.mk (Nat.lt_of_lt_of_le HSZ.out hb.size); clear hb) | (go_at_call 133; (with_reducible refine (HIX.out _ HB1.out HN1.out HG1.out).mono ?_); rintro e w2 ⟨rfl, hb⟩; have HB2 := Aside0.mk (HB1.out.trans (hb.mono (Nat.le_of_lt HN1.out))); clear hb; obtain ⟨ad, e, hx0, hx1, hx2, hx3⟩ := at_T78 (Kd.C_below HR0.out HB2.out) ix (of_eq_true p0) (of_eq_true p1); cases e) | (go_at_call 112; (with_reducible refine (impl_isOpen.calls _ _ _ _ false _ A11.out).mono ?_); rintro e w3 ⟨rfl, hb⟩; have HB3 := Aside0.mk (HB2.out.trans (hb.mono HB2.out.size)); clear hb hx0 hx1 hx2 hx3)))
        go_ret2
        exact ⟨_, rfl, Kd.R_nil _ _ _ _ _, HB3.out⟩
end Go.Proofs.Ytanokgpnmbbajaa.PT
end
section
namespace Go.Proofs.Ytanokgpnmbbajaa.PT
open Go.RowKit Go.Proofs.YtanokgpnmbbajaaW.PrintWords Go.Proofs.YtanokgpnmbbajaaW.PrintLast Go.Proofs.YtanokgpnmbbajaaW.PrintMore
attribute [local go_sem] max2_int min2_int max_two min_two max_three min_three max_four min_four   -- for this text's walks alone
set_option linter.unusedVariables false
set_option linter.unusedSimpArgs false
def impl_AdvanceOrder.f (k : Nat) (l0 : List S78) (a1 : Int) : Option (List S78 × Int) := impl_changed.f k l0 a1 (fun s => wrap64 (s + 1))
theorem impl_AdvanceOrder.next (W : World) (x : Int) : Calls Try.prog 116 #[.int .i64 x] W fun e w' => e = .returned (.int .i64 ((fun s => wrap64 (s + 1)) x)) ∧ Below W.heap.size W w' := by
  have HB := Aside0.mk (Below.refl W.heap.size W)
  go_enter Try.func116, Try.ntmps116
  go_wp2
  repeat (go_quiet (fail); try go_wp2)
  go_ret
  exact ⟨rfl, by repeat (first | (with_reducible first | exact HB.out | apply below_alloc | apply pw_below_drewN | apply below_drew1) | exact HB.out)⟩
set_option maxHeartbeats 4000000 in
theorem impl_AdvanceOrder.calls (k : Nat) (A0 : Option Addr) (c0 : Nat) (l0 : List S78) (a1 : Int) (r1 : List S78) (r2 : Int) (w : World) (hr0 : Kd.C k78 w A0 l0.length l0) (hc0 : l0.length ≤ c0) (h : impl_AdvanceOrder.f k l0 a1 = some (r1, r2)) :
    Calls Try.prog 58 #[.slice A0 l0.length c0, .int .i64 a1] w fun e w' => ∃ v0_ : Value, e = .returned (.tuple #[v0_, .int .i64 r2]) ∧ Kd.R k78 78 w' w.heap.size (fun _ => True) v0_ r1 ∧ Below w.heap.size w w' := by
  have eg : ∀ args w, (callFunc 116 args).run Try.prog w = .ok (.enter 116 args) w := enters_fn Try.func116 (by kernel_rfl) rfl
  have HCO := Aside0.mk (impl_changed.calls k A0 c0 l0 a1 116 (fun s => wrap64 (s + 1)) r1 r2 w hr0 hc0 eg impl_AdvanceOrder.next h)
  clear hr0 hc0 h eg
  go_enter Try.func58, Try.ntmps58
  go_wp2_with (go_at_call 115; refine HCO.out.mono ?_; rintro e w' ⟨v0, rfl, hR, hb⟩)
  go_ret2
  exact ⟨_, rfl, hR, hb⟩
def spec_DropOrder.f (k : Nat) (l0 : List (S78)) (a1 : Int) : Option ((List (S78)) × Int) := (spec_l24Set.f k l0 a1 5).bind fun bt206 => (some (bt206.1, bt206.2))
set_option maxHeartbeats 8000000 in
set_option maxRecDepth 100000 in
theorem spec_DropOrder.calls (k : Nat) (A0 : Option Addr) (c0 : Nat) (l0 : List (S78)) (a1 : Int) (r1 : List (S78)) (r2 : Int) (w : World) (hr0 : Kd.C k78 w A0 l0.length l0) (hc0 : l0.length ≤ c0) (h : spec_DropOrder.f k l0 a1 = some (r1, r2)) :
    Calls Try.prog 59 #[.slice A0 l0.length c0, .int .i64 a1] w fun e w' => ∃ v0_ : Value, e = .returned (.tuple #[v0_, .int .i64 r2]) ∧ Kd.R k78 78 w' w.heap.size (fun _ => True) v0_ r1 ∧ Below w.heap.size w w' := by
  have HR0 := Aside0.mk hr0
  have HC0 := Aside0.mk hc0
  clear hr0 hc0
  have HB := Aside0.mk (Below.refl w.heap.size w)
  have H : ((spec_l24Set.f k l0 a1 5).bind fun bt206 => (some (bt206.1, bt206.2))) = some (r1, r2) := h
  clear h
  replace H := Option.bind_eq_some_iff.mp H
  obtain ⟨⟨t206, t207⟩, A30, H⟩ := H
  replace H : (some (t206, t207)) = some (r1, r2) := H
  have A3 := Aside0.mk A30
  clear A30
  simp only [Option.some.injEq, Prod.mk.injEq] at H
  obtain ⟨rfl, rfl⟩ := H
  go_enter Try.func59, Try.ntmps59
  go_wp2_with (first | ((with_reducible refine gate_callee (f := 114) rfl ?_); refine goesL_ (some 8) rfl rfl Try.func114 (by kernel_rfl) rfl #[.slice A0 l0.length c0, .int .i64 a1, .int .i64 5] rfl (by (try simp only [List.map_toArray, List.map_cons, List.map_nil]); first | done | rfl | (simp only [List.length_drop, List.length_take]; rfl)) ?_; (with_reducible refine (spec_l24Set.calls k _ _ l0 a1 5 t206 t207 _ ?side1 ?side2 A3.out).mono ?_); (case side1 => repeat (first | exact HR0.out | (with_reducible refine Kd.C_alloc ?_ _) | (with_reducible refine Kd.C_drewN ?_ _) | (with_reducible refine Kd.C_drew ?_))); (case side2 => exact HC0.out); rintro e w4 ⟨v208, rfl, ho0, hb⟩; refine ⟨_, rfl, ?_⟩; have n0_ := Aside0.mk (Kd.R_lower ho0 (below_size (by repeat (first | (with_reducible first | exact HB.out | apply below_alloc | apply pw_below_drewN | apply below_drew1) | exact HB.out)))); have n1_ := Aside0.mk (below_step (by repeat (first | (with_reducible first | exact HB.out | apply below_alloc | apply pw_below_drewN | apply below_drew1) | exact HB.out)) hb); clear HB; have HO209 := n0_; have HB := n1_; clear n0_ n1_; (try clear hb); (try clear hb2); (try clear hk); (try clear hi); (try clear ho0)))
  go_ret2
  exact ⟨_, by first | rfl | (simp [errW_none, errW_some] <;> rfl) | (simp [*, errW_none, errW_some] <;> rfl), by (with_reducible repeat (first | apply Kd.R_alloc | apply Kd.R_drewN | apply Kd.R_drew)); exact HO209.out, by repeat (first | (with_reducible first | exact HB.out | apply below_alloc | apply pw_below_drewN | apply below_drew1) | exact HB.out)⟩
def impl_DropOrder.f (k : Nat) (l0 : List S78) (a1 : Int) : Option (List S78 × Int) := impl_changed.f k l0 a1 (fun _ => 5)
theorem impl_DropOrder.next (W : World) (x : Int) : Calls Try.prog 117 #[.int .i64 x] W fun e w' => e = .returned (.int .i64 ((fun _ => 5) x)) ∧ Below W.heap.size W w' := by
  have HB := Aside0.mk (Below.refl W.heap.size W)
  go_enter Try.func117, Try.ntmps117
  go_wp2
  repeat (go_quiet (fail); try go_wp2)
  go_ret
  exact ⟨rfl, by repeat (first | (with_reducible first | exact HB.out | apply below_alloc | apply pw_below_drewN | apply below_drew1) | exact HB.out)⟩
set_option maxHeartbeats 4000000 in
theorem impl_DropOrder.calls (k : Nat) (A0 : Option Addr) (c0 : Nat) (l0 : List S78) (a1 : Int) (r1 : List S78) (r2 : Int) (w : World) (hr0 : Kd.C k78 w A0 l0.length l0) (hc0 : l0.length ≤ c0) (h : impl_DropOrder.f k l0 a1 = some (r1, r2)) :
    Calls Try.prog 60 #[.slice A0 l0.length c0, .int .i64 a1] w fun e w' => ∃ v0_ : Value, e = .returned (.tuple #[v0_, .int .i64 r2]) ∧ Kd.R k78 78 w' w.heap.size (fun _ => True) v0_ r1 ∧ Below w.heap.size w w' := by
  have eg : ∀ args w, (callFunc 117 args).run Try.prog w = .ok (.enter 117 args) w := enters_fn Try.func117 (by kernel_rfl) rfl
  have HCO := Aside0.mk (impl_changed.calls k A0 c0 l0 a1 117 (fun _ => 5) r1 r2 w hr0 hc0 eg impl_DropOrder.next h)
  clear hr0 hc0 h eg
  go_enter Try.func60, Try.ntmps60
  go_wp2_with (go_at_call 115; refine HCO.out.mono ?_; rintro e w' ⟨v0, rfl, hR, hb⟩)
  go_ret2
  exact ⟨_, rfl, hR, hb⟩
end Go.Proofs.Ytanokgpnmbbajaa.PT
end
