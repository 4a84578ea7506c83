-- Gathered by this session's program wip/tool/shake.py out of its own texts and of what the kit's print and the session's patches of it wrote for this claim.
import Derived.Test.YtanokgpnmbbajaaProg
import Derived.ArgAppend
import Derived.Below
import Derived.BigQuiet
import Derived.Deep.AppendLies
import Derived.Deep.CutBlock
import Derived.Deep.DeepCutAuto
import Derived.Deep.Draws
import Derived.Deep.LoopGhost
import Derived.Deep.OwnRows
import Derived.Deep.QuietTactic
import Derived.Deep.RegionHeld3
import Derived.KernelRfl
import Derived.Laws.BitsLemmas
import Derived.Laws.BytesArg
import Derived.Laws.IdiomCopy
import Derived.Laws.MakeOwn
import Derived.Laws.OwnMore
import Derived.Laws.Rows
import Derived.Laws.Slices
import Derived.Laws.StructEq
import Derived.Lib.AppendStr
import Derived.Lib.ConvBytes
import Derived.Maps.AppendAt
import Derived.OrdersHeld
import Derived.OwnWalk
import Derived.RowKit
import Derived.RowKit3
import Derived.Tactics
import Derived.WalkKit
import Derived.WideLaws
import Derived.Test.YtanokgpnmbbajaaCFnDueOrders6
section
namespace Go.Proofs.Ytanokgpnmbbajaa.PT
open Go.RowKit Go.Proofs.YtanokgpnmbbajaaW.PrintWords Go.Proofs.YtanokgpnmbbajaaW.PrintLast Go.Proofs.YtanokgpnmbbajaaW.PrintMore
attribute [local go_sem] max2_int min2_int max_two min_two max_three min_three max_four min_four   -- for this text's walks alone
set_option linter.unusedVariables false
set_option linter.unusedSimpArgs false
theorem filt_step (p : S78 → Bool) (l : List S78) (xs r : List Int) (i : Int) (h0 : 0 ≤ i) (h1 : i < (l.length : Int)) (h : xs ++ ((l.drop i.toNat).filter p).map (fun o => o.f0) = r) :
    (if p (rd_T78 l i) = true then xs ++ [(rd_T78 l i).f0] else xs) ++ ((l.drop (i + 1).toNat).filter p).map (fun o => o.f0) = r := by
  rw [drop_step l z78 i h0 h1, List.filter_cons] at h
  unfold rd_T78
  split
  · rename_i hp
    rw [if_pos hp, List.map_cons] at h
    rw [List.append_assoc]; exact h
  · rename_i hp
    rw [if_neg hp] at h; exact h
set_option maxHeartbeats 8000000 in
set_option maxRecDepth 100000 in
theorem impl_numbersOf.calls (A0 : Option Addr) (c0 : Nat) (l0 : List S78) (p : S78 → Bool) (g : Nat) (lb : Array Value) (w : World) (hr0 : Kd.C k78 w A0 l0.length l0) (hlen : l0.length ≤ 1000)
    (eg : ∀ args w, (callFunc g args).run Try.prog w = .ok (.enter g args) w) (hp : PaysNow Try.prog g lb (fun x : S78 => Value.agg #[.int .i64 x.f0, .int .i64 x.f1, .int .i64 x.f2, .int .i64 x.f3]) p w) :
    Calls Try.prog 121 #[.slice A0 l0.length c0, .func (.func g) #[] lb] w fun e w' => ∃ v0_ : Value, e = .returned v0_ ∧ Kd.R (Kd.int .i64) 2 w' w.heap.size (fun _ => True) v0_ ((l0.filter p).map fun o => o.f0) ∧ Below w.heap.size w w' := by
  have HLN := Aside0.mk hlen
  have HP := Aside0.mk hp
  have HR0 := Aside0.mk hr0
  have HB := Aside0.mk (Below.refl w.heap.size w)
  obtain ⟨rr, hrr⟩ : ∃ rr, (l0.filter p).map (fun o => o.f0) = rr := ⟨_, rfl⟩
  have HRR := Aside0.mk hrr
  rw [hrr]
  clear hr0 hp hlen hrr
  go_enter Try.func121, Try.ntmps121
  go_wp2_with ((with_reducible refine gate_dst (N := 8) rfl ?_); refine Kd.R_lit (Kd.int .i64) w.heap.size 2 ?hg (N := 8) ?hd (xs := ([] : List Int)) (inner := []) (ok := fun _ => True) (okp := fun _ => True) ?hr ?hp (fun _ hk => hk) trivial HB.out (Nat.le_refl _) (by simp) ?_; (case hd => rfl); (case hg => rfl); (case hr => first | (go_simp; done) | (go_simp; rfl)); (case hp => exact (Reps.none _ _)); intro v280 w9 ho10 hb hg_ hnew_; clear hg_ hnew_; clear HB; have HB := Aside0.mk hb; have HO := Aside0.mk ho10; clear hb ho10)
  go_loopg [5, 11] l0.length (fun gg s5 s11 wr => ∃ (xs : List Int) (i : Int), s11 = .int .i64 i ∧ Aside0 (0 ≤ i ∧ i ≤ (l0.length : Int) ∧ l0.length - i.toNat ≤ gg) ∧ Aside0 (xs ++ ((l0.drop i.toNat).filter p).map (fun o => o.f0) = rr) ∧ Aside0 ((xs.length : Int) ≤ i) ∧ Aside0 (Kd.R (Kd.int .i64) 2 wr w.heap.size (fun _ => True) s5 xs) ∧ Aside0 (Below w.heap.size w wr))
  case atStart => exact ⟨[], 0, rfl, ⟨by omega⟩, ⟨by simpa using HRR.out⟩, ⟨by simp⟩, HO, HB⟩
  case round =>
    clear HO HB
    obtain ⟨xs, i, rfl, HI, HE, HX, HO, HB⟩ := hrel
    have HBr := Aside0.mk (Below.refl wr.heap.size wr)
    by_cases hlt : i < (l0.length : Int)
    · have p0 : 0 ≤ i := HI.out.1
      obtain ⟨ad, e, hx0, hx1, hx2, hx3⟩ := at_T78 HR0.out i p0 hlt
      cases e
      replace hx0 := (HB.out.cell (World.block_lt_of_cell? _ _ hx0)).trans hx0
      replace hx1 := (HB.out.cell (World.block_lt_of_cell? _ _ hx1)).trans hx1
      replace hx2 := (HB.out.cell (World.block_lt_of_cell? _ _ hx2)).trans hx2
      replace hx3 := (HB.out.cell (World.block_lt_of_cell? _ _ hx3)).trans hx3
      have HS := Aside0.mk (filt_step p l0 xs rr i p0 hlt HE.out)
      have HQ := Aside0.mk hlt
      have b0 : decide (i < (l0.length : Int)) = true := decide_eq_true hlt
      replace p0 := eq_true p0
      have q0 := eq_true hlt
      clear hlt
      cases hq : p (rd_T78 l0 i) with
      | true =>
        have HPX : Aside0 (∀ W : World, Below w.heap.size w W → Calls Try.prog g (#[Value.agg #[.int .i64 (rd_T78 l0 i).f0, .int .i64 (rd_T78 l0 i).f1, .int .i64 (rd_T78 l0 i).f2, .int .i64 (rd_T78 l0 i).f3]] ++ lb) W fun e w' => e = .returned (.bool true) ∧ Below W.heap.size W w') := ⟨fun W hW => by have := HP.out W (rd_T78 l0 i) hW; rw [hq] at this; exact this⟩
        have HS2 : Aside0 ((xs ++ [(rd_T78 l0 i).f0]) ++ ((l0.drop (i + 1).toNat).filter p).map (fun o => o.f0) = rr) := ⟨by have := HS.out; rw [if_pos hq] at this; exact this⟩
        clear hq HS
        go_wp2_with (first | ((with_reducible refine gate_dst (N := 7) rfl ?_); refine box_event ?hg (N := 7) ?hd (cs := #[.int .i64 0, .int .i64 0, .int .i64 0, .int .i64 0]) (t := 78) ?hr ?_; (case hd => rfl); (case hg => rfl); (case hr => first | (go_simp; done) | (go_simp; rfl)); intro gb hg w10 hbox hb; have n0_ := Aside0.mk (below_step (by repeat (first | (with_reducible first | exact HB.out | apply below_alloc | apply pw_below_drewN | apply below_drew1) | exact HB.out)) hb); have n4_ := Aside0.mk (below_step (by repeat (first | (with_reducible first | exact HBr.out | apply below_alloc | apply pw_below_drewN | apply below_drew1) | exact HBr.out)) hb); have BK := Aside0.mk hbox; have GE := Aside0.mk ((by rw [hg]; exact (below_size (by repeat (first | (with_reducible first | exact HB.out | apply below_alloc | apply pw_below_drewN | apply below_drew1) | exact HB.out)))) : w.heap.size ≤ gb); have GR := Aside0.mk ((by rw [hg]; exact (below_size (by repeat (first | (with_reducible first | exact HBr.out | apply below_alloc | apply pw_below_drewN | apply below_drew1) | exact HBr.out)))) : wr.heap.size ≤ gb); clear HB HBr; have HB := n0_; have HBr := n4_; clear n0_ n4_; clear hb hbox hg; have hcz11_0 : w10.cell? ⟨gb, 0, none⟩ = some (.int .i64 0) := (blk_cell BK.out 0).trans rfl; have hfz11_0 := blk_frozen BK.out 0; have hcz11_1 : w10.cell? ⟨gb, 1, none⟩ = some (.int .i64 0) := (blk_cell BK.out 1).trans rfl; have hfz11_1 := blk_frozen BK.out 1; have hcz11_2 : w10.cell? ⟨gb, 2, none⟩ = some (.int .i64 0) := (blk_cell BK.out 2).trans rfl; have hfz11_2 := blk_frozen BK.out 2; have hcz11_3 : w10.cell? ⟨gb, 3, none⟩ = some (.int .i64 0) := (blk_cell BK.out 3).trans rfl; have hfz11_3 := blk_frozen BK.out 3) | ((with_reducible refine (HPX.out _ ?sb).mono ?_); (case sb => exact (by repeat (first | (with_reducible first | exact HB.out | apply below_alloc | apply pw_below_drewN | apply below_drew1 | refine below_set ?_ GE.out) | exact HB.out))); rintro e w12 ⟨rfl, hb⟩; have n2_ := Aside0.mk (blk_below (g := gb) (o := .cells #[.int .i64 (rd_T78 l0 i).f0, .int .i64 (rd_T78 l0 i).f1, .int .i64 (rd_T78 l0 i).f2, .int .i64 (rd_T78 l0 i).f3] 78 (0, 0)) (by (with_reducible repeat (first | refine blk_drewN ?_ _ | refine blk_drew ?_ | refine blk_alloc ?_ _)); refine blk_put (cs := #[.int .i64 (rd_T78 l0 i).f0, .int .i64 (rd_T78 l0 i).f1, .int .i64 (rd_T78 l0 i).f2, .int .i64 0]) ?_ 3 _ rfl; (with_reducible repeat (first | refine blk_drewN ?_ _ | refine blk_drew ?_ | refine blk_alloc ?_ _)); refine blk_put (cs := #[.int .i64 (rd_T78 l0 i).f0, .int .i64 (rd_T78 l0 i).f1, .int .i64 0, .int .i64 0]) ?_ 2 _ rfl; (with_reducible repeat (first | refine blk_drewN ?_ _ | refine blk_drew ?_ | refine blk_alloc ?_ _)); refine blk_put (cs := #[.int .i64 (rd_T78 l0 i).f0, .int .i64 0, .int .i64 0, .int .i64 0]) ?_ 1 _ rfl; (with_reducible repeat (first | refine blk_drewN ?_ _ | refine blk_drew ?_ | refine blk_alloc ?_ _)); refine blk_put (cs := #[.int .i64 0, .int .i64 0, .int .i64 0, .int .i64 0]) ?_ 0 _ rfl; (with_reducible repeat (first | refine blk_drewN ?_ _ | refine blk_drew ?_ | refine blk_alloc ?_ _)); exact BK.out) hb); have n0_ := Aside0.mk (below_step (by repeat (first | (with_reducible first | exact HB.out | apply below_alloc | apply pw_below_drewN | apply below_drew1 | refine below_set ?_ GE.out) | exact HB.out)) hb); have n4_ := Aside0.mk (below_step (by repeat (first | (with_reducible first | exact HBr.out | apply below_alloc | apply pw_below_drewN | apply below_drew1 | refine below_set ?_ GR.out) | exact HBr.out)) hb); clear BK HB HBr; have BK := n2_; have HB := n0_; have HBr := n4_; clear n0_ n2_ n4_ hb; have hcz13_0 : w12.cell? ⟨gb, 0, none⟩ = some (.int .i64 (rd_T78 l0 i).f0) := (blk_cell BK.out 0).trans rfl; have hfz13_0 := blk_frozen BK.out 0; have hcz13_1 : w12.cell? ⟨gb, 1, none⟩ = some (.int .i64 (rd_T78 l0 i).f1) := (blk_cell BK.out 1).trans rfl; have hfz13_1 := blk_frozen BK.out 1; have hcz13_2 : w12.cell? ⟨gb, 2, none⟩ = some (.int .i64 (rd_T78 l0 i).f2) := (blk_cell BK.out 2).trans rfl; have hfz13_2 := blk_frozen BK.out 2; have hcz13_3 : w12.cell? ⟨gb, 3, none⟩ = some (.int .i64 (rd_T78 l0 i).f3) := (blk_cell BK.out 3).trans rfl; have hfz13_3 := blk_frozen BK.out 3) | ((with_reducible refine gate_builtin (b := .append) (xs := #[.tmp 18, .tmp 21]) rfl ?_); at_builtin; refine Kd.R_append (Kd.int .i64) (w0 := w) w.heap.size rfl (.tmp 18) (.tmp 21) 34 2 (.int .i64 0) 8 rfl Try.underlying34 info2 rfl (by decide) (by omega) u5 xs ((rd_T78 l0 i).f0) [.int .i64 ((rd_T78 l0 i).f0)] (fun _ => True) (fun _ => False) rfl rfl ?aP (fun _ hk => hk.elim) ?aF ?aO ?aB ?aS ?aL ?_; (case aP => exact rfl); (case aB => exact (by repeat (first | (with_reducible first | exact HB.out | apply below_alloc | apply pw_below_drewN | apply below_drew1 | refine below_set ?_ GE.out) | exact HB.out))); (case aF => exact (fun _ _ => trivial)); (case aO => exact (Kd.R_below HO.out (by exact (by repeat (first | (with_reducible first | exact HBr.out | apply below_alloc | apply pw_below_drewN | apply below_drew1 | refine below_set ?_ GR.out) | exact HBr.out))))); (case aS => exact (below_size (by exact (by repeat (first | (with_reducible first | exact HB.out | apply below_alloc | apply pw_below_drewN | apply below_drew1 | refine below_set ?_ GE.out) | exact HB.out))))); (case aL => have := HX.out; have := HI.out; have := HLN.out; omega); intro v554 w14 ho hb hg hat; have n0_ := Aside0.mk hb; have n1_ := Aside0.mk ho; clear HB HO; have HB := n0_; have HO := n1_; clear n0_ n1_; clear ho hb hg hat))
        have hw : wrap64 (i + 1) = i + 1 := by have := HI.out; have := HLN.out; have := HQ.out; unfold wrap64; omega
        have HW := Aside0.mk hw
        clear hw
        go_roundg (l0.length - (i.toNat + 1))
        case measure => have := HI.out; have := HQ.out; omega
        case rel => exact ⟨xs ++ [(rd_T78 l0 i).f0], wrap64 (i + 1), rfl, ⟨by rw [HW.out]; have := HI.out; have := HQ.out; omega⟩, ⟨by rw [HW.out]; exact HS2.out⟩, ⟨by rw [HW.out]; have := HX.out; simp; omega⟩, ⟨by first | exact HO.out | exact Kd.R_below HO.out (by exact (by repeat (first | (with_reducible first | exact HBr.out | apply below_alloc | apply pw_below_drewN | apply below_drew1 | refine below_set ?_ GR.out) | exact HBr.out)))⟩, ⟨by exact (by repeat (first | (with_reducible first | exact HB.out | apply below_alloc | apply pw_below_drewN | apply below_drew1 | refine below_set ?_ GE.out) | exact HB.out))⟩⟩
      | false =>
        have HPX : Aside0 (∀ W : World, Below w.heap.size w W → Calls Try.prog g (#[Value.agg #[.int .i64 (rd_T78 l0 i).f0, .int .i64 (rd_T78 l0 i).f1, .int .i64 (rd_T78 l0 i).f2, .int .i64 (rd_T78 l0 i).f3]] ++ lb) W fun e w' => e = .returned (.bool false) ∧ Below W.heap.size W w') := ⟨fun W hW => by have := HP.out W (rd_T78 l0 i) hW; rw [hq] at this; exact this⟩
        have HS2 : Aside0 (xs ++ ((l0.drop (i + 1).toNat).filter p).map (fun o => o.f0) = rr) := ⟨by have := HS.out; rw [if_neg (by intro hh; rw [hh] at hq; cases hq)] at this; exact this⟩
        clear hq HS
        go_wp2_with (first | ((with_reducible refine gate_dst (N := 7) rfl ?_); refine box_event ?hg (N := 7) ?hd (cs := #[.int .i64 0, .int .i64 0, .int .i64 0, .int .i64 0]) (t := 78) ?hr ?_; (case hd => rfl); (case hg => rfl); (case hr => first | (go_simp; done) | (go_simp; rfl)); intro gb hg w10 hbox hb; have n0_ := Aside0.mk (below_step (by repeat (first | (with_reducible first | exact HB.out | apply below_alloc | apply pw_below_drewN | apply below_drew1) | exact HB.out)) hb); have n4_ := Aside0.mk (below_step (by repeat (first | (with_reducible first | exact HBr.out | apply below_alloc | apply pw_below_drewN | apply below_drew1) | exact HBr.out)) hb); have BK := Aside0.mk hbox; have GE := Aside0.mk ((by rw [hg]; exact (below_size (by repeat (first | (with_reducible first | exact HB.out | apply below_alloc | apply pw_below_drewN | apply below_drew1) | exact HB.out)))) : w.heap.size ≤ gb); have GR := Aside0.mk ((by rw [hg]; exact (below_size (by repeat (first | (with_reducible first | exact HBr.out | apply below_alloc | apply pw_below_drewN | apply below_drew1) | exact HBr.out)))) : wr.heap.size ≤ gb); clear HB HBr; have HB := n0_; have HBr := n4_; clear n0_ n4_; clear hb hbox hg; have hcz11_0 : w10.cell? ⟨gb, 0, none⟩ = some (.int .i64 0) := (blk_cell BK.out 0).trans rfl; have hfz11_0 := blk_frozen BK.out 0; have hcz11_1 : w10.cell? ⟨gb, 1, none⟩ = some (.int .i64 0) := (blk_cell BK.out 1).trans rfl; have hfz11_1 := blk_frozen BK.out 1; have hcz11_2 : w10.cell? ⟨gb, 2, none⟩ = some (.int .i64 0) := (blk_cell BK.out 2).trans rfl; have hfz11_2 := blk_frozen BK.out 2; have hcz11_3 : w10.cell? ⟨gb, 3, none⟩ = some (.int .i64 0) := (blk_cell BK.out 3).trans rfl; have hfz11_3 := blk_frozen BK.out 3) | ((with_reducible refine (HPX.out _ ?sb).mono ?_); (case sb => exact (by repeat (first | (with_reducible first | exact HB.out | apply below_alloc | apply pw_below_drewN | apply below_drew1 | refine below_set ?_ GE.out) | exact HB.out))); rintro e w12 ⟨rfl, hb⟩; have n2_ := Aside0.mk (blk_below (g := gb) (o := .cells #[.int .i64 (rd_T78 l0 i).f0, .int .i64 (rd_T78 l0 i).f1, .int .i64 (rd_T78 l0 i).f2, .int .i64 (rd_T78 l0 i).f3] 78 (0, 0)) (by (with_reducible repeat (first | refine blk_drewN ?_ _ | refine blk_drew ?_ | refine blk_alloc ?_ _)); refine blk_put (cs := #[.int .i64 (rd_T78 l0 i).f0, .int .i64 (rd_T78 l0 i).f1, .int .i64 (rd_T78 l0 i).f2, .int .i64 0]) ?_ 3 _ rfl; (with_reducible repeat (first | refine blk_drewN ?_ _ | refine blk_drew ?_ | refine blk_alloc ?_ _)); refine blk_put (cs := #[.int .i64 (rd_T78 l0 i).f0, .int .i64 (rd_T78 l0 i).f1, .int .i64 0, .int .i64 0]) ?_ 2 _ rfl; (with_reducible repeat (first | refine blk_drewN ?_ _ | refine blk_drew ?_ | refine blk_alloc ?_ _)); refine blk_put (cs := #[.int .i64 (rd_T78 l0 i).f0, .int .i64 0, .int .i64 0, .int .i64 0]) ?_ 1 _ rfl; (with_reducible repeat (first | refine blk_drewN ?_ _ | refine blk_drew ?_ | refine blk_alloc ?_ _)); refine blk_put (cs := #[.int .i64 0, .int .i64 0, .int .i64 0, .int .i64 0]) ?_ 0 _ rfl; (with_reducible repeat (first | refine blk_drewN ?_ _ | refine blk_drew ?_ | refine blk_alloc ?_ _)); exact BK.out) hb); have n0_ := Aside0.mk (below_step (by repeat (first | (with_reducible first | exact HB.out | apply below_alloc | apply pw_below_drewN | apply below_drew1 | refine below_set ?_ GE.out) | exact HB.out)) hb); have n4_ := Aside0.mk (below_step (by repeat (first | (with_reducible first | exact HBr.out | apply below_alloc | apply pw_below_drewN | apply below_drew1 | refine below_set ?_ GR.out) | exact HBr.out)) hb); clear BK HB HBr; have BK := n2_; have HB := n0_; have HBr := n4_; clear n0_ n2_ n4_ hb; have hcz13_0 : w12.cell? ⟨gb, 0, none⟩ = some (.int .i64 (rd_T78 l0 i).f0) := (blk_cell BK.out 0).trans rfl; have hfz13_0 := blk_frozen BK.out 0; have hcz13_1 : w12.cell? ⟨gb, 1, none⟩ = some (.int .i64 (rd_T78 l0 i).f1) := (blk_cell BK.out 1).trans rfl; have hfz13_1 := blk_frozen BK.out 1; have hcz13_2 : w12.cell? ⟨gb, 2, none⟩ = some (.int .i64 (rd_T78 l0 i).f2) := (blk_cell BK.out 2).trans rfl; have hfz13_2 := blk_frozen BK.out 2; have hcz13_3 : w12.cell? ⟨gb, 3, none⟩ = some (.int .i64 (rd_T78 l0 i).f3) := (blk_cell BK.out 3).trans rfl; have hfz13_3 := blk_frozen BK.out 3))
        have hw : wrap64 (i + 1) = i + 1 := by have := HI.out; have := HLN.out; have := HQ.out; unfold wrap64; omega
        have HW := Aside0.mk hw
        clear hw
        go_roundg (l0.length - (i.toNat + 1))
        case measure => have := HI.out; have := HQ.out; omega
        case rel => exact ⟨xs, wrap64 (i + 1), rfl, ⟨by rw [HW.out]; have := HI.out; have := HQ.out; omega⟩, ⟨by rw [HW.out]; exact HS2.out⟩, ⟨by rw [HW.out]; have := HX.out; omega⟩, ⟨Kd.R_below HO.out (by exact (by repeat (first | (with_reducible first | exact HBr.out | apply below_alloc | apply pw_below_drewN | apply below_drew1 | refine below_set ?_ GR.out) | exact HBr.out)))⟩, ⟨by exact (by repeat (first | (with_reducible first | exact HB.out | apply below_alloc | apply pw_below_drewN | apply below_drew1 | refine below_set ?_ GE.out) | exact HB.out))⟩⟩
    · have b0 : decide (i < (l0.length : Int)) = false := decide_eq_false hlt
      have hd : l0.drop i.toNat = [] := List.drop_eq_nil_of_le (by omega)
      have HF := Aside0.mk (show xs = rr by have := HE.out; rw [hd] at this; simpa using this)
      clear hlt hd
      go_wp2
      go_ret
      exact ⟨_, rfl, by rw [← HF.out]; exact HO.out, HB.out⟩
end Go.Proofs.Ytanokgpnmbbajaa.PT
end
