-- Gathered by this session's program wip/tool/shake.py out of its own texts and of what the kit's print and the session's patches of it wrote for this claim.
import Derived.Test.YtanokgpnmbbajaaProg
import Derived.ArgAppend
import Derived.Below
import Derived.BigQuiet
import Derived.Deep.AppendLies
import Derived.Deep.CutBlock
import Derived.Deep.DeepCutAuto
import Derived.Deep.Draws
import Derived.Deep.LoopGhost
import Derived.Deep.OwnRows
import Derived.Deep.QuietTactic
import Derived.Deep.RegionHeld3
import Derived.KernelRfl
import Derived.Laws.BitsLemmas
import Derived.Laws.BytesArg
import Derived.Laws.IdiomCopy
import Derived.Laws.MakeOwn
import Derived.Laws.OwnMore
import Derived.Laws.Rows
import Derived.Laws.Slices
import Derived.Laws.StructEq
import Derived.Lib.AppendStr
import Derived.Lib.ConvBytes
import Derived.Lib.SliceRun
import Derived.Maps.AppendAt
import Derived.OrdersHeld
import Derived.OwnWalk
import Derived.RowKit
import Derived.RowKit3
import Derived.Shelf.SlSortCmp.KitK
import Derived.Tactics
import Derived.WalkKit
import Derived.WideLaws
import Derived.Test.YtanokgpnmbbajaaCFnOrderBooks7
import Derived.Test.YtanokgpnmbbajaaCFnOrderBooks9
import Derived.Test.YtanokgpnmbbajaaCFnOrderBooks10
section
namespace Go.Proofs.Ytanokgpnmbbajaa.PT
open Go.RowKit Go.Proofs.YtanokgpnmbbajaaW.PrintWords Go.Proofs.YtanokgpnmbbajaaW.PrintLast Go.Proofs.YtanokgpnmbbajaaW.PrintMore
attribute [local go_sem] max2_int min2_int max_two min_two max_three min_three max_four min_four   -- for this text's walks alone
set_option linter.unusedVariables false
set_option linter.unusedSimpArgs false
theorem firstAt_spec {α : Type} (p : α → Bool) (z : α) : ∀ (l : List α) (i : Int), 0 ≤ i → (firstAt p l i = -1 ∧ ∀ x ∈ l, p x = false) ∨ ∃ k : Nat, k < l.length ∧ firstAt p l i = i + k ∧ p (l.getD k z) = true ∧ ∀ t, t < k → p (l.getD t z) = false
  | [], i, _ => .inl ⟨rfl, fun x h => by simp at h⟩
  | x :: xs, i, h => by
    have e : firstAt p (x :: xs) i = if p x = true then i else firstAt p xs (i + 1) := rfl
    cases hx : p x with
    | true => exact .inr ⟨0, by simp, by rw [e, if_pos hx]; simp, by simpa using hx, fun t ht => by omega⟩
    | false =>
      have e2 : firstAt p (x :: xs) i = firstAt p xs (i + 1) := by rw [e, if_neg (by rw [hx]; decide)]
      rcases firstAt_spec p z xs (i + 1) (by omega) with ⟨h1, h2⟩ | ⟨k, hk, h1, h2, h3⟩
      · exact .inl ⟨by rw [e2, h1], fun y hy => by rcases List.mem_cons.1 hy with rfl | hy; exact hx; exact h2 y hy⟩
      · refine .inr ⟨k + 1, by simp; omega, by rw [e2, h1]; omega, by simpa using h2, fun t ht => ?_⟩
        cases t with
        | zero => simpa using hx
        | succ t => simpa using h3 t (by omega)
/-- What a row holds while elements are struck: the kept ones of the first j lie ahead of i. -/
structure DelInv {α : Type} (p : α → Bool) (l L : List α) (i j : Nat) : Prop where
  len : L.length = l.length
  low : L.take i = (l.take j).filter (fun x => !p x)
  high : L.drop j = l.drop j
  lt : i < j
  le : j ≤ l.length
theorem take_snoc {α : Type} (l : List α) (z : α) (j : Nat) (h : j < l.length) : l.take (j + 1) = l.take j ++ [l.getD j z] := by
  rw [List.take_succ_eq_append_getElem h]; simp [List.getD, List.getElem?_eq_getElem h]
theorem filter_all {α : Type} (p : α → Bool) (l : List α) (h : ∀ x ∈ l, p x = false) : l.filter (fun x => !p x) = l := List.filter_eq_self.2 (fun x hx => by rw [h x hx]; rfl)
theorem DelInv.start {α : Type} {p : α → Bool} {l : List α} (z : α) {k : Nat} (hk : k < l.length) (h1 : p (l.getD k z) = true) (h2 : ∀ t, t < k → p (l.getD t z) = false) : DelInv p l l k (k + 1) := by
  refine ⟨rfl, ?_, rfl, by omega, by omega⟩
  rw [take_snoc l z k hk, List.filter_append, filter_all p (l.take k)]
  · have e : [l.getD k z].filter (fun x => !p x) = [] := by rw [List.filter_cons_of_neg (by rw [h1]; decide)]; rfl
    rw [e, List.append_nil]
  · intro x hx
    obtain ⟨t, ht, rfl⟩ := List.getElem_of_mem hx
    have htk : t < k := by rw [List.length_take] at ht; omega
    have := h2 t htk
    rw [List.getElem_take]
    rw [List.getD, List.getElem?_eq_getElem (by omega)] at this
    exact this
theorem DelInv.at {α : Type} {p : α → Bool} {l L : List α} {i j : Nat} (h : DelInv p l L i j) (z : α) (hj : j < l.length) : L.getD j z = l.getD j z := by
  have h1 : (L.drop j)[0]? = (l.drop j)[0]? := by rw [h.high]
  rw [List.getElem?_drop, List.getElem?_drop] at h1
  simp only [List.getD]
  rw [show L[j]? = l[j]? from h1]
theorem DelInv.skip {α : Type} {p : α → Bool} {l L : List α} {i j : Nat} (h : DelInv p l L i j) (z : α) (hj : j < l.length) (hp : p (l.getD j z) = true) : DelInv p l L i (j + 1) := by
  have := h.lt
  refine ⟨h.len, ?_, ?_, by omega, by omega⟩
  · have e : [l.getD j z].filter (fun x => !p x) = [] := by rw [List.filter_cons_of_neg (by rw [hp]; decide)]; rfl
    rw [take_snoc l z j hj, List.filter_append, ← h.low, e, List.append_nil]
  · rw [← List.drop_drop, ← List.drop_drop, h.high]
theorem DelInv.keep {α : Type} {p : α → Bool} {l L : List α} {i j : Nat} (h : DelInv p l L i j) (z : α) (hj : j < l.length) (hp : p (l.getD j z) = false) : DelInv p l (L.set i (l.getD j z)) (i + 1) (j + 1) := by
  have h1 := h.lt
  have h2 := h.len
  refine ⟨by rw [List.length_set]; exact h.len, ?_, ?_, by omega, by omega⟩
  · have e : [l.getD j z].filter (fun x => !p x) = [l.getD j z] := by rw [List.filter_cons_of_pos (by rw [hp]; rfl)]; rfl
    rw [take_snoc l z j hj, List.filter_append, ← h.low, e, take_snoc _ z i (by rw [List.length_set]; omega), List.take_set_of_le (Nat.le_refl i)]
    congr 1
    simp [List.getD, List.getElem?_set, show i < L.length by omega]
  · rw [List.drop_set_of_lt (by omega), ← List.drop_drop, ← List.drop_drop, h.high]
theorem DelInv.done {α : Type} {p : α → Bool} {l L : List α} {i : Nat} (h : DelInv p l L i l.length) : L.take i = l.filter (fun x => !p x) := by
  rw [h.low, List.take_length]
set_option maxHeartbeats 8000000 in
set_option maxRecDepth 100000 in
theorem slices_DeleteFunc_Order.calls (A0 : Option Addr) (c0 : Nat) (l0 : List S78) (p : S78 → Bool) (gf base : Nat) (w : World) (hR : Kd.R k78 78 w base (fun _ => True) (.slice A0 l0.length c0) l0) (hB : base ≤ w.heap.size) (hl : l0.length ≤ 1000)
    (eg : ∀ args w, (callFunc gf args).run Try.prog w = .ok (.enter gf args) w) (hp : ∀ (W : World) (x : S78), Calls Try.prog gf #[Value.agg #[.int .i64 x.f0, .int .i64 x.f1, .int .i64 x.f2, .int .i64 x.f3]] W fun e w' => e = .returned (.bool (p x)) ∧ Below W.heap.size W w') :
    Calls Try.prog 109 #[.slice A0 l0.length c0, .func (.func gf) #[] #[]] w fun e w' => ∃ v0_ : Value, e = .returned v0_ ∧ Kd.R k78 78 w' base (fun _ => True) v0_ (l0.filter (fun x => !p x)) ∧ Below base w w' := by
  have hu78 := Try.underlying78
  have hix := slices_IndexFunc_Order.calls A0 c0 l0 p gf #[] w (Kd.R_reads' hR).2.2 eg (fun W x hb => (hp W x).mono (by rintro e w' ⟨rfl, h⟩; exact ⟨rfl, hb.trans (h.mono hb.size)⟩))
  have HB0 := Aside0.mk hB
  have HLN := Aside0.mk hl
  have HP := Aside0.mk hp
  have HEG := Aside0.mk eg
  rcases firstAt_spec p z78 l0 0 (Int.le_refl 0) with ⟨h1, h2⟩ | ⟨k0, hk, h1, h2, h3⟩
  · rw [h1] at hix
    have HIX := Aside0.mk hix
    have HR := Aside0.mk hR
    have HF := Aside0.mk (filter_all p l0 h2)
    clear hix hR h1 h2 hB hl hp
    go_enter Try.func109, Try.ntmps109
    go_wp2_with (go_at_call 133; (with_reducible refine HIX.out.mono ?_); rintro e w1 ⟨rfl, hb⟩; have HB1 := Aside0.mk hb; clear hb)
    go_ret
    exact ⟨_, rfl, by rw [HF.out]; exact Kd.R_below HR.out HB1.out, HB1.out.mono HB0.out⟩
  · rw [h1] at hix
    have hpos : 0 < l0.length := by omega
    obtain ⟨g, cap, eo, hg, hgl, cells, hcells⟩ := Kd.R_form hR hpos
    injection eo with ea en ec
    subst ea ec
    have HIX := Aside0.mk hix
    have HR := Aside0.mk hR
    have HG := Aside0.mk hg
    have HST := Aside0.mk (DelInv.start z78 hk h2 h3)
    have hne1 : ((0 : Int) + (k0 : Int) == -1) = false := beq_eq_false_iff_ne.2 (by omega)
    have hne2 : ((k0 : Int) == -1) = false := beq_eq_false_iff_ne.2 (by omega)
    clear hix hR hg h1 h2 h3 hB hl hp hcells cells hgl en
    go_enter Try.func109, Try.ntmps109
    go_wp2_with (go_at_call 133; (with_reducible refine HIX.out.mono ?_); rintro e w1 ⟨rfl, hb⟩; have HB1 := Aside0.mk hb; clear hb)
    go_loopg [5, 6, 7] l0.length (fun gg s5 s6 _ wr => ∃ (i j : Nat) (L : List S78), s5 = .int .i64 i ∧ s6 = .int .i64 j ∧ Aside0 (i < j ∧ j ≤ l0.length ∧ l0.length - j ≤ gg) ∧ Aside0 (DelInv p l0 L i j) ∧ Aside0 (Kd.R k78 78 wr base (fun _ => True) (.slice (some ⟨g, 0, none⟩) l0.length c0) L) ∧ Aside0 (Below base w wr))
    case atStart => exact ⟨k0, k0 + 1, l0, by first | rfl | go_num, wrap_succ_i k0 (by have := HLN.out; omega), ⟨by omega⟩, HST, ⟨Kd.R_below HR.out HB1.out⟩, ⟨HB1.out.mono HB0.out⟩⟩
    case round =>
      clear HST HB1 hne1 hne2
      obtain ⟨i, j, L, rfl, rfl, HI, HD, HO, HB⟩ := hrel
      have HBr := Aside0.mk (Below.refl wr.heap.size wr)
      have HBS := Aside0.mk (Nat.le_trans HB0.out HB.out.size)
      by_cases hlt : j < l0.length
      · have HQ := Aside0.mk hlt
        have hltz : (j : Int) < (l0.length : Int) := by omega
        obtain ⟨ce1, hcl1, hM1, hcc1, hfr1⟩ := Kd.R_elem HO.out z78 (j : Int) (by omega) (by omega)
        obtain rfl := k78_openM hM1
        rw [show L.getD (j : Int).toNat z78 = l0.getD j z78 from HD.out.at z78 hlt] at hcc1
        have HX := Aside0.mk (HD.out.at z78 hlt)
        obtain ⟨x, hx⟩ : ∃ x, x = l0.getD j z78 := ⟨_, rfl⟩
        rw [← hx] at hcc1
        have hx0 : wr.cell? ⟨g, j * 4, none⟩ = some (.int .i64 x.f0) := hcc1 0 _ rfl
        have hx1 : wr.cell? ⟨g, j * 4 + 1, none⟩ = some (.int .i64 x.f1) := hcc1 1 _ rfl
        have hx2 : wr.cell? ⟨g, j * 4 + 2, none⟩ = some (.int .i64 x.f2) := hcc1 2 _ rfl
        have hx3 : wr.cell? ⟨g, j * 4 + 3, none⟩ = some (.int .i64 x.f3) := hcc1 3 _ rfl
        have XE := Aside0.mk hx
        clear hcl1 hM1 hcc1 hfr1 hx hlt
        cases hq : p x with
        | true =>
          have HPX : Aside0 (∀ W : World, Calls Try.prog gf #[Value.agg #[.int .i64 x.f0, .int .i64 x.f1, .int .i64 x.f2, .int .i64 x.f3]] W fun e w' => e = .returned (.bool true) ∧ Below W.heap.size W w') := ⟨fun W => by have := HP.out W x; rw [hq] at this; exact this⟩
          have HD2 := Aside0.mk (HD.out.skip z78 HQ.out (by rw [← XE.out]; exact hq))
          clear hq
          go_wp2_with (first | ((with_reducible refine gate_dst (N := 7) rfl ?_); refine box_event ?hg (N := 7) ?hd (cs := #[.int .i64 0, .int .i64 0, .int .i64 0, .int .i64 0]) (t := 78) ?hr ?_; (case hd => rfl); (case hg => rfl); (case hr => first | (go_simp; done) | (go_simp; rfl)); intro gb hg w10 hbox hb; have n4_ := Aside0.mk (below_step (by repeat (first | (with_reducible first | exact HBr.out | apply below_alloc | apply pw_below_drewN | apply below_drew1) | exact HBr.out)) hb); have BK := Aside0.mk hbox; have GR := Aside0.mk ((by rw [hg]; exact (below_size (by repeat (first | (with_reducible first | exact HBr.out | apply below_alloc | apply pw_below_drewN | apply below_drew1) | exact HBr.out)))) : wr.heap.size ≤ gb); clear HBr; have HBr := n4_; clear n4_; clear hb hbox hg; have hcz11_0 : w10.cell? ⟨gb, 0, none⟩ = some (.int .i64 0) := (blk_cell BK.out 0).trans rfl; have hfz11_0 := blk_frozen BK.out 0; have hcz11_1 : w10.cell? ⟨gb, 1, none⟩ = some (.int .i64 0) := (blk_cell BK.out 1).trans rfl; have hfz11_1 := blk_frozen BK.out 1; have hcz11_2 : w10.cell? ⟨gb, 2, none⟩ = some (.int .i64 0) := (blk_cell BK.out 2).trans rfl; have hfz11_2 := blk_frozen BK.out 2; have hcz11_3 : w10.cell? ⟨gb, 3, none⟩ = some (.int .i64 0) := (blk_cell BK.out 3).trans rfl; have hfz11_3 := blk_frozen BK.out 3) | ((with_reducible refine (HPX.out _).mono ?_); rintro e w12 ⟨rfl, hb⟩; have n2_ := Aside0.mk (blk_below (g := gb) (o := .cells #[.int .i64 x.f0, .int .i64 x.f1, .int .i64 x.f2, .int .i64 x.f3] 78 (0, 0)) (by (with_reducible repeat (first | refine blk_drewN ?_ _ | refine blk_drew ?_ | refine blk_alloc ?_ _)); refine blk_put (cs := #[.int .i64 x.f0, .int .i64 x.f1, .int .i64 x.f2, .int .i64 0]) ?_ 3 _ rfl; (with_reducible repeat (first | refine blk_drewN ?_ _ | refine blk_drew ?_ | refine blk_alloc ?_ _)); refine blk_put (cs := #[.int .i64 x.f0, .int .i64 x.f1, .int .i64 0, .int .i64 0]) ?_ 2 _ rfl; (with_reducible repeat (first | refine blk_drewN ?_ _ | refine blk_drew ?_ | refine blk_alloc ?_ _)); refine blk_put (cs := #[.int .i64 x.f0, .int .i64 0, .int .i64 0, .int .i64 0]) ?_ 1 _ rfl; (with_reducible repeat (first | refine blk_drewN ?_ _ | refine blk_drew ?_ | refine blk_alloc ?_ _)); refine blk_put (cs := #[.int .i64 0, .int .i64 0, .int .i64 0, .int .i64 0]) ?_ 0 _ rfl; (with_reducible repeat (first | refine blk_drewN ?_ _ | refine blk_drew ?_ | refine blk_alloc ?_ _)); exact BK.out) hb); have n4_ := Aside0.mk (below_step (by repeat (first | (with_reducible first | exact HBr.out | apply below_alloc | apply pw_below_drewN | apply below_drew1 | refine below_set ?_ GR.out) | exact HBr.out)) hb); clear BK HBr; have BK := n2_; have HBr := n4_; clear n2_ n4_ hb; have hcz13_0 : w12.cell? ⟨gb, 0, none⟩ = some (.int .i64 x.f0) := (blk_cell BK.out 0).trans rfl; have hfz13_0 := blk_frozen BK.out 0; have hcz13_1 : w12.cell? ⟨gb, 1, none⟩ = some (.int .i64 x.f1) := (blk_cell BK.out 1).trans rfl; have hfz13_1 := blk_frozen BK.out 1; have hcz13_2 : w12.cell? ⟨gb, 2, none⟩ = some (.int .i64 x.f2) := (blk_cell BK.out 2).trans rfl; have hfz13_2 := blk_frozen BK.out 2; have hcz13_3 : w12.cell? ⟨gb, 3, none⟩ = some (.int .i64 x.f3) := (blk_cell BK.out 3).trans rfl; have hfz13_3 := blk_frozen BK.out 3))
          go_roundg (l0.length - (j + 1))
          case measure => have := HI.out; have := HQ.out; omega
          case rel => exact ⟨i, j + 1, L, rfl, wrap_succ_i j (by have := HLN.out; have := HQ.out; omega), ⟨by have := HI.out; have := HQ.out; omega⟩, HD2, ⟨Kd.R_below HO.out (by exact (by repeat (first | (with_reducible first | exact HBr.out | apply below_alloc | apply pw_below_drewN | apply below_drew1 | refine below_set ?_ GR.out) | exact HBr.out)))⟩, ⟨HB.out.trans ((show Below wr.heap.size wr _ by exact (by repeat (first | (with_reducible first | exact HBr.out | apply below_alloc | apply pw_below_drewN | apply below_drew1 | refine below_set ?_ GR.out) | exact HBr.out))).mono HBS.out)⟩⟩
        | false =>
          have HPX : Aside0 (∀ W : World, Calls Try.prog gf #[Value.agg #[.int .i64 x.f0, .int .i64 x.f1, .int .i64 x.f2, .int .i64 x.f3]] W fun e w' => e = .returned (.bool false) ∧ Below W.heap.size W w') := ⟨fun W => by have := HP.out W x; rw [hq] at this; exact this⟩
          have HD2 : Aside0 (DelInv p l0 (L.set i x) (i + 1) (j + 1)) := ⟨by have := HD.out.keep z78 HQ.out (by rw [← XE.out]; exact hq); rw [← XE.out] at this; exact this⟩
          have hi0 : (i : Int) < (l0.length : Int) := by have := HI.out; omega
          have HI0 := Aside0.mk hi0
          clear hq
          go_wp2_with (first | ((with_reducible refine gate_dst (N := 7) rfl ?_); refine box_event ?hg (N := 7) ?hd (cs := #[.int .i64 0, .int .i64 0, .int .i64 0, .int .i64 0]) (t := 78) ?hr ?_; (case hd => rfl); (case hg => rfl); (case hr => first | (go_simp; done) | (go_simp; rfl)); intro gb hg w10 hbox hb; have n4_ := Aside0.mk (below_step (by repeat (first | (with_reducible first | exact HBr.out | apply below_alloc | apply pw_below_drewN | apply below_drew1) | exact HBr.out)) hb); have BK := Aside0.mk hbox; have GR := Aside0.mk ((by rw [hg]; exact (below_size (by repeat (first | (with_reducible first | exact HBr.out | apply below_alloc | apply pw_below_drewN | apply below_drew1) | exact HBr.out)))) : wr.heap.size ≤ gb); clear HBr; have HBr := n4_; clear n4_; clear hb hbox hg; have hcz11_0 : w10.cell? ⟨gb, 0, none⟩ = some (.int .i64 0) := (blk_cell BK.out 0).trans rfl; have hfz11_0 := blk_frozen BK.out 0; have hcz11_1 : w10.cell? ⟨gb, 1, none⟩ = some (.int .i64 0) := (blk_cell BK.out 1).trans rfl; have hfz11_1 := blk_frozen BK.out 1; have hcz11_2 : w10.cell? ⟨gb, 2, none⟩ = some (.int .i64 0) := (blk_cell BK.out 2).trans rfl; have hfz11_2 := blk_frozen BK.out 2; have hcz11_3 : w10.cell? ⟨gb, 3, none⟩ = some (.int .i64 0) := (blk_cell BK.out 3).trans rfl; have hfz11_3 := blk_frozen BK.out 3) | ((with_reducible refine (HPX.out _).mono ?_); rintro e w12 ⟨rfl, hb⟩; have n2_ := Aside0.mk (blk_below (g := gb) (o := .cells #[.int .i64 x.f0, .int .i64 x.f1, .int .i64 x.f2, .int .i64 x.f3] 78 (0, 0)) (by (with_reducible repeat (first | refine blk_drewN ?_ _ | refine blk_drew ?_ | refine blk_alloc ?_ _)); refine blk_put (cs := #[.int .i64 x.f0, .int .i64 x.f1, .int .i64 x.f2, .int .i64 0]) ?_ 3 _ rfl; (with_reducible repeat (first | refine blk_drewN ?_ _ | refine blk_drew ?_ | refine blk_alloc ?_ _)); refine blk_put (cs := #[.int .i64 x.f0, .int .i64 x.f1, .int .i64 0, .int .i64 0]) ?_ 2 _ rfl; (with_reducible repeat (first | refine blk_drewN ?_ _ | refine blk_drew ?_ | refine blk_alloc ?_ _)); refine blk_put (cs := #[.int .i64 x.f0, .int .i64 0, .int .i64 0, .int .i64 0]) ?_ 1 _ rfl; (with_reducible repeat (first | refine blk_drewN ?_ _ | refine blk_drew ?_ | refine blk_alloc ?_ _)); refine blk_put (cs := #[.int .i64 0, .int .i64 0, .int .i64 0, .int .i64 0]) ?_ 0 _ rfl; (with_reducible repeat (first | refine blk_drewN ?_ _ | refine blk_drew ?_ | refine blk_alloc ?_ _)); exact BK.out) hb); have n4_ := Aside0.mk (below_step (by repeat (first | (with_reducible first | exact HBr.out | apply below_alloc | apply pw_below_drewN | apply below_drew1 | refine below_set ?_ GR.out) | exact HBr.out)) hb); clear BK HBr; have BK := n2_; have HBr := n4_; clear n2_ n4_ hb; have hcz13_0 : w12.cell? ⟨gb, 0, none⟩ = some (.int .i64 x.f0) := (blk_cell BK.out 0).trans rfl; have hfz13_0 := blk_frozen BK.out 0; have hcz13_1 : w12.cell? ⟨gb, 1, none⟩ = some (.int .i64 x.f1) := (blk_cell BK.out 1).trans rfl; have hfz13_1 := blk_frozen BK.out 1; have hcz13_2 : w12.cell? ⟨gb, 2, none⟩ = some (.int .i64 x.f2) := (blk_cell BK.out 2).trans rfl; have hfz13_2 := blk_frozen BK.out 2; have hcz13_3 : w12.cell? ⟨gb, 3, none⟩ = some (.int .i64 x.f3) := (blk_cell BK.out 3).trans rfl; have hfz13_3 := blk_frozen BK.out 3; have HO3 := Aside0.mk (Kd.R_below HO.out HBr.out); have HBc := Aside0.mk (HB.out.trans (HBr.out.mono HBS.out)); obtain ⟨ce2, hcl2, hM2, hcc2, hfr2⟩ := Kd.R_elem HO3.out z78 (i : Int) (Int.natCast_nonneg i) HI0.out; obtain rfl := k78_openM hM2; have HP12 := Kd.R_seg HO3.out (i : Int) (Int.natCast_nonneg i) HI0.out (seg := [.int .i64 x.f0, .int .i64 x.f1, .int .i64 x.f2, .int .i64 x.f3]) (j := 0) hcl2 hcc2 (show 4 ≤ 4 from by decide) (x' := x) (k78_mkM _ _ _ x) (fun _ hk => hk); have hy0 : w12.cell? ⟨g, i * 4, none⟩ = some _ := hcc2 0 _ rfl; have hy1 : w12.cell? ⟨g, i * 4 + 1, none⟩ = some _ := hcc2 1 _ rfl; have hy2 : w12.cell? ⟨g, i * 4 + 2, none⟩ = some _ := hcc2 2 _ rfl; have hy3 : w12.cell? ⟨g, i * 4 + 3, none⟩ = some _ := hcc2 3 _ rfl; have hz0 : w12.frozen? ⟨g, i * 4, none⟩ = false := hfr2 0; have hz1 : w12.frozen? ⟨g, i * 4 + 1, none⟩ = false := hfr2 1; have hz2 : w12.frozen? ⟨g, i * 4 + 2, none⟩ = false := hfr2 2; have hz3 : w12.frozen? ⟨g, i * 4 + 3, none⟩ = false := hfr2 3; clear hcl2 hM2 hcc2 hfr2) | ((with_reducible refine gate_store (t := 78) (p := 33) rfl ?_); refine store_event (t := 78) (p := 33) (v := ?vo_w13) (w1 := ((((w12.setCell ⟨g, i * 4, none⟩ (.int .i64 x.f0)).setCell ⟨g, i * 4 + 1, none⟩ (.int .i64 x.f1)).setCell ⟨g, i * 4 + 2, none⟩ (.int .i64 x.f2)).setCell ⟨g, i * 4 + 3, none⟩ (.int .i64 x.f3))) ?hg ?ho ?hn ?hr ?_; (case ho => rfl); (case hg => rfl); (case hn => rfl); (case hr => first | (go_simp; done) | (go_simp; rfl)); intro w13 hw; have n0_ := Aside0.mk (show Kd.R k78 78 w13 base (fun _ => True) (.slice (some ⟨g, 0, none⟩) l0.length c0) (L.set i x) from (by rw [hw]; exact HP12.1)); have n1_ := Aside0.mk (show Below base w w13 from (by rw [hw]; exact (((HBc.out.setCell HG.out _).setCell HG.out _).setCell HG.out _).setCell HG.out _)); clear HP12 HO HB; have HO := n0_; have HB := n1_; clear n0_ n1_ hw))
          go_roundg (l0.length - (j + 1))
          case measure => have := HI.out; have := HQ.out; omega
          case rel => exact ⟨i + 1, j + 1, L.set i x, wrap_succ_i i (by have := HLN.out; have := HQ.out; have := HI.out; omega), wrap_succ_i j (by have := HLN.out; have := HQ.out; omega), ⟨by have := HI.out; have := HQ.out; omega⟩, HD2, HO, HB⟩
      · have hje : j = l0.length := by have := HI.out; omega
        subst hje
        have hltz : ¬ (l0.length : Int) < (l0.length : Int) := by omega
        have hil : i < l0.length := HI.out.1
        have hcc : l0.length ≤ c0 := (Kd.R_reads' HO.out).2.1
        have hcel : ∀ q, q < (l0.length - i) * 4 → (wr.cell? ⟨g, i * 4 + q, none⟩).isSome = true ∧ wr.frozen? ⟨g, i * 4 + q, none⟩ = false := fun q hq => by
          obtain ⟨ce2, hcl2, hM2, hcc2, hfr2⟩ := Kd.R_elem HO.out z78 (((i + q / 4 : Nat)) : Int) (by omega) (by omega)
          have e1 : i * 4 + q = ((i + q / 4 : Nat) : Int).toNat * (k78).sz + q % 4 := by show i * 4 + q = ((i + q / 4 : Nat) : Int).toNat * 4 + q % 4; omega
          have hq4 : q % 4 < ce2.length := by rw [hcl2]; exact Nat.mod_lt _ (by decide)
          rw [e1, hcc2 (q % 4) _ (List.getElem?_eq_getElem hq4), hfr2 (q % 4)]
          exact ⟨rfl, rfl⟩
        have hclr : ∀ ty, (Builtin.clear_ #[63] ty #[.slice (some ⟨g, i * 4, none⟩) (l0.length - i) (c0 - i)]).run Try.prog wr = .ok (.tuple #[]) (wr.setCells g (i * 4) (Builtin.zeroCells (#[.int .i64 0, .int .i64 0, .int .i64 0, .int .i64 0] : Array Value) (l0.length - i)).toList) := fun ty =>
          Go.Proofs.Ytanokgpnmbbajaa.RowKk.run_clear_rows wr 63 78 ty (.agg #[(.int .i64 0), (.int .i64 0), (.int .i64 0), (.int .i64 0)]) (#[.int .i64 0, .int .i64 0, .int .i64 0, .int .i64 0] : Array Value) Try.underlying63 Try.zeroValue78 rfl (by intro v hv; simp at hv; rw [hv]; rfl) (by decide) g (i * 4) (l0.length - i) (c0 - i) (by omega) (fun q hq => (hcel q hq).1) (fun q hq => (hcel q hq).2)
        clear hcel
        have HCC := Aside0.mk hcc
        have HTK := Aside0.mk (Kd.R_take HO.out (m := i) (by rw [HD.out.len]; omega))
        have HIL := Aside0.mk hil
        go_wp2_with (simp only [hclr])
        go_ret
        exact ⟨_, rfl, by rw [← HD.out.done]; exact Go.Proofs.Ytanokgpnmbbajaa.RowKk.R_beyond _ _ HTK.out (Nat.le_refl _), Go.Proofs.Ytanokgpnmbbajaa.RowKk.below_setCells HG.out _ _ HB.out⟩
end Go.Proofs.Ytanokgpnmbbajaa.PT
end
section
namespace Go.Proofs.Ytanokgpnmbbajaa.PT
open Go.RowKit Go.Proofs.YtanokgpnmbbajaaW.PrintWords Go.Proofs.YtanokgpnmbbajaaW.PrintLast Go.Proofs.YtanokgpnmbbajaaW.PrintMore
attribute [local go_sem] max2_int min2_int max_two min_two max_three min_three max_four min_four   -- for this text's walks alone
set_option linter.unusedVariables false
set_option linter.unusedSimpArgs false
def impl_Order_110.f (l0 : List S78) : Option (List S78) := if l0.length ≤ 4398046511104 then some l0 else none
set_option maxHeartbeats 4000000 in
theorem impl_Order_110.calls (A0 : Option Addr) (c0 : Nat) (l0 : List S78) (r : List S78) (w : World) (hr0 : Kd.C k78 w A0 l0.length l0) (hc0 : l0.length ≤ c0) (h : impl_Order_110.f l0 = some r) :
    Calls Try.prog 110 #[.slice A0 l0.length c0] w fun e w' => ∃ v0_ : Value, e = .returned (v0_) ∧ Kd.R k78 78 w' w.heap.size (fun _ => True) v0_ r ∧ Below w.heap.size w w' := by
  unfold impl_Order_110.f at h
  split at h
  · rename_i hlim
    obtain rfl := Option.some.inj h
    clear h
    have HLM := Aside0.mk hlim
    have HR0 := Aside0.mk hr0
    clear hlim hc0
    cases A0 with
    | none =>
      have hl : l0 = [] := by
        obtain ⟨_, _, h2⟩ := hr0
        rcases Nat.eq_zero_or_pos l0.length with h0 | h0
        · exact List.length_eq_zero_iff.1 h0
        · obtain ⟨ad, e, _⟩ := h2 h0; cases e
      subst hl
      clear hr0
      have heq := fun (w : World) (n c : Nat) => eql_nil (P := Try.prog) w 63 78 none n c Try.underlying63
      go_enter Try.func110, Try.ntmps110
      go_wp2
      go_ret
      exact ⟨_, rfl, Kd.R_nil _ _ _ _ _, Below.refl _ _⟩
    | some ad =>
      clear hr0
      have HB := Aside0.mk (Below.refl w.heap.size w)
      have heq := fun (w : World) (n c : Nat) => eql_nil (P := Try.prog) w 63 78 (some ad) n c Try.underlying63
      go_enter Try.func110, Try.ntmps110
      go_wp2_with (first | ((with_reducible refine gate_dst (N := 5) rfl ?_); refine Kd.R_lit k78 w.heap.size 78 ?hg (N := 5) ?hd (xs := ([] : List S78)) (inner := []) (ok := fun _ => True) (okp := fun _ => True) ?hr ?hp (fun _ hk => hk) trivial HB.out (Nat.le_refl _) (by simp) ?_; (case hd => rfl); (case hg => rfl); (case hr => first | (go_simp; done) | (go_simp; rfl)); (case hp => exact (Reps.none _ _)); intro v280 w9 ho10 hb hg_ hnew_; clear hg_ hnew_; clear HB; have HB := Aside0.mk hb; have HO := Aside0.mk ho10; clear hb ho10) | ((with_reducible refine gate_builtin (b := .append) (xs := #[.tmp 5, .tmp 6]) rfl ?_); at_builtin; refine Kd.R_append_rows k78 (w0 := w) w.heap.size rfl (.tmp 5) (.tmp 6) 63 78 (.agg #[(.int .i64 0), (.int .i64 0), (.int .i64 0), (.int .i64 0)]) 32 rfl Try.underlying63 info78 rfl (by decide) (by omega) v280 [] l0 _ _ _ (fun _ => True) (fun _ => False) rfl rfl ?aO ?aR (fun _ _ h => h) (fun _ h => h.elim) ?aF ?aB ?aS ?aL ?_; (case aR => exact (Kd.C_below HR0.out HB.out)); (case aB => exact HB.out); (case aF => exact (fun _ _ => trivial)); (case aO => exact HO.out); (case aS => exact (below_size HB.out)); (case aL => have := HLM.out; simp; omega); intro v283 w11 ho hb hg hat; clear hg hat; clear HB; have HB := Aside0.mk hb; have HO2 := Aside0.mk ho; clear ho hb))
      go_ret
      exact ⟨_, rfl, by simpa using HO2.out, HB.out⟩
  · cases h
def impl_isOpen.f (a0_0 : Int) (a0_1 : Int) (a0_2 : Int) (a0_3 : Int) : Option (Bool) := some (decide (a0_3 < 4))
set_option maxHeartbeats 8000000 in
set_option maxRecDepth 100000 in
theorem impl_isOpen.calls (a0_0 : Int) (a0_1 : Int) (a0_2 : Int) (a0_3 : Int) (r : Bool) (w : World) (h : impl_isOpen.f a0_0 a0_1 a0_2 a0_3 = some r) :
    Calls Try.prog 112 #[.agg #[.int .i64 a0_0, .int .i64 a0_1, .int .i64 a0_2, .int .i64 a0_3]] w fun e w' => e = .returned (.bool r) ∧ Below w.heap.size w w' := by
  have hu78 := Try.underlying78
  have HB := Aside0.mk (Below.refl w.heap.size w)
  have H : (some (decide (a0_3 < 4))) = some r := h
  clear h
  obtain rfl := Option.some.inj H
  go_enter Try.func112, Try.ntmps112
  go_wp2_with (first | ((with_reducible refine gate_dst (N := 1) rfl ?_); refine box_event ?hg (N := 1) ?hd (cs := #[.int .i64 a0_0, .int .i64 a0_1, .int .i64 a0_2, .int .i64 a0_3]) (t := 78) ?hr ?_; (case hd => rfl); (case hg => rfl); (case hr => first | (go_simp; done) | (go_simp; rfl)); intro gb139 hg w2 hbox hb; have n0_ := Aside0.mk (below_step (by repeat (first | (with_reducible first | exact HB.out | apply below_alloc | apply pw_below_drewN | apply below_drew1) | exact HB.out)) hb); have n1_ := Aside0.mk (hbox); have n2_ := Aside0.mk ((by rw [hg]; exact (below_size (by repeat (first | (with_reducible first | exact HB.out | apply below_alloc | apply pw_below_drewN | apply below_drew1) | exact HB.out))) : w.heap.size ≤ gb139)); have n3_ := Aside0.mk ((by rw [hg]; exact (below_size (by repeat (first | (with_reducible first | exact HB.out | apply below_alloc | apply pw_below_drewN | apply below_drew1) | exact HB.out))) : w.heap.size ≤ gb139)); clear HB; have HB := n0_; have BK139 := n1_; have GW139 := n2_; have GE139 := n3_; clear n0_ n1_ n2_ n3_; clear hb hbox hg; have hcz3_0 : w2.cell? ⟨gb139, 0, none⟩ = some (.int .i64 a0_0) := (blk_cell BK139.out 0).trans rfl; have hcz3_1 : w2.cell? ⟨gb139, 1, none⟩ = some (.int .i64 a0_1) := (blk_cell BK139.out 1).trans rfl; have hcz3_2 : w2.cell? ⟨gb139, 2, none⟩ = some (.int .i64 a0_2) := (blk_cell BK139.out 2).trans rfl; have hcz3_3 : w2.cell? ⟨gb139, 3, none⟩ = some (.int .i64 a0_3) := (blk_cell BK139.out 3).trans rfl; have hfz3_0 := blk_frozen BK139.out 0; have hfz3_1 := blk_frozen BK139.out 1; have hfz3_2 := blk_frozen BK139.out 2; have hfz3_3 := blk_frozen BK139.out 3))
  go_ret
  exact ⟨by first | rfl | (simp [errW_none, errW_some] <;> rfl) | (simp [*, errW_none, errW_some] <;> rfl), by repeat (first | (with_reducible first | exact HB.out | apply below_alloc | apply pw_below_drewN | apply below_drew1 | refine below_set ?_ GE139.out) | exact HB.out)⟩
theorem impl_PurgeOrders.pays (W : World) (x : S78) : Calls Try.prog 111 #[Value.agg #[.int .i64 x.f0, .int .i64 x.f1, .int .i64 x.f2, .int .i64 x.f3]] W fun e w' => e = .returned (.bool (!decide (x.f3 < 4))) ∧ Below W.heap.size W w' := by
  have HB := Aside0.mk (Below.refl W.heap.size W)
  by_cases h0 : x.f3 < 4
  · have b0 : decide (x.f3 < 4) = true := decide_eq_true h0
    have HD := Aside0.mk (show (!decide (x.f3 < 4)) = false by rw [b0]; rfl)
    clear h0
    go_enter Try.func111, Try.ntmps111
    go_wp2
    repeat (go_quiet (fail); try go_wp2)
    go_ret
    exact ⟨ret_b (by first | exact HD.out.symm | rfl), by repeat (first | (with_reducible first | exact HB.out | apply below_alloc | apply pw_below_drewN | apply below_drew1) | exact HB.out)⟩
  · have b0 : decide (x.f3 < 4) = false := decide_eq_false h0
    have HD := Aside0.mk (show (!decide (x.f3 < 4)) = true by rw [b0]; rfl)
    clear h0
    go_enter Try.func111, Try.ntmps111
    go_wp2
    repeat (go_quiet (fail); try go_wp2)
    go_ret
    exact ⟨ret_b (by first | exact HD.out.symm | rfl), by repeat (first | (with_reducible first | exact HB.out | apply below_alloc | apply pw_below_drewN | apply below_drew1) | exact HB.out)⟩
def impl_PurgeOrders.f (k : Nat) (l0 : List S78) : Option (List S78 × Int) := (impl_IsOrderBook.f k l0).bind fun t => (if t = true then (if l0.length ≤ 50 then some (l0.filter (fun o => decide (o.f3 < 4)), 0) else none) else some ([], 1))
set_option maxHeartbeats 8000000 in
set_option maxRecDepth 100000 in
theorem impl_PurgeOrders.calls (k : Nat) (A0 : Option Addr) (c0 : Nat) (l0 : List S78) (r1 : List S78) (r2 : Int) (w : World) (hr0 : Kd.C k78 w A0 l0.length l0) (hc0 : l0.length ≤ c0) (h : impl_PurgeOrders.f k l0 = some (r1, r2)) :
    Calls Try.prog 53 #[.slice A0 l0.length c0] w fun e w' => ∃ v0_ : Value, e = .returned (.tuple #[v0_, .int .i64 r2]) ∧ Kd.R k78 78 w' w.heap.size (fun _ => True) v0_ r1 ∧ Below w.heap.size w w' := by
  have ecl : ∀ args w, (callFunc 111 args).run Try.prog w = .ok (.enter 111 args) w := enters_fn Try.func111 (by kernel_rfl) rfl
  have HW := Aside0.mk (Below.refl w.heap.size w)
  have HEC := Aside0.mk ecl
  have HR0 := Aside0.mk hr0
  have HC0 := Aside0.mk hc0
  clear hr0 hc0 ecl
  unfold impl_PurgeOrders.f at h
  obtain ⟨t, h4, H⟩ := Option.bind_eq_some_iff.mp h
  have A4 := Aside0.mk h4
  clear h h4
  cases t with
  | false =>
    obtain ⟨rfl, rfl⟩ : [] = r1 ∧ 1 = r2 := by simpa using H
    clear H
    go_enter Try.func53, Try.ntmps53
    go_wp2_with (go_at_call 66; (with_reducible refine (impl_IsOrderBook.calls k _ _ l0 false _ ?side1 ?side2 A4.out).mono ?_); (case side1 => exact Kd.C_below HR0.out HW.out); (case side2 => exact HC0.out); rintro e w1 ⟨rfl, hb⟩; have HB1 := Aside0.mk (HW.out.trans (hb.mono HW.out.size)); clear hb)
    go_ret2
    exact ⟨_, rfl, Kd.R_nil _ _ _ _ _, HB1.out⟩
  | true =>
    rw [if_pos rfl] at H
    by_cases hl : l0.length ≤ 50
    · rw [if_pos hl] at H
      obtain ⟨rfl, rfl⟩ : l0.filter (fun o => decide (o.f3 < 4)) = r1 ∧ 0 = r2 := by simpa using H
      clear H
      have HLN := Aside0.mk hl
      have HCL := Aside0.mk (show impl_Order_110.f l0 = some l0 by unfold impl_Order_110.f; rw [if_pos (by omega)])
      have HFF := Aside0.mk (show l0.filter (fun o : S78 => !(!decide (o.f3 < 4))) = l0.filter (fun o => decide (o.f3 < 4)) by congr 1; funext o; exact Bool.not_not _)
      clear hl
      go_enter Try.func53, Try.ntmps53
      go_wp2_with (first | (go_at_call 66; (with_reducible refine (impl_IsOrderBook.calls k _ _ l0 true _ ?side1 ?side2 A4.out).mono ?_); (case side1 => exact Kd.C_below HR0.out HW.out); (case side2 => exact HC0.out); rintro e w1 ⟨rfl, hb⟩; have HB1 := Aside0.mk (HW.out.trans (hb.mono HW.out.size)); clear hb) | (go_at_call 110; (with_reducible refine (impl_Order_110.calls _ c0 l0 l0 _ (Kd.C_below HR0.out HB1.out) HC0.out HCL.out).mono ?_); rintro e w4 ⟨v0, rfl, hR, hb⟩; have HB4 := Aside0.mk (HB1.out.trans (hb.mono HB1.out.size)); obtain ⟨Ao, co, eo⟩ := Kd.R_slice hR; subst eo; have HO := Aside0.mk (Kd.R_lower hR HB1.out.size); clear hR hb) | (go_at_call 109; (with_reducible refine (slices_DeleteFunc_Order.calls _ _ l0 (fun o : S78 => !decide (o.f3 < 4)) 111 w.heap.size _ HO.out HB4.out.size (by have := HLN.out; omega) HEC.out impl_PurgeOrders.pays).mono ?_); rintro e w5 ⟨v1, rfl, hR, hb⟩; rw [HFF.out] at hR; have HO2 := Aside0.mk hR; have HB5 := Aside0.mk (HB4.out.trans hb); clear hR hb))
      go_ret2
      exact ⟨_, rfl, HO2.out, HB5.out⟩
    · rw [if_neg hl] at H; cases H
end Go.Proofs.Ytanokgpnmbbajaa.PT
end
