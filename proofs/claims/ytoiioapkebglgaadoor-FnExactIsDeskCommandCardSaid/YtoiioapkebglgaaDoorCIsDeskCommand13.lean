-- Gathered by this session's program wip/tool/shake.py out of its own texts and of what the kit's print and the session's patches of it wrote for this claim.
import Derived.Test.YtoiioapkebglgaaDoorCIsDeskCommand6
import Derived.Test.YtoiioapkebglgaaDoorCIsDeskCommand10
import Derived.Test.YtoiioapkebglgaaDoorCIsDeskCommand11
import Derived.Test.YtoiioapkebglgaaDoorCIsDeskCommand12
section
namespace Go.Proofs.YtoiioapkebglgaaDoor.PC
open Go.RowKit Go.Proofs.YtoiioapkebglgaaDoorW.PrintWords Go.Proofs.YtoiioapkebglgaaDoorW.PrintLast Go.Proofs.YtoiioapkebglgaaDoorW.PrintMore
attribute [local go_sem] max2_int min2_int max_two min_two max_three min_three max_four min_four   -- for this text's walks alone
set_option linter.unusedVariables false
set_option linter.unusedSimpArgs false
mutual
def impl_readCommand.j0 : Nat → ByteArray → List ByteArray → Bool → ByteArray → ByteArray → Option (ByteArray × List Int × ByteArray × Bool)
  | 0, _, _, _, _, _ => none
  | k + 1, x8, x10, x53, x171000, x171002 => if x53 = true then (some (x171000, ([] : List Int), x171002, false)) else (impl_readCommand.l0 k x8 x10 (x10.length : Int) 0 x171000 ([] : List Int) x171002)
def impl_readCommand.l0 : Nat → ByteArray → List ByteArray → Int → Int → ByteArray → List Int → ByteArray → Option (ByteArray × List Int × ByteArray × Bool)
  | 0, _, _, _, _, _, _, _ => none
  | k + 1, x8, x55, x56, x57, x171000, x171001, x171002 => if x57 < x56 then (if 0 ≤ x57 then (if x57 < (x55.length : Int) then (if x57 < (x8.size : Int) then (impl_readCommand.j2 k x8 (rdOf ByteArray.empty x55 x57) x55 x56 x57 ((bt x8 x57) == 119) x171000 x171001 x171002) else (impl_readCommand.j2 k x8 (rdOf ByteArray.empty x55 x57) x55 x56 x57 false x171000 x171001 x171002)) else (none)) else (none)) else (some (x171000, x171001, x171002, decide ((x171001.length : Int) ≤ 4000)))
def impl_readCommand.j2 : Nat → ByteArray → ByteArray → List ByteArray → Int → Int → Bool → ByteArray → List Int → ByteArray → Option (ByteArray × List Int × ByteArray × Bool)
  | 0, _, _, _, _, _, _, _, _, _ => none
  | k + 1, x8, x12, x55, x56, x57, x71, x171000, x171001, x171002 => if x71 = true then (if x12.toList = ([] : List UInt8) then (some (x171000, x171001, x12, false)) else (impl_readCommand.l0 k x8 x55 x56 (wrap64 (x57 + 1)) x171000 x171001 x12)) else ((impl_readNumber.f x12).bind fun bt179 => (if bt179.2 = true then (if x171001.length < 17592186044416 then (impl_readCommand.l0 k x8 x55 x56 (wrap64 (x57 + 1)) x171000 (x171001 ++ [bt179.1]) x171002) else (none)) else (some (x171000, x171001, x171002, false))))
end
def impl_readCommand.f (k : Nat) (a0 : ByteArray) : Option (ByteArray × List Int × ByteArray × Bool) := (strings_Split.f a0 (⟨#[32]⟩ : ByteArray)).bind fun t166 => (if 0 < (t166.length : Int) then ((impl_shapeOf.f k (rdOf ByteArray.empty t166 0)).bind fun bt171 => ((strings_CutSuffix.f bt171.1 (⟨#[46]⟩ : ByteArray)).bind fun bt173 => (if 1 ≤ (t166.length : Int) then ((some (t166.drop (1 : Int).toNat : List ByteArray)).bind fun y175 => (if bt171.2 = true then (if (y175.length : Int) < (bt173.1.size : Int) then (impl_readCommand.j0 k bt173.1 y175 true (rdOf ByteArray.empty t166 0) (⟨#[]⟩ : ByteArray)) else (if (y175.length : Int) > (bt173.1.size : Int) then (impl_readCommand.j0 k bt173.1 y175 (!bt173.2) (rdOf ByteArray.empty t166 0) (⟨#[]⟩ : ByteArray)) else (impl_readCommand.j0 k bt173.1 y175 false (rdOf ByteArray.empty t166 0) (⟨#[]⟩ : ByteArray)))) else (impl_readCommand.j0 k bt173.1 y175 true (rdOf ByteArray.empty t166 0) (⟨#[]⟩ : ByteArray)))) else (none)))) else (none))
set_option maxHeartbeats 8000000 in
set_option maxRecDepth 100000 in
theorem impl_readCommand.calls (k : Nat) (a0 : ByteArray) (r1 : ByteArray) (r2 : List Int) (r3 : ByteArray) (r4 : Bool) (w : World) (h : impl_readCommand.f k a0 = some (r1, r2, r3, r4)) (hT : TabW w) :
    Calls Tryd.prog 98 #[.string a0] w fun e w' => ∃ v1_ : Value, e = .returned (.tuple #[.agg #[.string r1, v1_, .string r3], .bool r4]) ∧ Kd.R (Kd.int .i64) 2 w' w.heap.size (fun _ => True) v1_ r2 ∧ Below w.heap.size w w' := by
  have HT := Aside0.mk hT
  clear hT
  have hu135 := Tryd.underlying135
  have HB := Aside0.mk (Below.refl w.heap.size w)
  have H : ((strings_Split.f a0 (⟨#[32]⟩ : ByteArray)).bind fun t166 => (if 0 < (t166.length : Int) then ((impl_shapeOf.f k (rdOf ByteArray.empty t166 0)).bind fun bt171 => ((strings_CutSuffix.f bt171.1 (⟨#[46]⟩ : ByteArray)).bind fun bt173 => (if 1 ≤ (t166.length : Int) then ((some (t166.drop (1 : Int).toNat : List ByteArray)).bind fun y175 => (if bt171.2 = true then (if (y175.length : Int) < (bt173.1.size : Int) then (impl_readCommand.j0 k bt173.1 y175 true (rdOf ByteArray.empty t166 0) (⟨#[]⟩ : ByteArray)) else (if (y175.length : Int) > (bt173.1.size : Int) then (impl_readCommand.j0 k bt173.1 y175 (!bt173.2) (rdOf ByteArray.empty t166 0) (⟨#[]⟩ : ByteArray)) else (impl_readCommand.j0 k bt173.1 y175 false (rdOf ByteArray.empty t166 0) (⟨#[]⟩ : ByteArray)))) else (impl_readCommand.j0 k bt173.1 y175 true (rdOf ByteArray.empty t166 0) (⟨#[]⟩ : ByteArray)))) else (none)))) else (none))) = some (r1, r2, r3, r4) := h
  clear h
  replace H := Option.bind_eq_some_iff.mp H
  obtain ⟨t166, A20, H⟩ := H
  replace H : (if 0 < (t166.length : Int) then ((impl_shapeOf.f k (rdOf ByteArray.empty t166 0)).bind fun bt171 => ((strings_CutSuffix.f bt171.1 (⟨#[46]⟩ : ByteArray)).bind fun bt173 => (if 1 ≤ (t166.length : Int) then ((some (t166.drop (1 : Int).toNat : List ByteArray)).bind fun y175 => (if bt171.2 = true then (if (y175.length : Int) < (bt173.1.size : Int) then (impl_readCommand.j0 k bt173.1 y175 true (rdOf ByteArray.empty t166 0) (⟨#[]⟩ : ByteArray)) else (if (y175.length : Int) > (bt173.1.size : Int) then (impl_readCommand.j0 k bt173.1 y175 (!bt173.2) (rdOf ByteArray.empty t166 0) (⟨#[]⟩ : ByteArray)) else (impl_readCommand.j0 k bt173.1 y175 false (rdOf ByteArray.empty t166 0) (⟨#[]⟩ : ByteArray)))) else (impl_readCommand.j0 k bt173.1 y175 true (rdOf ByteArray.empty t166 0) (⟨#[]⟩ : ByteArray)))) else (none)))) else (none)) = some (r1, r2, r3, r4) := H
  have A2 := Aside0.mk A20
  clear A20
  by_cases c3 : 0 < (t166.length : Int)
  · rw [if_pos c3] at H
    have c3b0 : decide (0 < (t166.length : Int)) = true := decide_eq_true c3
    have c3b1 : decide (0 < t166.length) = true := decide_eq_true (by omega)
    clear c3
    replace H := Option.bind_eq_some_iff.mp H
    obtain ⟨⟨t171, t172⟩, A40, H⟩ := H
    replace H : ((strings_CutSuffix.f t171 (⟨#[46]⟩ : ByteArray)).bind fun bt173 => (if 1 ≤ (t166.length : Int) then ((some (t166.drop (1 : Int).toNat : List ByteArray)).bind fun y175 => (if t172 = true then (if (y175.length : Int) < (bt173.1.size : Int) then (impl_readCommand.j0 k bt173.1 y175 true (rdOf ByteArray.empty t166 0) (⟨#[]⟩ : ByteArray)) else (if (y175.length : Int) > (bt173.1.size : Int) then (impl_readCommand.j0 k bt173.1 y175 (!bt173.2) (rdOf ByteArray.empty t166 0) (⟨#[]⟩ : ByteArray)) else (impl_readCommand.j0 k bt173.1 y175 false (rdOf ByteArray.empty t166 0) (⟨#[]⟩ : ByteArray)))) else (impl_readCommand.j0 k bt173.1 y175 true (rdOf ByteArray.empty t166 0) (⟨#[]⟩ : ByteArray)))) else (none))) = some (r1, r2, r3, r4) := H
    have A4 := Aside0.mk A40
    clear A40
    replace H := Option.bind_eq_some_iff.mp H
    obtain ⟨⟨t173, t174⟩, A50, H⟩ := H
    replace H : (if 1 ≤ (t166.length : Int) then ((some (t166.drop (1 : Int).toNat : List ByteArray)).bind fun y175 => (if t172 = true then (if (y175.length : Int) < (t173.size : Int) then (impl_readCommand.j0 k t173 y175 true (rdOf ByteArray.empty t166 0) (⟨#[]⟩ : ByteArray)) else (if (y175.length : Int) > (t173.size : Int) then (impl_readCommand.j0 k t173 y175 (!t174) (rdOf ByteArray.empty t166 0) (⟨#[]⟩ : ByteArray)) else (impl_readCommand.j0 k t173 y175 false (rdOf ByteArray.empty t166 0) (⟨#[]⟩ : ByteArray)))) else (impl_readCommand.j0 k t173 y175 true (rdOf ByteArray.empty t166 0) (⟨#[]⟩ : ByteArray)))) else (none)) = some (r1, r2, r3, r4) := H
    have A5 := Aside0.mk A50
    clear A50
    by_cases c6 : 1 ≤ (t166.length : Int)
    · rw [if_pos c6] at H
      have c6b0 := eq_true c6
      have c6b1 : decide (1 ≤ (t166.length : Int)) = true := decide_eq_true c6
      clear c6
      obtain ⟨y175, hy175⟩ : ∃ y_ : List ByteArray, y_ = (t166.drop (1 : Int).toNat) := ⟨_, rfl⟩
      replace H : (if t172 = true then (if (y175.length : Int) < (t173.size : Int) then (impl_readCommand.j0 k t173 y175 true (rdOf ByteArray.empty t166 0) (⟨#[]⟩ : ByteArray)) else (if (y175.length : Int) > (t173.size : Int) then (impl_readCommand.j0 k t173 y175 (!t174) (rdOf ByteArray.empty t166 0) (⟨#[]⟩ : ByteArray)) else (impl_readCommand.j0 k t173 y175 false (rdOf ByteArray.empty t166 0) (⟨#[]⟩ : ByteArray)))) else (impl_readCommand.j0 k t173 y175 true (rdOf ByteArray.empty t166 0) (⟨#[]⟩ : ByteArray))) = some (r1, r2, r3, r4) := by first | (rw [hy175]; with_reducible exact H) | (have H2_ := (Option.bind_some _ _).symm.trans H; rw [hy175]; with_reducible exact H2_) | (have H2_ := (Option.bind_some _ _).symm.trans H; with_reducible exact H2_) | with_reducible exact H | (rw [hy175]; exact H) | exact H
      have Ny175 := Aside0.mk hy175
      clear hy175
      have HC7 := Aside0.mk H
      clear H
      go_enter Tryd.func98, Tryd.ntmps98
      go_upto_region 6 with (first | ((with_reducible refine gate_dst (N := 2) rfl ?_); (try (refine gate_guard (by rfl) ?_; dsimp only)); refine box_event ?hg (N := 2) ?hd (cs := #[.string (⟨#[]⟩ : ByteArray), .slice none 0 0, .string (⟨#[]⟩ : ByteArray)]) (t := 135) ?hr ?_; (case hd => rfl); (case hg => rfl); (case hr => first | (go_simp; done) | (go_simp; rfl)); intro gb165 hg w8 hbox hb; have n0_ := Aside0.mk (below_step (by repeat (first | (with_reducible first | exact HB.out | apply below_alloc | apply pw_below_drewN | apply below_drew1) | exact HB.out)) hb); have n1_ := Aside0.mk (hbox); have n2_ := Aside0.mk ((by rw [hg]; exact (below_size (by repeat (first | (with_reducible first | exact HB.out | apply below_alloc | apply pw_below_drewN | apply below_drew1) | exact HB.out))) : w.heap.size ≤ gb165)); have n3_ := Aside0.mk ((by rw [hg]; exact (below_size (by repeat (first | (with_reducible first | exact HB.out | apply below_alloc | apply pw_below_drewN | apply below_drew1) | exact HB.out))) : w.heap.size ≤ gb165)); clear HB; have HB := n0_; have BK165 := n1_; have GW165 := n2_; have GE165 := n3_; clear n0_ n1_ n2_ n3_; clear hb hbox hg) | ((with_reducible refine gate_callee (f := 60) rfl ?_); refine goesL_ (some 16) rfl rfl Tryd.func60 (by kernel_rfl) rfl #[.string a0, .string (⟨#[32]⟩ : ByteArray)] rfl (by (try simp only [List.map_toArray, List.map_cons, List.map_nil]); first | done | rfl | (simp only [List.length_drop, List.length_take]; rfl)) ?_; (with_reducible refine (strings_Split.calls a0 (⟨#[32]⟩ : ByteArray) t166 _ A2.out (tabw_below HT.out (by repeat (first | (with_reducible first | exact HB.out | apply below_alloc | apply pw_below_drewN | apply below_drew1 | refine below_set ?_ GE165.out) | exact HB.out)))).mono ?_); rintro e w9 ⟨v167, rfl, ho0, hb⟩; refine ⟨_, rfl, ?_⟩; have n0_ := Aside0.mk (Kd.R_lower ho0 (below_size (by repeat (first | (with_reducible first | exact HB.out | apply below_alloc | apply pw_below_drewN | apply below_drew1 | refine below_set ?_ GE165.out) | exact HB.out)))); have n1_ := Aside0.mk (blk_below (g := gb165) (o := .cells #[.string (⟨#[]⟩ : ByteArray), .slice none 0 0, .string (⟨#[]⟩ : ByteArray)] 135 (0, 0)) (by (with_reducible repeat (first | refine blk_drewN ?_ _ | refine blk_drew ?_ | refine blk_alloc ?_ _)); exact BK165.out) hb); have n2_ := Aside0.mk (below_step (by repeat (first | (with_reducible first | exact HB.out | apply below_alloc | apply pw_below_drewN | apply below_drew1 | refine below_set ?_ GE165.out) | exact HB.out)) hb); clear BK165; clear HB; have HO168 := n0_; have BK165 := n1_; have HB := n2_; clear n0_ n1_ n2_; (try clear hb); (try clear hb2); (try clear hk); (try clear hi); (try clear ho0); obtain ⟨Ao10, co10, eo10⟩ := Kd.R_slice HO168.out; subst eo10; have p169 : 0 ≤ (0 : Int) := (by omega); have q169 : 0 < (t166.length : Int) := of_decide_eq_true (by first | (with_reducible assumption) | assumption); obtain ⟨ad169, e169, hx169_0⟩ := Kd.at_string (Kd.R_reads' HO168.out).2.2 0 p169 q169; cases e169; have qi169 : (0 < t166.length) = True := eq_true (by omega); (try rw [show ((0 : Int)).toNat = 0 from rfl] at hx169_0); (try rw [Addr.add_zero'] at hx169_0); replace p169 := eq_true p169; replace q169 := eq_true q169) | ((with_reducible refine gate_dst (N := 5) rfl ?_); (try (refine gate_guard (by rfl) ?_; dsimp only)); refine box_event ?hg (N := 5) ?hd (cs := #[.string (⟨#[]⟩ : ByteArray), .slice none 0 0, .string (⟨#[]⟩ : ByteArray)]) (t := 135) ?hr ?_; (case hd => rfl); (case hg => rfl); (case hr => first | (go_simp; done) | (go_simp; rfl)); intro gb170 hg w11 hbox hb; have n0_ := Aside0.mk (Kd.R_below (by (with_reducible repeat (first | apply Kd.R_alloc | apply Kd.R_drewN | apply Kd.R_drew)); exact HO168.out) hb); have n1_ := Aside0.mk (blk_below (g := gb165) (o := .cells #[.string (⟨#[]⟩ : ByteArray), .slice none 0 0, .string (⟨#[]⟩ : ByteArray)] 135 (0, 0)) (by (with_reducible repeat (first | refine blk_drewN ?_ _ | refine blk_drew ?_ | refine blk_alloc ?_ _)); exact BK165.out) hb); have n2_ := Aside0.mk (below_step (by repeat (first | (with_reducible first | exact HB.out | apply below_alloc | apply pw_below_drewN | apply below_drew1 | refine below_set ?_ GE165.out) | exact HB.out)) hb); have n3_ := Aside0.mk (hbox); have n4_ := Aside0.mk ((by rw [hg]; exact (below_size (by repeat (first | (with_reducible first | exact HB.out | apply below_alloc | apply pw_below_drewN | apply below_drew1 | refine below_set ?_ GE165.out) | exact HB.out))) : w.heap.size ≤ gb170)); have n5_ := Aside0.mk ((by rw [hg]; exact (below_size (by repeat (first | (with_reducible first | exact HB.out | apply below_alloc | apply pw_below_drewN | apply below_drew1 | refine below_set ?_ GE165.out) | exact HB.out))) : w.heap.size ≤ gb170)); have n6_ := Aside0.mk ((by rw [hg]; exact Nat.ne_of_lt (blk_lt (g := gb165) (o := .cells #[.string (⟨#[]⟩ : ByteArray), .slice none 0 0, .string (⟨#[]⟩ : ByteArray)] 135 (0, 0)) (by (with_reducible repeat (first | refine blk_drewN ?_ _ | refine blk_drew ?_ | refine blk_alloc ?_ _)); exact BK165.out)) : gb165 ≠ gb170)); have n7_ := Aside0.mk ((by rw [hg]; exact Nat.ne_of_gt (blk_lt (g := gb165) (o := .cells #[.string (⟨#[]⟩ : ByteArray), .slice none 0 0, .string (⟨#[]⟩ : ByteArray)] 135 (0, 0)) (by (with_reducible repeat (first | refine blk_drewN ?_ _ | refine blk_drew ?_ | refine blk_alloc ?_ _)); exact BK165.out)) : gb170 ≠ gb165)); clear HO168; clear BK165; clear HB; have HO168 := n0_; have BK165 := n1_; have HB := n2_; have BK170 := n3_; have GW170 := n4_; have GE170 := n5_; have NB165_170 := n6_; have NB170_165 := n7_; clear n0_ n1_ n2_ n3_ n4_ n5_ n6_ n7_; clear hb hbox hg; have hnb12 := NB170_165.out; have hnc12 := NB165_170.out; have hcz13_0 : w11.cell? ⟨gb170, 0, none⟩ = some (.string (⟨#[]⟩ : ByteArray)) := (blk_cell BK170.out 0).trans rfl; have hcz13_1 : w11.cell? ⟨gb170, 1, none⟩ = some (.slice none 0 0) := (blk_cell BK170.out 1).trans rfl; have hcz13_2 : w11.cell? ⟨gb170, 2, none⟩ = some (.string (⟨#[]⟩ : ByteArray)) := (blk_cell BK170.out 2).trans rfl; have hfz13_0 := blk_frozen BK170.out 0; have hfz13_1 := blk_frozen BK170.out 1; have hfz13_2 := blk_frozen BK170.out 2) | ((with_reducible refine gate_callee (f := 156) rfl ?_); refine goesL_ (some 24) rfl rfl Tryd.func156 (by kernel_rfl) rfl #[.string (rdOf ByteArray.empty t166 0)] rfl (by (try simp only [List.map_toArray, List.map_cons, List.map_nil]); first | done | rfl | (simp only [List.length_drop, List.length_take]; rfl)) ?_; (with_reducible refine (impl_shapeOf.calls k (rdOf ByteArray.empty t166 0) t171 t172 _ A4.out).mono ?_); rintro e w' ⟨rfl, ⟨nd, rfl⟩⟩; refine ⟨_, rfl, ?_⟩) | ((with_reducible refine gate_callee (f := 157) rfl ?_); refine goesL_ (some 29) rfl rfl Tryd.func157 (by kernel_rfl) rfl #[.string t171, .string (⟨#[46]⟩ : ByteArray)] rfl (by (try simp only [List.map_toArray, List.map_cons, List.map_nil]); first | done | rfl | (simp only [List.length_drop, List.length_take]; rfl)) ?_; (with_reducible refine (strings_CutSuffix.calls t171 (⟨#[46]⟩ : ByteArray) t173 t174 _ A5.out).mono ?_); rintro e w14 ⟨rfl, hb⟩; refine ⟨_, rfl, ?_⟩; have n0_ := Aside0.mk (Kd.R_below (by (with_reducible repeat (first | apply Kd.R_alloc | apply Kd.R_drewN | apply Kd.R_drew)); exact (Kd.R_mono (Kd.R_far (p := ⟨gb170, 2, none⟩) (Kd.R_far (p := ⟨gb170, 1, none⟩) (Kd.R_far (p := ⟨gb170, 0, none⟩) (Kd.R_types HO168.out BK170.out (by decide)) (fun _ hk => hk.2) (.string (rdOf ByteArray.empty t166 0))) (fun _ hk => hk.2) (.slice none 0 0)) (fun _ hk => hk.2) (.string (⟨#[]⟩ : ByteArray))) (fun _ h_ => h_.1))) hb); have n1_ := Aside0.mk (blk_below (g := gb165) (o := .cells #[.string (⟨#[]⟩ : ByteArray), .slice none 0 0, .string (⟨#[]⟩ : ByteArray)] 135 (0, 0)) (by (with_reducible repeat (first | refine blk_drewN ?_ _ | refine blk_drew ?_ | refine blk_alloc ?_ _)); refine blk_far ?_ NB165_170.out _; (with_reducible repeat (first | refine blk_drewN ?_ _ | refine blk_drew ?_ | refine blk_alloc ?_ _)); refine blk_far ?_ NB165_170.out _; (with_reducible repeat (first | refine blk_drewN ?_ _ | refine blk_drew ?_ | refine blk_alloc ?_ _)); refine blk_far ?_ NB165_170.out _; (with_reducible repeat (first | refine blk_drewN ?_ _ | refine blk_drew ?_ | refine blk_alloc ?_ _)); exact BK165.out) hb); have n2_ := Aside0.mk (blk_below (g := gb170) (o := .cells #[.string (rdOf ByteArray.empty t166 0), .slice none 0 0, .string (⟨#[]⟩ : ByteArray)] 135 (0, 0)) (by (with_reducible repeat (first | refine blk_drewN ?_ _ | refine blk_drew ?_ | refine blk_alloc ?_ _)); refine blk_put (cs := #[.string (rdOf ByteArray.empty t166 0), .slice none 0 0, .string (⟨#[]⟩ : ByteArray)]) ?_ 2 _ rfl; (with_reducible repeat (first | refine blk_drewN ?_ _ | refine blk_drew ?_ | refine blk_alloc ?_ _)); refine blk_put (cs := #[.string (rdOf ByteArray.empty t166 0), .slice none 0 0, .string (⟨#[]⟩ : ByteArray)]) ?_ 1 _ rfl; (with_reducible repeat (first | refine blk_drewN ?_ _ | refine blk_drew ?_ | refine blk_alloc ?_ _)); refine blk_put (cs := #[.string (⟨#[]⟩ : ByteArray), .slice none 0 0, .string (⟨#[]⟩ : ByteArray)]) ?_ 0 _ rfl; (with_reducible repeat (first | refine blk_drewN ?_ _ | refine blk_drew ?_ | refine blk_alloc ?_ _)); exact BK170.out) hb); have n3_ := Aside0.mk (below_step (by repeat (first | (with_reducible first | exact HB.out | apply below_alloc | apply pw_below_drewN | apply below_drew1 | refine below_set ?_ GE165.out | refine below_set ?_ GE170.out) | exact HB.out)) hb); clear HO168; clear BK165; clear BK170; clear HB; have HO168 := n0_; have BK165 := n1_; have BK170 := n2_; have HB := n3_; clear n0_ n1_ n2_ n3_; (try clear hb); (try clear hb2); (try clear hk); (try clear hi); have q15 : (1 : Int) ≤ ((t166.length : Int) : Int) := of_decide_eq_true (by first | (with_reducible assumption) | assumption); obtain ⟨i015, hi015, _, hsz15, _⟩ := info_parts info9; have hcut15 := cut_from (P := Tryd.prog) 96 9 .i64 Tryd.underlying96 hi015 1 hsz15 (some ad169) t166.length co10 1 (by omega) q15; have hr15 := Kd.Q_drop (k := (1 : Int).toNat) (Kd.Q_of_R HO168.out) (by omega); obtain ⟨A15, hA15⟩ : ∃ A1, A1 = (if co10 = (1 : Int).toNat then (some ad169) else ((some ad169) : Option Addr).map (·.add ((1 : Int).toNat * 1))) := ⟨_, rfl⟩; obtain ⟨c15, hc15⟩ : ∃ c1, c1 = co10 - (1 : Int).toNat := ⟨_, rfl⟩; have hy15 : y175.length = t166.length - (1 : Int).toNat := (by rw [Ny175.out, List.length_drop]); rw [← Ny175.out] at hr15; rw [← hy15, ← hA15, ← hc15] at hcut15; replace hr15 : Kd.Q Kd.string 9 w14 w.heap.size (fun _ => True) (.slice A15 y175.length c15) y175 := (by rw [hA15, hc15, hy15]; exact hr15); have HE15 : Aside0 ((Value.slice A15 y175.length c15).ownBlock = (.slice (some ad169) t166.length co10 : Value).ownBlock) := ⟨by rw [hA15]; split <;> (cases ((some ad169) : Option Addr) <;> rfl)⟩; clear hy15 hi015 hsz15 HO168 hA15 hc15; have HO177 := Aside0.mk hr15; clear hr15; replace q15 := eq_true q15))
      (try simp only [Act.put, List.setIfInBounds_toArray, List.set_cons_zero, List.set_cons_succ])
      go_cut [53] (fun v53 wc => ∃ (kq : Nat) (x53_6 : Bool), v53 = .bool x53_6 ∧ Aside0 (impl_readCommand.j0 kq t173 y175 x53_6 (rdOf ByteArray.empty t166 0) (⟨#[]⟩ : ByteArray) = some (r1, r2, r3, r4)) ∧ Aside0 (kq ≤ k) ∧ Aside0 (Kd.Q Kd.string 9 wc w.heap.size (fun _ => True) (.slice A15 y175.length c15) y175) ∧ Aside0 (wc.heap[gb165]? = some (.cells #[.string (⟨#[]⟩ : ByteArray), (.slice none 0 0), .string (⟨#[]⟩ : ByteArray)] 135 (0, 0))) ∧ Aside0 (wc.heap[gb170]? = some (.cells #[.string (rdOf ByteArray.empty t166 0), (.slice none 0 0), .string (⟨#[]⟩ : ByteArray)] 135 (0, 0))) ∧ Aside0 (Below w.heap.size w wc))
      case first =>
        have H := HC7.out
        clear HC7
        by_cases c16 : t172 = true
        · subst c16
          have H1 : (if (y175.length : Int) < (t173.size : Int) then (impl_readCommand.j0 k t173 y175 true (rdOf ByteArray.empty t166 0) (⟨#[]⟩ : ByteArray)) else (if (y175.length : Int) > (t173.size : Int) then (impl_readCommand.j0 k t173 y175 (!t174) (rdOf ByteArray.empty t166 0) (⟨#[]⟩ : ByteArray)) else (impl_readCommand.j0 k t173 y175 false (rdOf ByteArray.empty t166 0) (⟨#[]⟩ : ByteArray)))) = some (r1, r2, r3, r4) := by rw [if_pos rfl] at H; exact H
          clear H
          have H := H1
          clear H1
          by_cases c17 : (y175.length : Int) < (t173.size : Int)
          · rw [if_pos c17] at H
            have c17b0 : decide ((y175.length : Int) < (t173.size : Int)) = true := decide_eq_true c17
            have c17b1 : decide (y175.length < t173.size) = true := decide_eq_true (Int.ofNat_lt.mp c17)
            clear c17
            (first | rw [c17b0] | (simp only [i64_w, i32_w]; rw [c17b0]) | skip)
            have H' := Aside0.mk H
            clear H
            go_wp2
            go_meet
            case rel => exact ⟨_, (true), (by first | rfl | (simp; done) | (simp [*]; done)), H', ⟨by first | omega | exact Nat.le_refl _⟩, ⟨by (with_reducible repeat (first | apply Kd.Q_alloc | apply Kd.Q_drewN | apply Kd.Q_drew)); exact HO177.out⟩, ⟨by (with_reducible repeat (first | refine blk_drewN ?_ _ | refine blk_drew ?_ | refine blk_alloc ?_ _)); exact BK165.out⟩, ⟨by (with_reducible repeat (first | refine blk_drewN ?_ _ | refine blk_drew ?_ | refine blk_alloc ?_ _)); exact BK170.out⟩, ⟨by repeat (first | (with_reducible first | exact HB.out | apply below_alloc | apply pw_below_drewN | apply below_drew1 | refine below_set ?_ GE165.out | refine below_set ?_ GE170.out) | exact HB.out)⟩⟩
          · rw [if_neg c17] at H
            have c17b0 : decide ((y175.length : Int) < (t173.size : Int)) = false := decide_eq_false c17
            have c17b1 : decide (y175.length < t173.size) = false := decide_eq_false (fun h => c17 (Int.ofNat_lt.mpr h))
            clear c17
            (first | rw [c17b0] | (simp only [i64_w, i32_w]; rw [c17b0]) | skip)
            by_cases c18 : (y175.length : Int) > (t173.size : Int)
            · rw [if_pos c18] at H
              have c18b0 : decide ((t173.size : Int) < (y175.length : Int)) = true := decide_eq_true c18
              have c18b1 : decide (t173.size < y175.length) = true := decide_eq_true (Int.ofNat_lt.mp c18)
              clear c18
              have H' := Aside0.mk H
              clear H
              go_wp2
              go_meet
              case rel => exact ⟨_, (!t174), (by first | rfl | (simp; done) | (simp [*]; done)), H', ⟨by first | omega | exact Nat.le_refl _⟩, ⟨by (with_reducible repeat (first | apply Kd.Q_alloc | apply Kd.Q_drewN | apply Kd.Q_drew)); exact HO177.out⟩, ⟨by (with_reducible repeat (first | refine blk_drewN ?_ _ | refine blk_drew ?_ | refine blk_alloc ?_ _)); exact BK165.out⟩, ⟨by (with_reducible repeat (first | refine blk_drewN ?_ _ | refine blk_drew ?_ | refine blk_alloc ?_ _)); exact BK170.out⟩, ⟨by repeat (first | (with_reducible first | exact HB.out | apply below_alloc | apply pw_below_drewN | apply below_drew1 | refine below_set ?_ GE165.out | refine below_set ?_ GE170.out) | exact HB.out)⟩⟩
            · rw [if_neg c18] at H
              have c18b0 : decide ((t173.size : Int) < (y175.length : Int)) = false := decide_eq_false c18
              have c18b1 : decide (t173.size < y175.length) = false := decide_eq_false (fun h => c18 (Int.ofNat_lt.mpr h))
              clear c18
              have H' := Aside0.mk H
              clear H
              go_wp2
              go_meet
              case rel => exact ⟨_, (false), (by first | rfl | (simp; done) | (simp [*]; done)), H', ⟨by first | omega | exact Nat.le_refl _⟩, ⟨by (with_reducible repeat (first | apply Kd.Q_alloc | apply Kd.Q_drewN | apply Kd.Q_drew)); exact HO177.out⟩, ⟨by (with_reducible repeat (first | refine blk_drewN ?_ _ | refine blk_drew ?_ | refine blk_alloc ?_ _)); exact BK165.out⟩, ⟨by (with_reducible repeat (first | refine blk_drewN ?_ _ | refine blk_drew ?_ | refine blk_alloc ?_ _)); exact BK170.out⟩, ⟨by repeat (first | (with_reducible first | exact HB.out | apply below_alloc | apply pw_below_drewN | apply below_drew1 | refine below_set ?_ GE165.out | refine below_set ?_ GE170.out) | exact HB.out)⟩⟩
        · replace c16 := Bool.eq_false_iff.mpr c16
          subst c16
          have H1 : (impl_readCommand.j0 k t173 y175 true (rdOf ByteArray.empty t166 0) (⟨#[]⟩ : ByteArray)) = some (r1, r2, r3, r4) := by rw [if_neg (show ¬ (false = true) by decide)] at H; exact H
          clear H
          have H := H1
          clear H1
          have H' := Aside0.mk H
          clear H
          go_wp2
          go_meet
          case rel => exact ⟨_, (true), (by first | rfl | (simp; done) | (simp [*]; done)), H', ⟨by first | omega | exact Nat.le_refl _⟩, ⟨by (with_reducible repeat (first | apply Kd.Q_alloc | apply Kd.Q_drewN | apply Kd.Q_drew)); exact HO177.out⟩, ⟨by (with_reducible repeat (first | refine blk_drewN ?_ _ | refine blk_drew ?_ | refine blk_alloc ?_ _)); exact BK165.out⟩, ⟨by (with_reducible repeat (first | refine blk_drewN ?_ _ | refine blk_drew ?_ | refine blk_alloc ?_ _)); exact BK170.out⟩, ⟨by repeat (first | (with_reducible first | exact HB.out | apply below_alloc | apply pw_below_drewN | apply below_drew1 | refine below_set ?_ GE165.out | refine below_set ?_ GE170.out) | exact HB.out)⟩⟩
      case rest =>
        clear HC7
        try clear c1
        try clear p1
        try clear q1
        try clear hx1
        try clear qi1
        try clear p2
        try clear c3
        try clear c3b0
        try clear c3b1
        try clear c6
        try clear c6b0
        try clear c6b1
        try clear c9
        try clear c12
        try clear c15
        try clear q15
        try clear c16
        try clear p16
        try clear q16
        try clear hx16
        try clear qi16
        try clear c17
        try clear c17b0
        try clear c17b1
        try clear c18
        try clear c18b0
        try clear c18b1
        try clear hcz13_0
        try clear hcz13_1
        try clear hcz13_2
        try clear hfz13_0
        try clear hfz13_1
        try clear hfz13_2
        try clear hx169_0
        try clear p169
        try clear q15
        try clear q169
        obtain ⟨kq, x53_6, rfl, HA, HJ6, HO_10, BK165, BK170, HB⟩ := hcut
        cases kq with
        | zero => exact absurd HA.out (by simp [impl_readCommand.j0])
        | succ kj6 =>
          have H := HA.out
          clear HA
          simp only [impl_readCommand.j0] at H
          by_cases c19 : x53_6 = true
          · subst c19
            have H1 : (some ((rdOf ByteArray.empty t166 0), ([] : List Int), (⟨#[]⟩ : ByteArray), false)) = some (r1, r2, r3, r4) := by rw [if_pos rfl] at H; exact H
            clear H
            have H := H1
            clear H1
            simp only [Option.some.injEq, Prod.mk.injEq] at H
            obtain ⟨rfl, rfl, rfl, rfl⟩ := H
            have hnb20 := NB170_165.out
            have hnc20 := NB165_170.out
            have hcz21_0 : wc.cell? ⟨gb170, 0, none⟩ = some (.string (rdOf ByteArray.empty t166 0)) := (blk_cell BK170.out 0).trans rfl
            have hcz21_1 : wc.cell? ⟨gb170, 1, none⟩ = some (.slice none 0 0) := (blk_cell BK170.out 1).trans rfl
            have hcz21_2 : wc.cell? ⟨gb170, 2, none⟩ = some (.string (⟨#[]⟩ : ByteArray)) := (blk_cell BK170.out 2).trans rfl
            have hfz21_0 := blk_frozen BK170.out 0
            have hfz21_1 := blk_frozen BK170.out 1
            have hfz21_2 := blk_frozen BK170.out 2
            have hcz22_0 : wc.cell? ⟨gb165, 0, none⟩ = some (.string (⟨#[]⟩ : ByteArray)) := (blk_cell BK165.out 0).trans rfl
            have hcz22_1 : wc.cell? ⟨gb165, 1, none⟩ = some (.slice none 0 0) := (blk_cell BK165.out 1).trans rfl
            have hcz22_2 : wc.cell? ⟨gb165, 2, none⟩ = some (.string (⟨#[]⟩ : ByteArray)) := (blk_cell BK165.out 2).trans rfl
            have hfz22_0 := blk_frozen BK165.out 0
            have hfz22_1 := blk_frozen BK165.out 1
            have hfz22_2 := blk_frozen BK165.out 2
            go_wp2
            refine bodyPost_ret (results_ct rfl _ _ gb165 135 #[.string (rdOf ByteArray.empty t166 0), .slice none 0 0, .string (⟨#[]⟩ : ByteArray)] (0, 0) _ rfl (by (with_reducible repeat (first | refine blk_drewN ?_ _ | refine blk_drew ?_ | refine blk_alloc ?_ _)); refine blk_put (cs := #[.string (rdOf ByteArray.empty t166 0), .slice none 0 0, .string (⟨#[]⟩ : ByteArray)]) ?_ 2 _ rfl; (with_reducible repeat (first | refine blk_drewN ?_ _ | refine blk_drew ?_ | refine blk_alloc ?_ _)); refine blk_put (cs := #[.string (rdOf ByteArray.empty t166 0), .slice none 0 0, .string (⟨#[]⟩ : ByteArray)]) ?_ 1 _ rfl; (with_reducible repeat (first | refine blk_drewN ?_ _ | refine blk_drew ?_ | refine blk_alloc ?_ _)); refine blk_put (cs := #[.string (⟨#[]⟩ : ByteArray), .slice none 0 0, .string (⟨#[]⟩ : ByteArray)]) ?_ 0 _ rfl; (with_reducible repeat (first | refine blk_drewN ?_ _ | refine blk_drew ?_ | refine blk_alloc ?_ _)); exact BK165.out) Tryd.underlying135 rfl (by kernel_rfl)) rfl ?_
            exact ⟨_, by first | rfl | (simp [errW_none, errW_some] <;> rfl) | (simp [*, errW_none, errW_some] <;> rfl), by first | exact Kd.R_nil _ _ _ _ _ | exact Kd.N_nil _ _ _ _ _ | exact Kd.V_nil _ _ _ _ _ | exact Kd.Q_nil _ _ _ _ _ | exact Kd.S_nil _ _ _ _ _, by repeat (first | (with_reducible first | exact HB.out | apply below_alloc | apply pw_below_drewN | apply below_drew1 | refine below_set ?_ GE165.out | refine below_set ?_ GE170.out) | exact HB.out)⟩
          · replace c19 := Bool.eq_false_iff.mpr c19
            subst c19
            have H1 : (impl_readCommand.l0 kj6 t173 y175 (y175.length : Int) 0 (rdOf ByteArray.empty t166 0) ([] : List Int) (⟨#[]⟩ : ByteArray)) = some (r1, r2, r3, r4) := by rw [if_neg (show ¬ (false = true) by decide)] at H; exact H
            clear H
            have H := H1
            clear H1
            have H' := Aside0.mk H
            clear H
            go_wp2
            go_loopg [57] kj6 (fun kq v57 w' => ∃ (x57_2 : Int) (x166000_2 : ByteArray) (x166002_2 : ByteArray) (x171001_2 : List Int) (x171002_2 : ByteArray) (u171001 : Value), v57 = .int .i64 x57_2 ∧ Aside0 (impl_readCommand.l0 kq t173 y175 (y175.length : Int) x57_2 (rdOf ByteArray.empty t166 0) x171001_2 x171002_2 = some (r1, r2, r3, r4)) ∧ Aside0 (kq ≤ kj6) ∧ Aside0 (Kd.Q Kd.string 9 w' w.heap.size (fun _ => True) (.slice A15 y175.length c15) y175) ∧ Aside0 (Kd.R (Kd.int .i64) 2 w' w.heap.size (fun _ => True) u171001 x171001_2) ∧ Aside0 (w'.heap[gb165]? = some (.cells #[.string x166000_2, (.slice none 0 0), .string x166002_2] 135 (0, 0))) ∧ Aside0 (w'.heap[gb170]? = some (.cells #[.string (rdOf ByteArray.empty t166 0), u171001, .string x171002_2] 135 (0, 0))) ∧ Aside0 (Below w.heap.size w w'))
            case atStart => exact ⟨(0), ((⟨#[]⟩ : ByteArray)), ((⟨#[]⟩ : ByteArray)), (([] : List Int)), ((⟨#[]⟩ : ByteArray)), (.slice none 0 0), (by first | rfl | (simp; done) | (simp [*]; done)), H', ⟨Nat.le_refl _⟩, ⟨by (with_reducible repeat (first | apply Kd.Q_alloc | apply Kd.Q_drewN | apply Kd.Q_drew)); exact HO_10.out⟩, ⟨by first | exact Kd.R_nil _ _ _ _ _ | exact Kd.N_nil _ _ _ _ _ | exact Kd.V_nil _ _ _ _ _ | exact Kd.Q_nil _ _ _ _ _ | exact Kd.S_nil _ _ _ _ _⟩, ⟨by (with_reducible repeat (first | refine blk_drewN ?_ _ | refine blk_drew ?_ | refine blk_alloc ?_ _)); exact BK165.out⟩, ⟨by (with_reducible repeat (first | refine blk_drewN ?_ _ | refine blk_drew ?_ | refine blk_alloc ?_ _)); exact BK170.out⟩, ⟨by repeat (first | (with_reducible first | exact HB.out | apply below_alloc | apply pw_below_drewN | apply below_drew1 | refine below_set ?_ GE165.out | refine below_set ?_ GE170.out) | exact HB.out)⟩⟩
            case round =>
              clear H'
              try clear c1
              try clear p1
              try clear q1
              try clear hx1
              try clear qi1
              try clear c2
              try clear p2
              try clear c3
              try clear c3b0
              try clear c3b1
              try clear c6
              try clear c6b0
              try clear c6b1
              try clear c9
              try clear c12
              try clear c15
              try clear q15
              try clear c16
              try clear p16
              try clear q16
              try clear hx16
              try clear qi16
              try clear c17
              try clear c17b0
              try clear c17b1
              try clear c18
              try clear c18b0
              try clear c18b1
              try clear c19
              try clear c20
              try clear hcz13_0
              try clear hcz13_1
              try clear hcz13_2
              try clear hcz21_0
              try clear hcz21_1
              try clear hcz21_2
              try clear hcz22_0
              try clear hcz22_1
              try clear hcz22_2
              try clear hfz13_0
              try clear hfz13_1
              try clear hfz13_2
              try clear hfz21_0
              try clear hfz21_1
              try clear hfz21_2
              try clear hfz22_0
              try clear hfz22_1
              try clear hfz22_2
              try clear hx169_0
              try clear p1
              try clear p16
              try clear p169
              try clear p2
              try clear q1
              try clear q15
              try clear q16
              try clear q169
              obtain ⟨x57_2, x166000_2, x166002_2, x171001_2, x171002_2, u171001, rfl, HA, HK2, HO_55, HO_171001, BK165, BK170, HB⟩ := hrel
              cases gk with
              | zero => exact absurd HA.out (by simp [impl_readCommand.l0])
              | succ k2 =>
                have H := HA.out
                clear HA
                simp only [impl_readCommand.l0] at H
                by_cases c23 : x57_2 < (y175.length : Int)
                · rw [if_pos c23] at H
                  have c23b0 : decide (x57_2 < (y175.length : Int)) = true := decide_eq_true c23
                  clear c23
                  by_cases c24 : 0 ≤ x57_2
                  · rw [if_pos c24] at H
                    have c24b0 : decide (0 ≤ x57_2) = true := decide_eq_true c24
                    clear c24
                    by_cases c25 : x57_2 < (y175.length : Int)
                    · rw [if_pos c25] at H
                      have c25b0 : decide (x57_2 < (y175.length : Int)) = true := decide_eq_true c25
                      clear c25
                      have HC26 := Aside0.mk H
                      clear H
                      have p178 : 0 ≤ (x57_2 : Int) := of_decide_eq_true (by first | (with_reducible assumption) | assumption)
                      have q178 : x57_2 < (y175.length : Int) := of_decide_eq_true (by first | (with_reducible assumption) | assumption)
                      obtain ⟨ad178, e178, hx178_0⟩ := Kd.at_string (Kd.Q_reads' HO_55.out).2.2 x57_2 p178 q178
                      cases e178
                      replace p178 := eq_true p178
                      replace q178 := eq_true q178
                      go_upto_region 11 with (fail)
                      go_cut [71] (fun v71 wc => ∃ (kq : Nat) (x71_25 : Bool), v71 = .bool x71_25 ∧ Aside0 (impl_readCommand.j2 kq t173 (rdOf ByteArray.empty y175 x57_2) y175 (y175.length : Int) x57_2 x71_25 (rdOf ByteArray.empty t166 0) x171001_2 x171002_2 = some (r1, r2, r3, r4)) ∧ Aside0 (kq ≤ k2) ∧ Aside0 (Kd.Q Kd.string 9 wc w.heap.size (fun _ => True) (.slice (some ad178) y175.length c15) y175) ∧ Aside0 (Kd.R (Kd.int .i64) 2 wc w.heap.size (fun _ => True) u171001 x171001_2) ∧ Aside0 (wc.heap[gb165]? = some (.cells #[.string x166000_2, (.slice none 0 0), .string x166002_2] 135 (0, 0))) ∧ Aside0 (wc.heap[gb170]? = some (.cells #[.string (rdOf ByteArray.empty t166 0), u171001, .string x171002_2] 135 (0, 0))) ∧ Aside0 (Below w.heap.size w wc))
                      case first =>
                        have H := HC26.out
                        clear HC26
                        by_cases c27 : x57_2 < (t173.size : Int)
                        · rw [if_pos c27] at H
                          have c27b0 : decide (x57_2 < (t173.size : Int)) = true := decide_eq_true c27
                          clear c27
                          (first | rw [c27b0] | (simp only [i64_w, i32_w]; rw [c27b0]) | skip)
                          have H' := Aside0.mk H
                          clear H
                          have p28 : 0 ≤ (x57_2 : Int) := of_decide_eq_true (by first | (with_reducible assumption) | assumption)
                          have q28 : x57_2 < (t173.size : Int) := of_decide_eq_true (by first | (with_reducible assumption) | assumption)
                          have hx28 := bt_at t173 x57_2
                          replace p28 := eq_true p28
                          replace q28 := eq_true q28
                          go_wp2
                          go_meet
                          case rel => exact ⟨_, (((bt t173 x57_2) == 119)), (by first | rfl | (simp; done) | (simp [*]; done)), H', ⟨by have := HJ6.out; have := HK2.out; first | omega | exact Nat.le_refl _⟩, ⟨by (with_reducible repeat (first | apply Kd.Q_alloc | apply Kd.Q_drewN | apply Kd.Q_drew)); exact HO_55.out⟩, ⟨by (with_reducible repeat (first | apply Kd.R_alloc | apply Kd.R_drewN | apply Kd.R_drew)); exact HO_171001.out⟩, ⟨by (with_reducible repeat (first | refine blk_drewN ?_ _ | refine blk_drew ?_ | refine blk_alloc ?_ _)); exact BK165.out⟩, ⟨by (with_reducible repeat (first | refine blk_drewN ?_ _ | refine blk_drew ?_ | refine blk_alloc ?_ _)); exact BK170.out⟩, ⟨by repeat (first | (with_reducible first | exact HB.out | apply below_alloc | apply pw_below_drewN | apply below_drew1 | refine below_set ?_ GE165.out | refine below_set ?_ GE170.out) | exact HB.out)⟩⟩
                        · rw [if_neg c27] at H
                          have c27b0 : decide (x57_2 < (t173.size : Int)) = false := decide_eq_false c27
                          clear c27
                          (first | rw [c27b0] | (simp only [i64_w, i32_w]; rw [c27b0]) | skip)
                          have H' := Aside0.mk H
                          clear H
                          go_wp2
                          go_meet
                          case rel => exact ⟨_, (false), (by first | rfl | (simp; done) | (simp [*]; done)), H', ⟨by have := HJ6.out; have := HK2.out; first | omega | exact Nat.le_refl _⟩, ⟨by (with_reducible repeat (first | apply Kd.Q_alloc | apply Kd.Q_drewN | apply Kd.Q_drew)); exact HO_55.out⟩, ⟨by (with_reducible repeat (first | apply Kd.R_alloc | apply Kd.R_drewN | apply Kd.R_drew)); exact HO_171001.out⟩, ⟨by (with_reducible repeat (first | refine blk_drewN ?_ _ | refine blk_drew ?_ | refine blk_alloc ?_ _)); exact BK165.out⟩, ⟨by (with_reducible repeat (first | refine blk_drewN ?_ _ | refine blk_drew ?_ | refine blk_alloc ?_ _)); exact BK170.out⟩, ⟨by repeat (first | (with_reducible first | exact HB.out | apply below_alloc | apply pw_below_drewN | apply below_drew1 | refine below_set ?_ GE165.out | refine below_set ?_ GE170.out) | exact HB.out)⟩⟩
                      case rest =>
                        clear HC26
                        try clear c1
                        try clear p1
                        try clear q1
                        try clear hx1
                        try clear qi1
                        try clear c2
                        try clear p2
                        try clear q2
                        try clear hx2
                        try clear c3
                        try clear c3b0
                        try clear c3b1
                        try clear c6
                        try clear c6b0
                        try clear c6b1
                        try clear c9
                        try clear c12
                        try clear c15
                        try clear q15
                        try clear c16
                        try clear p16
                        try clear q16
                        try clear hx16
                        try clear qi16
                        try clear c17
                        try clear c17b0
                        try clear c17b1
                        try clear p17
                        try clear q17
                        try clear hx17
                        try clear c18
                        try clear c18b0
                        try clear c18b1
                        try clear c19
                        try clear c20
                        try clear c23
                        try clear c23b0
                        try clear c24
                        try clear c24b0
                        try clear c25
                        try clear c25b0
                        try clear c27
                        try clear c27b0
                        try clear p28
                        try clear q28
                        try clear hx28
                        try clear hcz13_0
                        try clear hcz13_1
                        try clear hcz13_2
                        try clear hcz21_0
                        try clear hcz21_1
                        try clear hcz21_2
                        try clear hcz22_0
                        try clear hcz22_1
                        try clear hcz22_2
                        try clear hfz13_0
                        try clear hfz13_1
                        try clear hfz13_2
                        try clear hfz21_0
                        try clear hfz21_1
                        try clear hfz21_2
                        try clear hfz22_0
                        try clear hfz22_1
                        try clear hfz22_2
                        try clear hx169_0
                        try clear hx178_0
                        try clear p1
                        try clear p16
                        try clear p169
                        try clear p178
                        try clear p2
                        try clear p28
                        try clear q1
                        try clear q15
                        try clear q16
                        try clear q169
                        try clear q178
                        try clear q28
                        obtain ⟨kq, x71_25, rfl, HA, HJ25, HO_55, HO_171001, BK165, BK170, HB⟩ := hcut
                        cases kq with
                        | zero => exact absurd HA.out (by simp [impl_readCommand.j2])
                        | succ kj25 =>
                          have H := HA.out
                          clear HA
                          simp only [impl_readCommand.j2] at H
                          by_cases c29 : x71_25 = true
                          · subst c29
                            have H1 : (if (rdOf ByteArray.empty y175 x57_2).toList = ([] : List UInt8) then (some ((rdOf ByteArray.empty t166 0), x171001_2, (rdOf ByteArray.empty y175 x57_2), false)) else (impl_readCommand.l0 kj25 t173 y175 (y175.length : Int) (wrap64 (x57_2 + 1)) (rdOf ByteArray.empty t166 0) x171001_2 (rdOf ByteArray.empty y175 x57_2))) = some (r1, r2, r3, r4) := by rw [if_pos rfl] at H; exact H
                            clear H
                            have H := H1
                            clear H1
                            by_cases c30 : (rdOf ByteArray.empty y175 x57_2).toList = ([] : List UInt8)
                            · rw [if_pos c30] at H
                              have c30b0 : ((rdOf ByteArray.empty y175 x57_2).toList == ([] : List UInt8)) = true := beq_iff_eq.mpr c30
                              have c30b1 : ((rdOf ByteArray.empty y175 x57_2).toList != ([] : List UInt8)) = false := bne_eq_false_iff_eq.mpr c30
                              clear c30
                              simp only [Option.some.injEq, Prod.mk.injEq] at H
                              obtain ⟨rfl, rfl, rfl, rfl⟩ := H
                              have hnb31 := NB170_165.out
                              have hnc31 := NB165_170.out
                              have hcz32_0 : wc.cell? ⟨gb170, 0, none⟩ = some (.string (rdOf ByteArray.empty t166 0)) := (blk_cell BK170.out 0).trans rfl
                              have hcz32_1 : wc.cell? ⟨gb170, 1, none⟩ = some (u171001) := (blk_cell BK170.out 1).trans rfl
                              have hcz32_2 : wc.cell? ⟨gb170, 2, none⟩ = some (.string x171002_2) := (blk_cell BK170.out 2).trans rfl
                              have hfz32_0 := blk_frozen BK170.out 0
                              have hfz32_1 := blk_frozen BK170.out 1
                              have hfz32_2 := blk_frozen BK170.out 2
                              have hcz33_0 : wc.cell? ⟨gb165, 0, none⟩ = some (.string x166000_2) := (blk_cell BK165.out 0).trans rfl
                              have hcz33_1 : wc.cell? ⟨gb165, 1, none⟩ = some (.slice none 0 0) := (blk_cell BK165.out 1).trans rfl
                              have hcz33_2 : wc.cell? ⟨gb165, 2, none⟩ = some (.string x166002_2) := (blk_cell BK165.out 2).trans rfl
                              have hfz33_0 := blk_frozen BK165.out 0
                              have hfz33_1 := blk_frozen BK165.out 1
                              have hfz33_2 := blk_frozen BK165.out 2
                              obtain ⟨Ao34, co34, eo34⟩ := Kd.R_slice HO_171001.out
                              subst eo34
                              go_wp2
                              refine bodyPost_ret (results_ct rfl _ _ gb165 135 #[.string (rdOf ByteArray.empty t166 0), .slice Ao34 x171001_2.length co34, .string (rdOf ByteArray.empty y175 x57_2)] (0, 0) _ rfl (by (with_reducible repeat (first | refine blk_drewN ?_ _ | refine blk_drew ?_ | refine blk_alloc ?_ _)); refine blk_put (cs := #[.string (rdOf ByteArray.empty t166 0), .slice Ao34 x171001_2.length co34, .string x166002_2]) ?_ 2 _ rfl; (with_reducible repeat (first | refine blk_drewN ?_ _ | refine blk_drew ?_ | refine blk_alloc ?_ _)); refine blk_put (cs := #[.string (rdOf ByteArray.empty t166 0), .slice none 0 0, .string x166002_2]) ?_ 1 _ rfl; (with_reducible repeat (first | refine blk_drewN ?_ _ | refine blk_drew ?_ | refine blk_alloc ?_ _)); refine blk_put (cs := #[.string x166000_2, .slice none 0 0, .string x166002_2]) ?_ 0 _ rfl; (with_reducible repeat (first | refine blk_drewN ?_ _ | refine blk_drew ?_ | refine blk_alloc ?_ _)); refine blk_far ?_ NB165_170.out _; (with_reducible repeat (first | refine blk_drewN ?_ _ | refine blk_drew ?_ | refine blk_alloc ?_ _)); exact BK165.out) Tryd.underlying135 rfl (by kernel_rfl)) rfl ?_
                              exact ⟨_, by first | rfl | (simp [errW_none, errW_some] <;> rfl) | (simp [*, errW_none, errW_some] <;> rfl), by (with_reducible repeat (first | apply Kd.R_alloc | apply Kd.R_drewN | apply Kd.R_drew)); exact Kd.R_mono (Kd.R_far (p := ⟨gb165, 2, none⟩) (Kd.R_far (p := ⟨gb165, 1, none⟩) (Kd.R_far (p := ⟨gb165, 0, none⟩) (Kd.R_far (p := ⟨gb170, 2, none⟩) (Kd.R_types (Kd.R_types HO_171001.out BK170.out (by decide)) BK165.out (by decide)) (fun _ hk => hk.1.2) (.string (rdOf ByteArray.empty y175 x57_2))) (fun _ hk => hk.2) (.string (rdOf ByteArray.empty t166 0))) (fun _ hk => hk.2) (.slice Ao34 x171001_2.length co34)) (fun _ hk => hk.2) (.string (rdOf ByteArray.empty y175 x57_2))) (fun _ hk => trivial), by repeat (first | (with_reducible first | exact HB.out | apply below_alloc | apply pw_below_drewN | apply below_drew1 | refine below_set ?_ GE165.out | refine below_set ?_ GE170.out) | exact HB.out)⟩
                            · rw [if_neg c30] at H
                              have c30b0 : ((rdOf ByteArray.empty y175 x57_2).toList == ([] : List UInt8)) = false := beq_eq_false_iff_ne.mpr c30
                              have c30b1 : ((rdOf ByteArray.empty y175 x57_2).toList != ([] : List UInt8)) = true := bne_iff_ne.mpr c30
                              have H' := Aside0.mk H
                              clear H
                              have hnb35 := NB170_165.out
                              have hnc35 := NB165_170.out
                              have hcz36_0 : wc.cell? ⟨gb170, 0, none⟩ = some (.string (rdOf ByteArray.empty t166 0)) := (blk_cell BK170.out 0).trans rfl
                              have hcz36_1 : wc.cell? ⟨gb170, 1, none⟩ = some (u171001) := (blk_cell BK170.out 1).trans rfl
                              have hcz36_2 : wc.cell? ⟨gb170, 2, none⟩ = some (.string x171002_2) := (blk_cell BK170.out 2).trans rfl
                              have hfz36_0 := blk_frozen BK170.out 0
                              have hfz36_1 := blk_frozen BK170.out 1
                              have hfz36_2 := blk_frozen BK170.out 2
                              go_wp2
                              go_roundg kj25
                              case measure => have := HJ6.out; have := HK2.out; have := HJ25.out; omega
                              case rel => exact ⟨(wrap64 (x57_2 + 1)), (x166000_2), (x166002_2), (x171001_2), ((rdOf ByteArray.empty y175 x57_2)), (u171001), (by first | rfl | (simp; done) | (simp [*]; done)), H', ⟨by have := HJ6.out; have := HK2.out; have := HJ25.out; omega⟩, ⟨by (with_reducible repeat (first | apply Kd.Q_alloc | apply Kd.Q_drewN | apply Kd.Q_drew)); exact Kd.Q_mono (Kd.Q_far (p := ⟨gb170, 2, none⟩) (Kd.Q_types HO_55.out BK170.out (by decide)) (fun _ hk => hk.2) (.string (rdOf ByteArray.empty y175 x57_2))) (fun _ hk => trivial)⟩, ⟨by (with_reducible repeat (first | apply Kd.R_alloc | apply Kd.R_drewN | apply Kd.R_drew)); exact Kd.R_mono (Kd.R_far (p := ⟨gb170, 2, none⟩) (Kd.R_types HO_171001.out BK170.out (by decide)) (fun _ hk => hk.2) (.string (rdOf ByteArray.empty y175 x57_2))) (fun _ hk => trivial)⟩, ⟨by (with_reducible repeat (first | refine blk_drewN ?_ _ | refine blk_drew ?_ | refine blk_alloc ?_ _)); refine blk_far ?_ NB165_170.out _; (with_reducible repeat (first | refine blk_drewN ?_ _ | refine blk_drew ?_ | refine blk_alloc ?_ _)); exact BK165.out⟩, ⟨by (with_reducible repeat (first | refine blk_drewN ?_ _ | refine blk_drew ?_ | refine blk_alloc ?_ _)); refine blk_put (cs := #[.string (rdOf ByteArray.empty t166 0), u171001, .string x171002_2]) ?_ 2 _ rfl; (with_reducible repeat (first | refine blk_drewN ?_ _ | refine blk_drew ?_ | refine blk_alloc ?_ _)); exact BK170.out⟩, ⟨by repeat (first | (with_reducible first | exact HB.out | apply below_alloc | apply pw_below_drewN | apply below_drew1 | refine below_set ?_ GE165.out | refine below_set ?_ GE170.out) | exact HB.out)⟩⟩
                          · replace c29 := Bool.eq_false_iff.mpr c29
                            subst c29
                            have H1 : ((impl_readNumber.f (rdOf ByteArray.empty y175 x57_2)).bind fun bt179 => (if bt179.2 = true then (if x171001_2.length < 17592186044416 then (impl_readCommand.l0 kj25 t173 y175 (y175.length : Int) (wrap64 (x57_2 + 1)) (rdOf ByteArray.empty t166 0) (x171001_2 ++ [bt179.1]) x171002_2) else (none)) else (some ((rdOf ByteArray.empty t166 0), x171001_2, x171002_2, false)))) = some (r1, r2, r3, r4) := by rw [if_neg (show ¬ (false = true) by decide)] at H; exact H
                            clear H
                            have H := H1
                            clear H1
                            replace H := Option.bind_eq_some_iff.mp H
                            obtain ⟨⟨t179, t180⟩, A370, H⟩ := H
                            replace H : (if t180 = true then (if x171001_2.length < 17592186044416 then (impl_readCommand.l0 kj25 t173 y175 (y175.length : Int) (wrap64 (x57_2 + 1)) (rdOf ByteArray.empty t166 0) (x171001_2 ++ [t179]) x171002_2) else (none)) else (some ((rdOf ByteArray.empty t166 0), x171001_2, x171002_2, false))) = some (r1, r2, r3, r4) := H
                            have A37 := Aside0.mk A370
                            clear A370
                            by_cases c38 : t180 = true
                            · subst c38
                              have H1 : (if x171001_2.length < 17592186044416 then (impl_readCommand.l0 kj25 t173 y175 (y175.length : Int) (wrap64 (x57_2 + 1)) (rdOf ByteArray.empty t166 0) (x171001_2 ++ [t179]) x171002_2) else (none)) = some (r1, r2, r3, r4) := by rw [if_pos rfl] at H; exact H
                              clear H
                              have H := H1
                              clear H1
                              by_cases c39 : x171001_2.length < 17592186044416
                              · rw [if_pos c39] at H
                                have LMc39 := Aside0.mk c39
                                clear c39
                                obtain ⟨y181, hy181⟩ : ∃ y_ : List Int, y_ = (x171001_2 ++ [t179]) := ⟨_, rfl⟩
                                replace H : (impl_readCommand.l0 kj25 t173 y175 (y175.length : Int) (wrap64 (x57_2 + 1)) (rdOf ByteArray.empty t166 0) y181 x171002_2) = some (r1, r2, r3, r4) := by first | (rw [hy181]; with_reducible exact H) | (have H2_ := (Option.bind_some _ _).symm.trans H; rw [hy181]; with_reducible exact H2_) | (have H2_ := (Option.bind_some _ _).symm.trans H; with_reducible exact H2_) | with_reducible exact H | (rw [hy181]; exact H) | exact H
                                have Ny181 := Aside0.mk hy181
                                clear hy181
                                have H' := Aside0.mk H
                                clear H
                                go_wp2_with (first | ((with_reducible refine gate_callee (f := 158) rfl ?_); refine goesL_ (some 79) rfl rfl Tryd.func158 (by kernel_rfl) rfl #[.string (rdOf ByteArray.empty y175 x57_2)] rfl (by (try simp only [List.map_toArray, List.map_cons, List.map_nil]); first | done | rfl | (simp only [List.length_drop, List.length_take]; rfl)) ?_; (with_reducible refine (impl_readNumber.calls (rdOf ByteArray.empty y175 x57_2) t179 true _ A37.out (tabw_below HT.out (by repeat (first | (with_reducible first | exact HB.out | apply below_alloc | apply pw_below_drewN | apply below_drew1 | refine below_set ?_ GE165.out | refine below_set ?_ GE170.out) | exact HB.out)))).mono ?_); rintro e w40 ⟨rfl, hb⟩; refine ⟨_, rfl, ?_⟩; have n0_ := Aside0.mk (Kd.Q_below (by (with_reducible repeat (first | apply Kd.Q_alloc | apply Kd.Q_drewN | apply Kd.Q_drew)); exact HO_55.out) hb); have n1_ := Aside0.mk (Kd.R_below (by (with_reducible repeat (first | apply Kd.R_alloc | apply Kd.R_drewN | apply Kd.R_drew)); exact HO_171001.out) hb); have n2_ := Aside0.mk (blk_below (g := gb165) (o := .cells #[.string x166000_2, .slice none 0 0, .string x166002_2] 135 (0, 0)) (by (with_reducible repeat (first | refine blk_drewN ?_ _ | refine blk_drew ?_ | refine blk_alloc ?_ _)); exact BK165.out) hb); have n3_ := Aside0.mk (blk_below (g := gb170) (o := .cells #[.string (rdOf ByteArray.empty t166 0), u171001, .string x171002_2] 135 (0, 0)) (by (with_reducible repeat (first | refine blk_drewN ?_ _ | refine blk_drew ?_ | refine blk_alloc ?_ _)); exact BK170.out) hb); have n4_ := Aside0.mk (below_step (by repeat (first | (with_reducible first | exact HB.out | apply below_alloc | apply pw_below_drewN | apply below_drew1 | refine below_set ?_ GE165.out | refine below_set ?_ GE170.out) | exact HB.out)) hb); clear HO_55; clear HO_171001; clear BK165; clear BK170; clear HB; have HO_55 := n0_; have HO_171001 := n1_; have BK165 := n2_; have BK170 := n3_; have HB := n4_; clear n0_ n1_ n2_ n3_ n4_; (try clear hb); (try clear hb2); (try clear hk); (try clear hi); have hnb41 := NB170_165.out; have hnc41 := NB165_170.out; have hcz42_0 : w40.cell? ⟨gb170, 0, none⟩ = some (.string (rdOf ByteArray.empty t166 0)) := (blk_cell BK170.out 0).trans rfl; have hcz42_1 : w40.cell? ⟨gb170, 1, none⟩ = some (u171001) := (blk_cell BK170.out 1).trans rfl; have hcz42_2 : w40.cell? ⟨gb170, 2, none⟩ = some (.string x171002_2) := (blk_cell BK170.out 2).trans rfl; have hfz42_0 := blk_frozen BK170.out 0; have hfz42_1 := blk_frozen BK170.out 1; have hfz42_2 := blk_frozen BK170.out 2) | ((with_reducible refine gate_builtin (b := .append) (xs := #[.tmp 86, .tmp 88]) rfl ?_); (try (refine gate_guard (by rfl) ?_; dsimp only)); at_builtin; refine Kd.R_append (Kd.int .i64) (w0 := w) w.heap.size rfl (.tmp 86) (.tmp 88) 31 2 (.int .i64 0) 8 rfl Tryd.underlying31 info2 rfl (by decide) (by omega) u171001 x171001_2 t179 [.int .i64 t179] (fun _ => True) (fun _ => False) rfl rfl ?aP (fun _ hk => hk.elim) ?aF ?aO ?aB ?aS ?aL ?_; (case aP => exact rfl); (case aB => exact (by repeat (first | (with_reducible first | exact HB.out | apply below_alloc | apply pw_below_drewN | apply below_drew1 | refine below_set ?_ GE165.out | refine below_set ?_ GE170.out) | exact HB.out))); (case aF => exact (fun _ _ => trivial)); (case aO => exact (by (with_reducible repeat (first | apply Kd.R_alloc | apply Kd.R_drewN | apply Kd.R_drew)); exact HO_171001.out)); (case aS => exact (below_size (by repeat (first | (with_reducible first | exact HB.out | apply below_alloc | apply pw_below_drewN | apply below_drew1 | refine below_set ?_ GE165.out | refine below_set ?_ GE170.out) | exact HB.out)))); (case aL => have := LMc39.out; omega); intro v182 w43 ho hb hg hat; rw [← Ny181.out] at ho; have n0_ := Aside0.mk (Kd.Q_over' (by (with_reducible repeat (first | apply Kd.Q_alloc | apply Kd.Q_drewN | apply Kd.Q_drew)); exact HO_55.out) (Kd.R_typed (by (with_reducible repeat (first | apply Kd.R_alloc | apply Kd.R_drewN | apply Kd.R_drew)); exact HO_171001.out)) (by decide) hg); have n1_ := Aside0.mk (blk_grown (g := gb165) (o := .cells #[.string x166000_2, .slice none 0 0, .string x166002_2] 135 (0, 0)) (by (with_reducible repeat (first | refine blk_drewN ?_ _ | refine blk_drew ?_ | refine blk_alloc ?_ _)); exact BK165.out) hg (Kd.R_ne HO_171001.out BK165.out (by decide))); have n2_ := Aside0.mk (blk_grown (g := gb170) (o := .cells #[.string (rdOf ByteArray.empty t166 0), u171001, .string x171002_2] 135 (0, 0)) (by (with_reducible repeat (first | refine blk_drewN ?_ _ | refine blk_drew ?_ | refine blk_alloc ?_ _)); exact BK170.out) hg (Kd.R_ne HO_171001.out BK170.out (by decide))); have n3_ := Aside0.mk (hb); have n4_ := Aside0.mk (ho); clear HO_55; clear BK165; clear BK170; clear HB; clear HO_171001; have HO_55 := n0_; have BK165 := n1_; have BK170 := n2_; have HB := n3_; have HO183 := n4_; clear n0_ n1_ n2_ n3_ n4_; clear ho hb hg hat; obtain ⟨Ao44, co44, eo44⟩ := Kd.R_slice HO183.out; subst eo44; have hcz45_0 : w43.cell? ⟨gb170, 0, none⟩ = some (.string (rdOf ByteArray.empty t166 0)) := (blk_cell BK170.out 0).trans rfl; have hcz45_1 : w43.cell? ⟨gb170, 1, none⟩ = some (u171001) := (blk_cell BK170.out 1).trans rfl; have hcz45_2 : w43.cell? ⟨gb170, 2, none⟩ = some (.string x171002_2) := (blk_cell BK170.out 2).trans rfl; have hfz45_0 := blk_frozen BK170.out 0; have hfz45_1 := blk_frozen BK170.out 1; have hfz45_2 := blk_frozen BK170.out 2))
                                go_roundg kj25
                                case measure => have := HJ6.out; have := HK2.out; have := HJ25.out; omega
                                case rel => exact ⟨(wrap64 (x57_2 + 1)), (x166000_2), (x166002_2), (y181), (x171002_2), (.slice Ao44 y181.length co44), (by first | rfl | (simp; done) | (simp [*]; done)), H', ⟨by have := HJ6.out; have := HK2.out; have := HJ25.out; omega⟩, ⟨by (with_reducible repeat (first | apply Kd.Q_alloc | apply Kd.Q_drewN | apply Kd.Q_drew)); exact Kd.Q_mono (Kd.Q_far (p := ⟨gb170, 1, none⟩) (Kd.Q_types HO_55.out BK170.out (by decide)) (fun _ hk => hk.2) (.slice Ao44 y181.length co44)) (fun _ hk => trivial)⟩, ⟨by (with_reducible repeat (first | apply Kd.R_alloc | apply Kd.R_drewN | apply Kd.R_drew)); exact Kd.R_mono (Kd.R_far (p := ⟨gb170, 1, none⟩) (Kd.R_types HO183.out BK170.out (by decide)) (fun _ hk => hk.2) (.slice Ao44 y181.length co44)) (fun _ hk => trivial)⟩, ⟨by (with_reducible repeat (first | refine blk_drewN ?_ _ | refine blk_drew ?_ | refine blk_alloc ?_ _)); refine blk_far ?_ NB165_170.out _; (with_reducible repeat (first | refine blk_drewN ?_ _ | refine blk_drew ?_ | refine blk_alloc ?_ _)); exact BK165.out⟩, ⟨by (with_reducible repeat (first | refine blk_drewN ?_ _ | refine blk_drew ?_ | refine blk_alloc ?_ _)); refine blk_put (cs := #[.string (rdOf ByteArray.empty t166 0), u171001, .string x171002_2]) ?_ 1 _ rfl; (with_reducible repeat (first | refine blk_drewN ?_ _ | refine blk_drew ?_ | refine blk_alloc ?_ _)); exact BK170.out⟩, ⟨by repeat (first | (with_reducible first | exact HB.out | apply below_alloc | apply pw_below_drewN | apply below_drew1 | refine below_set ?_ GE165.out | refine below_set ?_ GE170.out) | exact HB.out)⟩⟩
                              · rw [if_neg c39] at H
                                exact absurd H (by simp)
                            · replace c38 := Bool.eq_false_iff.mpr c38
                              subst c38
                              have H1 : (some ((rdOf ByteArray.empty t166 0), x171001_2, x171002_2, false)) = some (r1, r2, r3, r4) := by rw [if_neg (show ¬ (false = true) by decide)] at H; exact H
                              clear H
                              have H := H1
                              clear H1
                              simp only [Option.some.injEq, Prod.mk.injEq] at H
                              obtain ⟨rfl, rfl, rfl, rfl⟩ := H
                              go_wp2_with (first | ((with_reducible refine gate_callee (f := 158) rfl ?_); refine goesL_ (some 79) rfl rfl Tryd.func158 (by kernel_rfl) rfl #[.string (rdOf ByteArray.empty y175 x57_2)] rfl (by (try simp only [List.map_toArray, List.map_cons, List.map_nil]); first | done | rfl | (simp only [List.length_drop, List.length_take]; rfl)) ?_; (with_reducible refine (impl_readNumber.calls (rdOf ByteArray.empty y175 x57_2) t179 false _ A37.out (tabw_below HT.out (by repeat (first | (with_reducible first | exact HB.out | apply below_alloc | apply pw_below_drewN | apply below_drew1 | refine below_set ?_ GE165.out | refine below_set ?_ GE170.out) | exact HB.out)))).mono ?_); rintro e w46 ⟨rfl, hb⟩; refine ⟨_, rfl, ?_⟩; have n0_ := Aside0.mk (Kd.Q_below (by (with_reducible repeat (first | apply Kd.Q_alloc | apply Kd.Q_drewN | apply Kd.Q_drew)); exact HO_55.out) hb); have n1_ := Aside0.mk (Kd.R_below (by (with_reducible repeat (first | apply Kd.R_alloc | apply Kd.R_drewN | apply Kd.R_drew)); exact HO_171001.out) hb); have n2_ := Aside0.mk (blk_below (g := gb165) (o := .cells #[.string x166000_2, .slice none 0 0, .string x166002_2] 135 (0, 0)) (by (with_reducible repeat (first | refine blk_drewN ?_ _ | refine blk_drew ?_ | refine blk_alloc ?_ _)); exact BK165.out) hb); have n3_ := Aside0.mk (blk_below (g := gb170) (o := .cells #[.string (rdOf ByteArray.empty t166 0), u171001, .string x171002_2] 135 (0, 0)) (by (with_reducible repeat (first | refine blk_drewN ?_ _ | refine blk_drew ?_ | refine blk_alloc ?_ _)); exact BK170.out) hb); have n4_ := Aside0.mk (below_step (by repeat (first | (with_reducible first | exact HB.out | apply below_alloc | apply pw_below_drewN | apply below_drew1 | refine below_set ?_ GE165.out | refine below_set ?_ GE170.out) | exact HB.out)) hb); clear HO_55; clear HO_171001; clear BK165; clear BK170; clear HB; have HO_55 := n0_; have HO_171001 := n1_; have BK165 := n2_; have BK170 := n3_; have HB := n4_; clear n0_ n1_ n2_ n3_ n4_; (try clear hb); (try clear hb2); (try clear hk); (try clear hi); have hnb47 := NB170_165.out; have hnc47 := NB165_170.out; have hcz48_0 : w46.cell? ⟨gb170, 0, none⟩ = some (.string (rdOf ByteArray.empty t166 0)) := (blk_cell BK170.out 0).trans rfl; have hcz48_1 : w46.cell? ⟨gb170, 1, none⟩ = some (u171001) := (blk_cell BK170.out 1).trans rfl; have hcz48_2 : w46.cell? ⟨gb170, 2, none⟩ = some (.string x171002_2) := (blk_cell BK170.out 2).trans rfl; have hfz48_0 := blk_frozen BK170.out 0; have hfz48_1 := blk_frozen BK170.out 1; have hfz48_2 := blk_frozen BK170.out 2; have hcz49_0 : w46.cell? ⟨gb165, 0, none⟩ = some (.string x166000_2) := (blk_cell BK165.out 0).trans rfl; have hcz49_1 : w46.cell? ⟨gb165, 1, none⟩ = some (.slice none 0 0) := (blk_cell BK165.out 1).trans rfl; have hcz49_2 : w46.cell? ⟨gb165, 2, none⟩ = some (.string x166002_2) := (blk_cell BK165.out 2).trans rfl; have hfz49_0 := blk_frozen BK165.out 0; have hfz49_1 := blk_frozen BK165.out 1; have hfz49_2 := blk_frozen BK165.out 2; obtain ⟨Ao50, co50, eo50⟩ := Kd.R_slice HO_171001.out; subst eo50))
                              refine bodyPost_ret (results_ct rfl _ _ gb165 135 #[.string (rdOf ByteArray.empty t166 0), .slice Ao50 x171001_2.length co50, .string x171002_2] (0, 0) _ rfl (by (with_reducible repeat (first | refine blk_drewN ?_ _ | refine blk_drew ?_ | refine blk_alloc ?_ _)); refine blk_put (cs := #[.string (rdOf ByteArray.empty t166 0), .slice Ao50 x171001_2.length co50, .string x166002_2]) ?_ 2 _ rfl; (with_reducible repeat (first | refine blk_drewN ?_ _ | refine blk_drew ?_ | refine blk_alloc ?_ _)); refine blk_put (cs := #[.string (rdOf ByteArray.empty t166 0), .slice none 0 0, .string x166002_2]) ?_ 1 _ rfl; (with_reducible repeat (first | refine blk_drewN ?_ _ | refine blk_drew ?_ | refine blk_alloc ?_ _)); refine blk_put (cs := #[.string x166000_2, .slice none 0 0, .string x166002_2]) ?_ 0 _ rfl; (with_reducible repeat (first | refine blk_drewN ?_ _ | refine blk_drew ?_ | refine blk_alloc ?_ _)); exact BK165.out) Tryd.underlying135 rfl (by kernel_rfl)) rfl ?_
                              exact ⟨_, by first | rfl | (simp [errW_none, errW_some] <;> rfl) | (simp [*, errW_none, errW_some] <;> rfl), by (with_reducible repeat (first | apply Kd.R_alloc | apply Kd.R_drewN | apply Kd.R_drew)); exact Kd.R_mono (Kd.R_far (p := ⟨gb165, 2, none⟩) (Kd.R_far (p := ⟨gb165, 1, none⟩) (Kd.R_far (p := ⟨gb165, 0, none⟩) (Kd.R_types HO_171001.out BK165.out (by decide)) (fun _ hk => hk.2) (.string (rdOf ByteArray.empty t166 0))) (fun _ hk => hk.2) (.slice Ao50 x171001_2.length co50)) (fun _ hk => hk.2) (.string x171002_2)) (fun _ hk => trivial), by repeat (first | (with_reducible first | exact HB.out | apply below_alloc | apply pw_below_drewN | apply below_drew1 | refine below_set ?_ GE165.out | refine below_set ?_ GE170.out) | exact HB.out)⟩
                    · rw [if_neg c25] at H
                      exact absurd H (by simp)
                  · rw [if_neg c24] at H
                    exact absurd H (by simp)
                · rw [if_neg c23] at H
                  have c23b0 : decide (x57_2 < (y175.length : Int)) = false := decide_eq_false c23
                  clear c23
                  simp only [Option.some.injEq, Prod.mk.injEq] at H
                  obtain ⟨rfl, rfl, rfl, rfl⟩ := H
                  try go_wp2
                  have n0_ := Aside0.mk (Kd.Q_drew HO_55.out)
                  have n1_ := Aside0.mk (Kd.R_drew HO_171001.out)
                  have n2_ := Aside0.mk (blk_drew BK165.out)
                  have n3_ := Aside0.mk (blk_drew BK170.out)
                  have n4_ := Aside0.mk (below_drew1 HB.out)
                  clear HO_55
                  clear HO_171001
                  clear BK165
                  clear BK170
                  clear HB
                  have HO_55 := n0_
                  have HO_171001 := n1_
                  have BK165 := n2_
                  have BK170 := n3_
                  have HB := n4_
                  clear n0_ n1_ n2_ n3_ n4_
                  obtain ⟨Ao52, co52, eo52⟩ := Kd.R_slice HO_171001.out
                  (first | subst eo52 | (injection eo52 with f1_ f2_ f3_; have f4_ := f1_.symm; have f5_ := f3_.symm; clear f1_ f2_ f3_; subst f4_; subst f5_))
                  refine start_ (n := 7) (S := fun w' => w'.cell? ⟨gb170, 0, none⟩ = some (.string (rdOf ByteArray.empty t166 0)) ∧ w'.cell? ⟨gb170, 1, none⟩ = some (.slice Ao52 x171001_2.length co52) ∧ w'.cell? ⟨gb170, 2, none⟩ = some (.string x171002_2)) (ds := []) #[false, false, false, false, false, false, false] (by kernel_rfl) rfl rfl ⟨(blk_cell BK170.out 0).trans rfl, (blk_cell BK170.out 1).trans rfl, (blk_cell BK170.out 2).trans rfl⟩ (fun hHeld => ?_)
                  generalize wr.drew = w51 at HO_55 HO_171001 BK165 BK170 HB hHeld ⊢
                  refine pure_ (i := 1) (N := some 93) (v := ?_) (a' := ?_) #[false, true, false, false, false, false, false] rfl rfl (by kernel_rfl) (fun _ _ _ h => h) (Or.inl ⟨by rfl, ?_⟩) ?_ ?_
                  rotate_left
                  · intro w'
                    go_simp
                    with_reducible rfl
                  rotate_left
                  · simp only [Act.put, List.setIfInBounds_toArray, List.set_cons_zero, List.set_cons_succ, i64_w, i32_w]
                    rfl
                  refine take_ (i := 0) (N := some 92) (v := ?_) (a' := ?_) #[true, true, false, false, false, false, false] rfl rfl (by kernel_rfl) (fun _ _ _ h => h) (Or.inl ⟨by rfl, ?_⟩) hHeld ?_ ?_
                  rotate_left
                  · rintro w' ⟨s0, s1, s2⟩
                    go_simp
                    with_reducible rfl
                  rotate_left
                  · simp only [Act.put, List.setIfInBounds_toArray, List.set_cons_zero, List.set_cons_succ, i64_w, i32_w]
                    rfl
                  refine take_ (i := 2) (N := some 94) (v := ?_) (a' := ?_) #[true, true, true, false, false, false, false] rfl rfl (by kernel_rfl) (fun _ _ _ h => h) (Or.inl ⟨by rfl, ?_⟩) hHeld ?_ ?_
                  rotate_left
                  · rintro w' ⟨s0, s1, s2⟩
                    go_simp
                    with_reducible rfl
                  rotate_left
                  · simp only [Act.put, List.setIfInBounds_toArray, List.set_cons_zero, List.set_cons_succ, i64_w, i32_w]
                    rfl
                  refine pure_ (i := 3) (N := some 95) (v := ?_) (a' := ?_) #[true, true, true, true, false, false, false] rfl rfl (by kernel_rfl) (fun _ _ _ h => h) (Or.inl ⟨by rfl, ?_⟩) ?_ ?_
                  rotate_left
                  · intro w'
                    go_simp
                    with_reducible rfl
                  rotate_left
                  · simp only [Act.put, List.setIfInBounds_toArray, List.set_cons_zero, List.set_cons_succ, i64_w, i32_w]
                    rfl
                  refine pure_ (i := 4) (N := some 96) (v := ?_) (a' := ?_) #[true, true, true, true, true, false, false] rfl rfl (by kernel_rfl) (fun _ _ _ h => h) (Or.inl ⟨by rfl, ?_⟩) ?_ ?_
                  rotate_left
                  · intro w'
                    go_simp
                    with_reducible rfl
                  rotate_left
                  · simp only [Act.put, List.setIfInBounds_toArray, List.set_cons_zero, List.set_cons_succ, i64_w, i32_w]
                    rfl
                  refine one_ (i := 5) (N := none) #[true, true, true, true, true, true, false] rfl rfl (by kernel_rfl) (by decide) (fun K hK => ?_)
                  have hs53 : w51.cell? ⟨gb165, 0, none⟩ = some (.string x166000_2) := (blk_cell BK165.out 0).trans rfl
                  have hfs53 := blk_frozen BK165.out 0
                  have hns53_1 := NB170_165.out
                  have hms53_1 := NB165_170.out
                  have hs54 : w51.cell? ⟨gb165, 1, none⟩ = some (.slice none 0 0) := (blk_cell BK165.out 1).trans rfl
                  have hfs54 := blk_frozen BK165.out 1
                  have hns54_1 := NB170_165.out
                  have hms54_1 := NB165_170.out
                  have hs55 : w51.cell? ⟨gb165, 2, none⟩ = some (.string x166002_2) := (blk_cell BK165.out 2).trans rfl
                  have hfs55 := blk_frozen BK165.out 2
                  have hns55_1 := NB170_165.out
                  have hms55_1 := NB165_170.out
                  refine skip_ (w1 := ?_) (by rfl) rfl ?_ ?_
                  rotate_left
                  · go_simp
                    rfl
                  refine hK.out _ _ ⟨((cell_far (p := ⟨gb165, _, none⟩) NB170_165.out _).trans (((cell_far (p := ⟨gb165, _, none⟩) NB170_165.out _).trans (((cell_far (p := ⟨gb165, _, none⟩) NB170_165.out _).trans (hHeld.1)))))), ((cell_far (p := ⟨gb165, _, none⟩) NB170_165.out _).trans (((cell_far (p := ⟨gb165, _, none⟩) NB170_165.out _).trans (((cell_far (p := ⟨gb165, _, none⟩) NB170_165.out _).trans (hHeld.2.1)))))), ((cell_far (p := ⟨gb165, _, none⟩) NB170_165.out _).trans (((cell_far (p := ⟨gb165, _, none⟩) NB170_165.out _).trans (((cell_far (p := ⟨gb165, _, none⟩) NB170_165.out _).trans (hHeld.2.2))))))⟩ (fun hHeld => ?_)
                  clear hK K
                  refine pure_ (i := 6) (N := some 3) (v := ?_) (a' := ?_) #[true, true, true, true, true, true, true] rfl rfl (by kernel_rfl) (fun _ _ _ h => h) (Or.inl ⟨by rfl, ?_⟩) ?_ ?_
                  rotate_left
                  · intro w'
                    go_simp
                    with_reducible rfl
                  rotate_left
                  · simp only [Act.put, List.setIfInBounds_toArray, List.set_cons_zero, List.set_cons_succ, i64_w, i32_w]
                    rfl
                  refine done_ (by kernel_rfl) ?_
                  try go_wp2
                  refine bodyPost_ret (results_ct rfl _ _ gb165 135 #[.string (rdOf ByteArray.empty t166 0), .slice Ao52 x171001_2.length co52, .string x171002_2] (0, 0) _ rfl (by (with_reducible repeat (first | refine blk_drewN ?_ _ | refine blk_drew ?_ | refine blk_alloc ?_ _)); refine blk_put (cs := #[.string (rdOf ByteArray.empty t166 0), .slice Ao52 x171001_2.length co52, .string x166002_2]) ?_ 2 _ rfl; (with_reducible repeat (first | refine blk_drewN ?_ _ | refine blk_drew ?_ | refine blk_alloc ?_ _)); refine blk_put (cs := #[.string (rdOf ByteArray.empty t166 0), .slice none 0 0, .string x166002_2]) ?_ 1 _ rfl; (with_reducible repeat (first | refine blk_drewN ?_ _ | refine blk_drew ?_ | refine blk_alloc ?_ _)); refine blk_put (cs := #[.string x166000_2, .slice none 0 0, .string x166002_2]) ?_ 0 _ rfl; (with_reducible repeat (first | refine blk_drewN ?_ _ | refine blk_drew ?_ | refine blk_alloc ?_ _)); exact BK165.out) Tryd.underlying135 rfl (by kernel_rfl)) rfl ?_
                  exact ⟨_, by first | rfl | (simp [errW_none, errW_some] <;> rfl) | (simp [*, errW_none, errW_some] <;> rfl), by (with_reducible repeat (first | apply Kd.R_alloc | apply Kd.R_drewN | apply Kd.R_drew)); exact Kd.R_mono (Kd.R_far (p := ⟨gb165, 2, none⟩) (Kd.R_far (p := ⟨gb165, 1, none⟩) (Kd.R_far (p := ⟨gb165, 0, none⟩) (Kd.R_types HO_171001.out BK165.out (by decide)) (fun _ hk => hk.2) (.string (rdOf ByteArray.empty t166 0))) (fun _ hk => hk.2) (.slice Ao52 x171001_2.length co52)) (fun _ hk => hk.2) (.string x171002_2)) (fun _ hk => trivial), by repeat (first | (with_reducible first | exact HB.out | apply below_alloc | apply pw_below_drewN | apply below_drew1 | refine below_set ?_ GE165.out | refine below_set ?_ GE170.out) | exact HB.out)⟩
    · rw [if_neg c6] at H
      exact absurd H (by simp)
  · rw [if_neg c3] at H
    exact absurd H (by simp)
end Go.Proofs.YtoiioapkebglgaaDoor.PC
end
section
namespace Go.Proofs.YtoiioapkebglgaaDoor.PC
open Go.RowKit Go.Proofs.YtoiioapkebglgaaDoorW.PrintWords Go.Proofs.YtoiioapkebglgaaDoorW.PrintLast Go.Proofs.YtoiioapkebglgaaDoorW.PrintMore
attribute [local go_sem] max2_int min2_int max_two min_two max_three min_three max_four min_four   -- for this text's walks alone
set_option linter.unusedVariables false
set_option linter.unusedSimpArgs false
def impl_IsDeskCommand.f (k : Nat) (a0 : ByteArray) : Option (Bool) := (impl_readCommand.f k a0).bind fun bt184 => (some bt184.2.2.2)
set_option maxHeartbeats 8000000 in
set_option maxRecDepth 100000 in
theorem impl_IsDeskCommand.calls (k : Nat) (a0 : ByteArray) (r : Bool) (w : World) (h : impl_IsDeskCommand.f k a0 = some r) (hT : TabW w) :
    Calls Tryd.prog 32 #[.string a0] w fun e w' => e = .returned (.bool r) ∧ Below w.heap.size w w' := by
  have HT := Aside0.mk hT
  clear hT
  have hu135 := Tryd.underlying135
  have HB := Aside0.mk (Below.refl w.heap.size w)
  have H : ((impl_readCommand.f k a0).bind fun bt184 => (some bt184.2.2.2)) = some r := h
  clear h
  replace H := Option.bind_eq_some_iff.mp H
  obtain ⟨⟨t184, t185, t188, t189⟩, A20, H⟩ := H
  replace H : (some t189) = some r := H
  have A2 := Aside0.mk A20
  clear A20
  obtain rfl := Option.some.inj H
  go_enter Tryd.func32, Tryd.ntmps32
  go_wp2_with (first | ((with_reducible refine gate_callee (f := 98) rfl ?_); refine goesL_ (some 7) rfl rfl Tryd.func98 (by kernel_rfl) rfl #[.string a0] rfl (by (try simp only [List.map_toArray, List.map_cons, List.map_nil]); first | done | rfl | (simp only [List.length_drop, List.length_take]; rfl)) ?_; (with_reducible refine (impl_readCommand.calls k a0 t184 t185 t188 t189 _ A2.out (tabw_below HT.out (by repeat (first | (with_reducible first | exact HB.out | apply below_alloc | apply pw_below_drewN | apply below_drew1) | exact HB.out)))).mono ?_); rintro e w3 ⟨v186, rfl, ho0, hb⟩; refine ⟨_, rfl, ?_⟩; have n0_ := Aside0.mk (Kd.R_lower ho0 (below_size (by repeat (first | (with_reducible first | exact HB.out | apply below_alloc | apply pw_below_drewN | apply below_drew1) | exact HB.out)))); have n1_ := Aside0.mk (below_step (by repeat (first | (with_reducible first | exact HB.out | apply below_alloc | apply pw_below_drewN | apply below_drew1) | exact HB.out)) hb); clear HB; have HO187 := n0_; have HB := n1_; clear n0_ n1_; (try clear hb); (try clear hb2); (try clear hk); (try clear hi); (try clear ho0)) | ((with_reducible refine gate_dst (N := 3) rfl ?_); refine box_event ?hg (N := 3) ?hd (cs := #[.string (⟨#[]⟩ : ByteArray), .slice none 0 0, .string (⟨#[]⟩ : ByteArray)]) (t := 135) ?hr ?_; (case hd => rfl); (case hg => rfl); (case hr => first | (go_simp; done) | (go_simp; rfl)); intro gb190 hg w4 hbox hb; have n0_ := Aside0.mk (Kd.R_below (by (with_reducible repeat (first | apply Kd.R_alloc | apply Kd.R_drewN | apply Kd.R_drew)); exact HO187.out) hb); have n1_ := Aside0.mk (below_step (by repeat (first | (with_reducible first | exact HB.out | apply below_alloc | apply pw_below_drewN | apply below_drew1) | exact HB.out)) hb); have n2_ := Aside0.mk (hbox); have n3_ := Aside0.mk ((by rw [hg]; exact (below_size (by repeat (first | (with_reducible first | exact HB.out | apply below_alloc | apply pw_below_drewN | apply below_drew1) | exact HB.out))) : w.heap.size ≤ gb190)); have n4_ := Aside0.mk ((by rw [hg]; exact (below_size (by repeat (first | (with_reducible first | exact HB.out | apply below_alloc | apply pw_below_drewN | apply below_drew1) | exact HB.out))) : w.heap.size ≤ gb190)); clear HO187; clear HB; have HO187 := n0_; have HB := n1_; have BK190 := n2_; have GW190 := n3_; have GE190 := n4_; clear n0_ n1_ n2_ n3_ n4_; clear hb hbox hg; have hcz5_0 : w4.cell? ⟨gb190, 0, none⟩ = some (.string (⟨#[]⟩ : ByteArray)) := (blk_cell BK190.out 0).trans rfl; have hcz5_1 : w4.cell? ⟨gb190, 1, none⟩ = some (.slice none 0 0) := (blk_cell BK190.out 1).trans rfl; have hcz5_2 : w4.cell? ⟨gb190, 2, none⟩ = some (.string (⟨#[]⟩ : ByteArray)) := (blk_cell BK190.out 2).trans rfl; have hfz5_0 := blk_frozen BK190.out 0; have hfz5_1 := blk_frozen BK190.out 1; have hfz5_2 := blk_frozen BK190.out 2; obtain ⟨Ao6, co6, eo6⟩ := Kd.R_slice HO187.out; subst eo6))
  go_ret
  exact ⟨by first | rfl | (simp [errW_none, errW_some] <;> rfl) | (simp [*, errW_none, errW_some] <;> rfl), by repeat (first | (with_reducible first | exact HB.out | apply below_alloc | apply pw_below_drewN | apply below_drew1 | refine below_set ?_ GE190.out) | exact HB.out)⟩
def laws_FnExactIsDeskCommand.f (k : Nat) (a0 : ByteArray) : Option (Bool) := if (a0.size : Int) > 1048576 then (some true) else ((spec_IsDeskCommand.f k a0).bind fun t191 => ((impl_IsDeskCommand.f k a0).bind fun t192 => (if (t192 != t191) = true then (some false) else (some true))))
set_option maxHeartbeats 8000000 in
set_option maxRecDepth 100000 in
theorem laws_FnExactIsDeskCommand.calls (k : Nat) (a0 : ByteArray) (r : Bool) (w : World) (h : laws_FnExactIsDeskCommand.f k a0 = some r) (hT : TabW w) :
    Calls Tryd.prog 8 #[.string a0] w fun e w' => e = .returned (.bool r) ∧ Below w.heap.size w w' := by
  have HT := Aside0.mk hT
  clear hT
  have HB := Aside0.mk (Below.refl w.heap.size w)
  have H : (if (a0.size : Int) > 1048576 then (some true) else ((spec_IsDeskCommand.f k a0).bind fun t191 => ((impl_IsDeskCommand.f k a0).bind fun t192 => (if (t192 != t191) = true then (some false) else (some true))))) = some r := h
  clear h
  by_cases c2 : (a0.size : Int) > 1048576
  · rw [if_pos c2] at H
    have c2b0 : decide (1048576 < (a0.size : Int)) = true := decide_eq_true c2
    have c2b1 : decide (1048576 < a0.size) = true := decide_eq_true (by omega)
    clear c2
    obtain rfl := Option.some.inj H
    go_enter Tryd.func8, Tryd.ntmps8
    go_wp2
    go_ret
    exact ⟨by first | rfl | (simp [errW_none, errW_some] <;> rfl) | (simp [*, errW_none, errW_some] <;> rfl), by repeat (first | (with_reducible first | exact HB.out | apply below_alloc | apply pw_below_drewN | apply below_drew1) | exact HB.out)⟩
  · rw [if_neg c2] at H
    have c2b0 : decide (1048576 < (a0.size : Int)) = false := decide_eq_false c2
    have c2b1 : decide (1048576 < a0.size) = false := decide_eq_false (by omega)
    clear c2
    replace H := Option.bind_eq_some_iff.mp H
    obtain ⟨t191, A30, H⟩ := H
    replace H : ((impl_IsDeskCommand.f k a0).bind fun t192 => (if (t192 != t191) = true then (some false) else (some true))) = some r := H
    have A3 := Aside0.mk A30
    clear A30
    replace H := Option.bind_eq_some_iff.mp H
    obtain ⟨t192, A40, H⟩ := H
    replace H : (if (t192 != t191) = true then (some false) else (some true)) = some r := H
    have A4 := Aside0.mk A40
    clear A40
    by_cases c5 : (t192 != t191) = true
    · rw [if_pos c5] at H
      have c5b0 : (t192 != t191) = true := c5
      (try (have c5b1 : decide (t192 = t191) = false := by simpa using c5))
      (try (have c5b2 : (t192 == t191) = false := by simpa using c5))
      (try (have c5b3 : ¬ (t192 = t191) := by simpa using c5))
      clear c5
      obtain rfl := Option.some.inj H
      go_enter Tryd.func8, Tryd.ntmps8
      go_wp2_with (first | ((with_reducible refine gate_callee (f := 31) rfl ?_); refine goesL_ (some 9) rfl rfl Tryd.func31 (by kernel_rfl) rfl #[.string a0] rfl (by (try simp only [List.map_toArray, List.map_cons, List.map_nil]); first | done | rfl | (simp only [List.length_drop, List.length_take]; rfl)) ?_; (with_reducible refine (spec_IsDeskCommand.calls k a0 t191 _ A3.out).mono ?_); rintro e w6 ⟨rfl, hb⟩; refine ⟨_, rfl, ?_⟩; have n0_ := Aside0.mk (below_step (by repeat (first | (with_reducible first | exact HB.out | apply below_alloc | apply pw_below_drewN | apply below_drew1) | exact HB.out)) hb); clear HB; have HB := n0_; clear n0_; (try clear hb); (try clear hb2); (try clear hk); (try clear hi)) | ((with_reducible refine gate_callee (f := 32) rfl ?_); refine goesL_ (some 11) rfl rfl Tryd.func32 (by kernel_rfl) rfl #[.string a0] rfl (by (try simp only [List.map_toArray, List.map_cons, List.map_nil]); first | done | rfl | (simp only [List.length_drop, List.length_take]; rfl)) ?_; (with_reducible refine (impl_IsDeskCommand.calls k a0 t192 _ A4.out (tabw_below HT.out (by repeat (first | (with_reducible first | exact HB.out | apply below_alloc | apply pw_below_drewN | apply below_drew1) | exact HB.out)))).mono ?_); rintro e w7 ⟨rfl, hb⟩; refine ⟨_, rfl, ?_⟩; have n0_ := Aside0.mk (below_step (by repeat (first | (with_reducible first | exact HB.out | apply below_alloc | apply pw_below_drewN | apply below_drew1) | exact HB.out)) hb); clear HB; have HB := n0_; clear n0_; (try clear hb); (try clear hb2); (try clear hk); (try clear hi)))
      go_ret
      exact ⟨by first | rfl | (simp [errW_none, errW_some] <;> rfl) | (simp [*, errW_none, errW_some] <;> rfl), by repeat (first | (with_reducible first | exact HB.out | apply below_alloc | apply pw_below_drewN | apply below_drew1) | exact HB.out)⟩
    · rw [if_neg c5] at H
      have c5b0 : (t192 != t191) = false := by simpa using c5
      (try (have c5b1 : decide (t192 = t191) = true := by simpa using c5))
      (try (have c5b2 : (t192 == t191) = true := by simpa using c5))
      clear c5
      obtain rfl := Option.some.inj H
      go_enter Tryd.func8, Tryd.ntmps8
      go_wp2_with (first | ((with_reducible refine gate_callee (f := 31) rfl ?_); refine goesL_ (some 9) rfl rfl Tryd.func31 (by kernel_rfl) rfl #[.string a0] rfl (by (try simp only [List.map_toArray, List.map_cons, List.map_nil]); first | done | rfl | (simp only [List.length_drop, List.length_take]; rfl)) ?_; (with_reducible refine (spec_IsDeskCommand.calls k a0 t191 _ A3.out).mono ?_); rintro e w8 ⟨rfl, hb⟩; refine ⟨_, rfl, ?_⟩; have n0_ := Aside0.mk (below_step (by repeat (first | (with_reducible first | exact HB.out | apply below_alloc | apply pw_below_drewN | apply below_drew1) | exact HB.out)) hb); clear HB; have HB := n0_; clear n0_; (try clear hb); (try clear hb2); (try clear hk); (try clear hi)) | ((with_reducible refine gate_callee (f := 32) rfl ?_); refine goesL_ (some 11) rfl rfl Tryd.func32 (by kernel_rfl) rfl #[.string a0] rfl (by (try simp only [List.map_toArray, List.map_cons, List.map_nil]); first | done | rfl | (simp only [List.length_drop, List.length_take]; rfl)) ?_; (with_reducible refine (impl_IsDeskCommand.calls k a0 t192 _ A4.out (tabw_below HT.out (by repeat (first | (with_reducible first | exact HB.out | apply below_alloc | apply pw_below_drewN | apply below_drew1) | exact HB.out)))).mono ?_); rintro e w9 ⟨rfl, hb⟩; refine ⟨_, rfl, ?_⟩; have n0_ := Aside0.mk (below_step (by repeat (first | (with_reducible first | exact HB.out | apply below_alloc | apply pw_below_drewN | apply below_drew1) | exact HB.out)) hb); clear HB; have HB := n0_; clear n0_; (try clear hb); (try clear hb2); (try clear hk); (try clear hi)))
      go_ret
      exact ⟨by first | rfl | (simp [errW_none, errW_some] <;> rfl) | (simp [*, errW_none, errW_some] <;> rfl), by repeat (first | (with_reducible first | exact HB.out | apply below_alloc | apply pw_below_drewN | apply below_drew1) | exact HB.out)⟩
def laws_FnExactIsDeskCommand.Pure : Prop := ∀ (a0 : ByteArray), a0.size ≤ 9223372036854775807 → ∃ k, laws_FnExactIsDeskCommand.f k a0 = some true
end Go.Proofs.YtoiioapkebglgaaDoor.PC
end
