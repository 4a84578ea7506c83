-- Gathered by this session's program wip/tool/shake.py out of its own texts and of what the kit's print and the session's patches of it wrote for this claim.
import Derived.Test.YtoiioapkebglgaaDoorCFnJournals3
import Derived.Test.YtoiioapkebglgaaDoorCFnJournals9
import Derived.Test.YtoiioapkebglgaaDoorCFnJournals16
section
namespace Go.Proofs.YtoiioapkebglgaaDoor.PG
open Go.RowKit Go.Proofs.YtoiioapkebglgaaDoorW.PrintWords Go.Proofs.YtoiioapkebglgaaDoorW.PrintLast Go.Proofs.YtoiioapkebglgaaDoorW.PrintMore
attribute [local go_sem] max2_int min2_int max_two min_two max_three min_three max_four min_four   -- for this text's walks alone
set_option linter.unusedVariables false
set_option linter.unusedSimpArgs false
def spec_l29Run.l0 : Nat → List (S70) → Int → Int → Int → Int → Int → Option (Int × Int × Int × Int × Bool)
  | 0, _, _, _, _, _, _ => none
  | k + 1, x0, x5, x226000, x226001, x226002, x226003 => if x5 < (x0.length : Int) then (if 0 ≤ x5 then ((spec_l29Make.f x226000 x226001 x226002 x226003 ((rd_T70 x0 x5).f0) ((rd_T70 x0 x5).f1)).bind fun bt227 => (if bt227.2.2.2.2 = true then (spec_l29Run.l0 k x0 (wrap64 (x5 + 1)) bt227.1 bt227.2.1 bt227.2.2.1 bt227.2.2.2.1) else (some (0, 0, 0, 0, false)))) else (none)) else (some (x226000, x226001, x226002, x226003, decide ((x0.length : Int) ≤ 200)))
def spec_l29Run.f (k : Nat) (l0 : List (S70)) : Option (Int × Int × Int × Int × Bool) := spec_l29Run.l0 k l0 0 0 0 0 0
def spec_l29Run.T5 : Bool × List (List Nat × List Nat) := (true, [([], []), ([], []), ([], []), ([1, 2], [1, 2]), ([3], [3]), ([0, 4], [0, 4]), ([5], [5]), ([6], [6]), ([6], [6]), ([], []), ([9, 7, 5, 0, 1, 2, 3, 4, 5, 6, 7, 9], [7, 9]), ([8, 10, 0, 1, 2, 3, 4, 5, 6, 7, 8, 9, 10], [8])])
def spec_l29Run.B5 : List Nat := [0, 0, 0, 6, 14, 31, 63, 127, 127, 0, 767, 2047]
theorem spec_l29Run.tab5 : rtab .any (opsOf Tryd.f57 5) = spec_l29Run.T5 := by kernel_rfl
theorem spec_l29Run.bits5 : waitsOk spec_l29Run.T5.2 spec_l29Run.B5 = true := by kernel_rfl
theorem ag4_ {p : Prop} (h : p) : Aside0 p := ⟨h⟩
abbrev b0g4_ : Array Bool := #[false, false, false, false, false, false, false, false, false, false, false, false]
abbrev b1g4_ : Array Bool := #[false, true, false, false, false, false, false, false, false, false, false, false]
abbrev b2g4_ : Array Bool := #[false, true, true, false, false, false, false, false, false, false, false, false]
abbrev b3g4_ : Array Bool := #[false, true, true, true, false, false, false, false, false, false, false, false]
abbrev b4g4_ : Array Bool := #[true, true, true, true, false, false, false, false, false, false, false, false]
abbrev b5g4_ : Array Bool := #[true, true, true, true, true, false, false, false, false, false, false, false]
abbrev b6g4_ : Array Bool := #[true, true, true, true, true, false, false, false, false, true, false, false]
abbrev b7g4_ : Array Bool := #[true, true, true, true, true, true, false, false, false, false, false, false]
abbrev b8g4_ : Array Bool := #[true, true, true, true, true, true, false, false, false, true, false, false]
abbrev b9g4_ : Array Bool := #[true, true, true, true, true, true, true, false, false, false, false, false]
abbrev b10g4_ : Array Bool := #[true, true, true, true, true, true, true, false, false, true, false, false]
abbrev b11g4_ : Array Bool := #[true, true, true, true, true, true, true, true, false, false, false, false]
abbrev b12g4_ : Array Bool := #[true, true, true, true, true, true, true, true, false, true, false, false]
abbrev b13g4_ : Array Bool := #[true, true, true, true, true, true, true, true, true, false, false, false]
abbrev b14g4_ : Array Bool := #[true, true, true, true, true, true, true, true, true, true, false, false]
abbrev b15g4_ : Array Bool := #[true, true, true, true, true, true, true, true, true, true, true, false]
abbrev b16g4_ : Array Bool := #[true, true, true, true, true, true, true, true, true, true, true, true]
theorem w1g4_ {p : Prop} (h : p := by first | exact Nat.ne_of_lt (Nat.lt_of_lt_of_le (by have := World.block_lt_of_cell? _ _ hw226_0; first | rwa [add_block] at this | exact this) GW232.out) | (rw [add_block]; exact Nat.ne_of_lt (Nat.lt_of_lt_of_le (by have := World.block_lt_of_cell? _ _ hw226_0; first | rwa [add_block] at this | exact this) GW232.out)) | (show (Addr.add _ _).block ≠ _; rw [add_block]; exact Nat.ne_of_lt (Nat.lt_of_lt_of_le (by have := World.block_lt_of_cell? _ _ hw226_0; first | rwa [add_block] at this | exact this) GW232.out)) | (dsimp only; exact Nat.ne_of_lt (Nat.lt_of_lt_of_le (by have := World.block_lt_of_cell? _ _ hw226_0; first | rwa [add_block] at this | exact this) GW232.out))) : p := h
theorem w2g4_ {p : Prop} (h : p := by first | exact Nat.ne_of_lt (Nat.lt_of_lt_of_le (by have := World.block_lt_of_cell? _ _ hw226_1; first | rwa [add_block] at this | exact this) GW232.out) | (rw [add_block]; exact Nat.ne_of_lt (Nat.lt_of_lt_of_le (by have := World.block_lt_of_cell? _ _ hw226_1; first | rwa [add_block] at this | exact this) GW232.out)) | (show (Addr.add _ _).block ≠ _; rw [add_block]; exact Nat.ne_of_lt (Nat.lt_of_lt_of_le (by have := World.block_lt_of_cell? _ _ hw226_1; first | rwa [add_block] at this | exact this) GW232.out)) | (dsimp only; exact Nat.ne_of_lt (Nat.lt_of_lt_of_le (by have := World.block_lt_of_cell? _ _ hw226_1; first | rwa [add_block] at this | exact this) GW232.out))) : p := h
theorem w3g4_ {p : Prop} (h : p := by repeat (first | (with_reducible first | exact HB.out | apply below_alloc | apply pw_below_drewN | apply below_drew1 | refine below_set ?_ GE224.out | refine below_set ?_ GE225.out) | exact HB.out)) : p := h
theorem w4g4_ {p : Prop} (h : p := by (with_reducible repeat (first | refine blk_drewN ?_ _ | refine blk_drew ?_ | refine blk_alloc ?_ _)); exact BK224.out) : p := h
theorem w5g4_ {p : Prop} (h : p := by (with_reducible repeat (first | refine blk_drewN ?_ _ | refine blk_drew ?_ | refine blk_alloc ?_ _)); exact BK225.out) : p := h
theorem w6g4_ {p : Prop} (h : p := by repeat (first | (with_reducible first | exact HB.out | apply below_alloc | apply pw_below_drewN | apply below_drew1 | refine below_set ?_ GE224.out | refine below_set ?_ GE225.out | refine below_set ?_ GE232.out) | exact HB.out)) : p := h
theorem w7g4_ {p : Prop} (h : p := by (show Act.put _ (some _) _ = _); simp only [Act.put, List.setIfInBounds_toArray, List.set_cons_zero, List.set_cons_succ, i64_w, i32_w]; rfl) : p := h
theorem w8g4_ {p : Prop} (h : p := by (with_reducible repeat (first | refine blk_drewN ?_ _ | refine blk_drew ?_ | refine blk_alloc ?_ _)); exact BK232.out) : p := h
theorem w9g4_ {p : Prop} (h : p := by (try simp only [List.map_toArray, List.map_cons, List.map_nil]); first | done | rfl | (simp only [List.length_drop, List.length_take]; rfl)) : p := h
theorem w10g4_ {p : Prop} (h : p := by repeat (first | (with_reducible first | exact HB.out | apply below_alloc | apply pw_below_drewN | apply below_drew1 | refine below_set ?_ GE224.out) | exact HB.out)) : p := h
theorem w11g4_ {p : Prop} (h : p := by simp only [putAll, Act.put, List.setIfInBounds_toArray, List.set_cons_zero, List.set_cons_succ]) : p := h
theorem w12g4_ {p : Prop} (h : p := by repeat (first | (with_reducible first | exact HB.out | apply below_alloc | apply pw_below_drewN | apply below_drew1) | exact HB.out)) : p := h
theorem w13g4_ {p : Prop} (h : p := by first | (with_reducible assumption) | assumption) : p := h
set_option maxHeartbeats 8000000 in
set_option maxRecDepth 100000 in
theorem spec_l29Run.calls (k : Nat) (A0 : Option Addr) (c0 : Nat) (l0 : List (S70)) (r1 : Int) (r2 : Int) (r3 : Int) (r4 : Int) (r5 : Bool) (w : World) (hr0 : Kd.C k70 w A0 l0.length l0) (hc0 : l0.length ≤ c0) (h : spec_l29Run.f k l0 = some (r1, r2, r3, r4, r5)) :
 Calls Tryd.prog 57 #[.slice A0 l0.length c0] w fun e w' => e = .returned (.tuple #[.agg #[.int .i64 r1, .int .i64 r2, .int .i64 r3, .int .i64 r4], .bool r5]) ∧ Below w.heap.size w w' := by
 have hu68 := Tryd.underlying68; have hu70 := Tryd.underlying70; have HR0 := ag4_ hr0; have HC0 := ag4_ hc0; clear hr0 hc0; have HB := ag4_ (Below.refl w.heap.size w); have H : (spec_l29Run.l0 k l0 0 0 0 0 0) = some (r1, r2, r3, r4, r5) := h; clear h; have H' := ag4_ H; clear H
 go_enter Tryd.func57, Tryd.ntmps57
 go_wp2_with (first | ((with_reducible refine gate_dst (N := 2) rfl ?_); refine be_ (N := 2) (cs := #[.int .i64 0, .int .i64 0, .int .i64 0, .int .i64 0]) (t := 68) ?_; intro gb224 hg w2 hbox hb; have BK224 := ag4_ (hbox); have GW224 := gw_ (w := w) hg w12g4_; have GE224 := gw_ (w := w) hg w12g4_; replace HB := ag4_ (below_step w12g4_ hb); clear hb hbox hg) | ((with_reducible refine gate_dst (N := 4) rfl ?_); refine be_ (N := 4) (cs := #[.int .i64 0, .int .i64 0, .int .i64 0, .int .i64 0]) (t := 68) ?_; intro gb225 hg w3 hbox hb; have BK225 := ag4_ (hbox); have GW225 := gw_ (w := w) hg w10g4_; have GE225 := gw_ (w := w) hg w10g4_; obtain ⟨NB224_225, NB225_224⟩ := nb2_ hg w4g4_; replace BK224 := ag4_ (blk_below w4g4_ hb); replace HB := ag4_ (below_step w10g4_ hb); clear hb hbox hg; have hnb4 := NB225_224.out; have hnc4 := NB224_225.out; obtain ⟨hcz5_0, hcz5_1, hcz5_2, hcz5_3⟩ := blk4 BK225.out; obtain ⟨hfz5_0, hfz5_1, hfz5_2, hfz5_3⟩ := frz4 BK225.out))
 go_loopg [5] k (fun kq v5 w' => ∃ (x5_1 : Int) (x225000_1 : Int) (x225001_1 : Int) (x225002_1 : Int) (x225003_1 : Int) (x226000_1 : Int) (x226001_1 : Int) (x226002_1 : Int) (x226003_1 : Int), v5 = .int .i64 x5_1 ∧ Aside0 (spec_l29Run.l0 kq l0 x5_1 x226000_1 x226001_1 x226002_1 x226003_1 = some (r1, r2, r3, r4, r5)) ∧ Aside0 (kq ≤ k) ∧ Aside0 (w'.heap[gb224]? = some (.cells #[.int .i64 x225000_1, .int .i64 x225001_1, .int .i64 x225002_1, .int .i64 x225003_1] 68 (0, 0))) ∧ Aside0 (w'.heap[gb225]? = some (.cells #[.int .i64 x226000_1, .int .i64 x226001_1, .int .i64 x226002_1, .int .i64 x226003_1] 68 (0, 0))) ∧ Aside0 (Below w.heap.size w w'))
 case atStart => exact ⟨(0), (0), (0), (0), (0), (0), (0), (0), (0), (by first | rfl | (simp; done) | (simp [*]; done)), H', ⟨Nat.le_refl _⟩, ⟨(by (with_reducible repeat (first | refine blk_far ?_ NB224_225.out _ | refine blk_drewN ?_ _ | refine blk_drew ?_ | refine blk_alloc ?_ _)); exact BK224.out)⟩, ⟨(by (with_reducible repeat (first | refine blk_drewN ?_ _ | refine blk_drew ?_ | refine blk_alloc ?_ _)); refine blk_put (cs := #[.int .i64 0, .int .i64 0, .int .i64 0, .int .i64 0]) ?_ 3 _ rfl; (with_reducible repeat (first | refine blk_drewN ?_ _ | refine blk_drew ?_ | refine blk_alloc ?_ _)); refine blk_put (cs := #[.int .i64 0, .int .i64 0, .int .i64 0, .int .i64 0]) ?_ 2 _ rfl; (with_reducible repeat (first | refine blk_drewN ?_ _ | refine blk_drew ?_ | refine blk_alloc ?_ _)); refine blk_put (cs := #[.int .i64 0, .int .i64 0, .int .i64 0, .int .i64 0]) ?_ 1 _ rfl; (with_reducible repeat (first | refine blk_drewN ?_ _ | refine blk_drew ?_ | refine blk_alloc ?_ _)); refine blk_put (cs := #[.int .i64 0, .int .i64 0, .int .i64 0, .int .i64 0]) ?_ 0 _ rfl; (with_reducible repeat (first | refine blk_drewN ?_ _ | refine blk_drew ?_ | refine blk_alloc ?_ _)); exact BK225.out)⟩, ⟨w3g4_⟩⟩
 case round =>
  clear H'
  try clear hcz5_0
  try clear hcz5_1
  try clear hcz5_2
  try clear hcz5_3
  try clear hfz5_0
  try clear hfz5_1
  try clear hfz5_2
  try clear hfz5_3
  obtain ⟨x5_1, x225000_1, x225001_1, x225002_1, x225003_1, x226000_1, x226001_1, x226002_1, x226003_1, rfl, HA, HK1, BK224, BK225, HB⟩ := hrel
  cases gk with
  | zero => exact absurd HA.out (by simp [spec_l29Run.l0])
  | succ k1 =>
   have H := HA.out; clear HA
   simp only [spec_l29Run.l0] at H
   by_cases c6 : x5_1 < (l0.length : Int)
   ·
    rw [if_pos c6] at H
    have c6b0 : decide (x5_1 < (l0.length : Int)) = true := decide_eq_true c6; clear c6
    by_cases c7 : 0 ≤ x5_1
    ·
     rw [if_pos c7] at H
     have c7b0 : decide (0 ≤ x5_1) = true := decide_eq_true c7; clear c7
     replace H := Option.bind_eq_some_iff.mp H
     obtain ⟨⟨t227, t228, t229, t230, t231⟩, A80, H⟩ := H
     try dsimp only at H
     have A8 := ag4_ A80; clear A80
     by_cases c9 : t231 = true
     ·
      subst c9
      have H1 : (spec_l29Run.l0 k1 l0 (wrap64 (x5_1 + 1)) t227 t228 t229 t230) = some (r1, r2, r3, r4, r5) := by rw [if_pos rfl] at H; exact H
      clear H; have H := H1; clear H1; have H' := ag4_ H; clear H
      try go_wp2
      have n0_ := ag4_ (blk_drew BK224.out); have n1_ := ag4_ (blk_drew BK225.out); have n2_ := ag4_ (below_drew1 HB.out); clear BK224 BK225 HB; have BK224 := n0_; have BK225 := n1_; have HB := n2_; clear n0_ n1_ n2_
      have p226 : 0 ≤ (x5_1 : Int) := of_decide_eq_true w13g4_
      have q226 : x5_1 < (l0.length : Int) := of_decide_eq_true w13g4_
      obtain ⟨ad226, e226, hx226_0, hx226_1⟩ := at_T70 HR0.out x5_1 p226 q226; have hw226_1 := hx226_1; have hw226_0 := hx226_0
      cases e226
      replace hx226_0 := (HB.out.cell (World.block_lt_of_cell? _ _ hx226_0)).trans hx226_0
      replace hx226_1 := (HB.out.cell (World.block_lt_of_cell? _ _ hx226_1)).trans hx226_1
      replace p226 := eq_true p226
      replace q226 := eq_true q226
      refine start_ (n := 12) (S := fun w' => w'.cell? ⟨gb225, 0, none⟩ = some (.int .i64 x226000_1) ∧ w'.cell? ⟨gb225, 1, none⟩ = some (.int .i64 x226001_1) ∧ w'.cell? ⟨gb225, 2, none⟩ = some (.int .i64 x226002_1) ∧ w'.cell? ⟨gb225, 3, none⟩ = some (.int .i64 x226003_1) ∧ w'.cell? (ad226.add ((x5_1).toNat * 2)) = some (.int .i64 ((rd_T70 l0 x5_1).f0)) ∧ w'.cell? ⟨(ad226.add ((x5_1).toNat * 2)).block, (ad226.add ((x5_1).toNat * 2)).off + 1, none⟩ = some (.int .i64 ((rd_T70 l0 x5_1).f1))) (ds := []) b0g4_ (by kernel_rfl) rfl rfl ⟨(blk_cell BK225.out 0).trans rfl, (blk_cell BK225.out 1).trans rfl, (blk_cell BK225.out 2).trans rfl, (blk_cell BK225.out 3).trans rfl, ((HB.out.cell (World.block_lt_of_cell? _ _ hw226_0)).trans hw226_0), ((HB.out.cell (World.block_lt_of_cell? _ _ hw226_1)).trans hw226_1)⟩ (fun hHeld => ?_); refine with_tabW spec_l29Run.tab5 spec_l29Run.bits5 (fun HT_ HW_ => ?_)
      generalize wr.drew = w10 at BK224 BK225 HB hx226_0 hx226_1 hHeld ⊢
      refine pd_ (i := 1) (N := some 17) b1g4_ rfl rfl ?_
      refine pd_ (i := 2) (N := some 18) b2g4_ rfl rfl ?_
      refine pd_ (i := 3) (N := some 19) b3g4_ rfl rfl ?_
      refine td6_ (i := 0) (N := some 16) b4g4_ rfl rfl hHeld ?_
      refine td6_ (i := 4) (N := some 20) b5g4_ rfl rfl hHeld ?_
      refine join_ (σ := Nat) 2 b14g4_ (fun s_ => [(21, .tuple #[.agg #[.int .i64 t227, .int .i64 t228, .int .i64 t229, .int .i64 t230], .bool true]), (6, .pointer (some ⟨s_, 0, none⟩)), (15, .tuple #[.agg #[.int .i64 t227, .int .i64 t228, .int .i64 t229, .int .i64 t230], .bool true]), (22, .agg #[.int .i64 t227, .int .i64 t228, .int .i64 t229, .int .i64 t230]), (23, .bool true)]) (fun s_ w' => (w'.cell? ⟨gb225, 0, none⟩ = some (.int .i64 x226000_1) ∧ w'.cell? ⟨gb225, 1, none⟩ = some (.int .i64 x226001_1) ∧ w'.cell? ⟨gb225, 2, none⟩ = some (.int .i64 x226002_1) ∧ w'.cell? ⟨gb225, 3, none⟩ = some (.int .i64 x226003_1) ∧ w'.cell? (ad226.add ((x5_1).toNat * 2)) = some (.int .i64 ((rd_T70 l0 x5_1).f0)) ∧ w'.cell? ⟨(ad226.add ((x5_1).toNat * 2)).block, (ad226.add ((x5_1).toNat * 2)).off + 1, none⟩ = some (.int .i64 ((rd_T70 l0 x5_1).f1))) ∧ (w'.heap[gb224]? = some (.cells #[.int .i64 x225000_1, .int .i64 x225001_1, .int .i64 x225002_1, .int .i64 x225003_1] 68 (0, 0))) ∧ (w'.heap[gb225]? = some (.cells #[.int .i64 x226000_1, .int .i64 x226001_1, .int .i64 x226002_1, .int .i64 x226003_1] 68 (0, 0))) ∧ (w'.heap[s_]? = some (.cells #[.int .i64 0, .int .i64 0, .int .i64 0, .int .i64 0] 68 (0, 0))) ∧ (w.heap.size ≤ s_) ∧ (w.heap.size ≤ s_) ∧ (gb224 ≠ s_) ∧ (s_ ≠ gb224) ∧ (gb225 ≠ s_) ∧ (s_ ≠ gb225) ∧ (Below w.heap.size w w')) ?_ ?_
      rotate_left
      ·
       intro hCont
       refine two_ (i := 5) (j := 9) (Ni := some 21) (Nj := some 6) b7g4_ b6g4_ rfl rfl rfl rfl (two_of HT_.out (by kernel_rfl)) (by decide) (by decide) (fun K hK => ?_) (fun K hK => ?_)
       ·
        refine goes_ Tryd.func106 (by kernel_rfl) rfl #[.agg #[.int .i64 x226000_1, .int .i64 x226001_1, .int .i64 x226002_1, .int .i64 x226003_1], .agg #[.int .i64 ((rd_T70 l0 x5_1).f0), .int .i64 ((rd_T70 l0 x5_1).f1)]] (by rfl) rfl rfl w9g4_ ?_
        with_reducible refine (spec_l29Make.calls x226000_1 x226001_1 x226002_1 x226003_1 ((rd_T70 l0 x5_1).f0) ((rd_T70 l0 x5_1).f1) t227 t228 t229 t230 true _ A8.out).mono ?_
        rintro e w11 ⟨rfl, hb⟩
        refine ⟨_, rfl, ?_⟩
        have n0_ := ag4_ (blk_below w4g4_ hb); have n1_ := ag4_ (blk_below w5g4_ hb)
        have n2_ := ag4_ (below_step w3g4_ hb)
        clear BK224 BK225 HB; have BK224 := n0_; have BK225 := n1_; have HB := n2_; clear n0_ n1_ n2_
        (try clear hb)
        (try clear hb2)
        (try clear hk)
        (try clear hi)
        refine hK.out _ _ ⟨(blk_cell BK225.out 0).trans rfl, (blk_cell BK225.out 1).trans rfl, (blk_cell BK225.out 2).trans rfl, (blk_cell BK225.out 3).trans rfl, ((HB.out.cell (World.block_lt_of_cell? _ _ hw226_0)).trans hw226_0), ((HB.out.cell (World.block_lt_of_cell? _ _ hw226_1)).trans hw226_1)⟩ (fun hHeld => ?_); clear hK K
        refine norm_ (a' := _) w7g4_ ?_
        refine pd_ (i := 6) (N := some 15) b9g4_ rfl rfl ?_
        refine pd_ (i := 7) (N := some 22) b11g4_ rfl rfl ?_
        refine pd_ (i := 8) (N := some 23) b13g4_ rfl rfl ?_
        refine one_ (i := 9) (N := some 6) b14g4_ rfl rfl (one_of HT_.out (by kernel_rfl)) (by decide) (fun K hK => ?_)
        refine box_step ?hg (N := 6) ?hd (cs := #[.int .i64 0, .int .i64 0, .int .i64 0, .int .i64 0]) (t := 68) ?hr ?_; (case hd => rfl); (case hg => rfl); (case hr => first | (go_simp; done) | (go_simp; rfl))
        intro gb232 hg w12 hbox hb; have n0_ := ag4_ (blk_below w4g4_ hb); have n1_ := ag4_ (blk_below w5g4_ hb)
        have n2_ := ag4_ (below_step w3g4_ hb)
        have n3_ := ag4_ (hbox)
        have n4_ := ag4_ ((by rw [hg]; exact (below_size w3g4_) : w.heap.size ≤ gb232))
        have n5_ := ag4_ ((by rw [hg]; exact (below_size w3g4_) : w.heap.size ≤ gb232))
        have n6_ := ag4_ ((by rw [hg]; exact Nat.ne_of_lt (blk_lt w4g4_) : gb224 ≠ gb232)); have n7_ := ag4_ ((by rw [hg]; exact Nat.ne_of_gt (blk_lt w4g4_) : gb232 ≠ gb224)); have n8_ := ag4_ ((by rw [hg]; exact Nat.ne_of_lt (blk_lt w5g4_) : gb225 ≠ gb232)); have n9_ := ag4_ ((by rw [hg]; exact Nat.ne_of_gt (blk_lt w5g4_) : gb232 ≠ gb225)); clear BK224 BK225 HB; have BK224 := n0_; have BK225 := n1_; have HB := n2_; have BK232 := n3_; have GW232 := n4_; have GE232 := n5_; have NB224_232 := n6_; have NB232_224 := n7_; have NB225_232 := n8_; have NB232_225 := n9_; clear n0_ n1_ n2_ n3_ n4_ n5_ n6_ n7_ n8_ n9_ hb hbox hg; refine hK.out _ _ ⟨(blk_cell BK225.out 0).trans rfl, (blk_cell BK225.out 1).trans rfl, (blk_cell BK225.out 2).trans rfl, (blk_cell BK225.out 3).trans rfl, ((HB.out.cell (World.block_lt_of_cell? _ _ hw226_0)).trans hw226_0), ((HB.out.cell (World.block_lt_of_cell? _ _ hw226_1)).trans hw226_1)⟩ (fun hHeld => ?_); clear hK K
        refine norm_ (a' := _) w7g4_ ?_
        exact norm_ w11g4_ (hCont (gb232) _ ⟨hHeld, w4g4_, w5g4_, w8g4_, GW232.out, GE232.out, NB224_232.out, NB232_224.out, NB225_232.out, NB232_225.out, w6g4_⟩)
       ·
        refine box_step ?hg (N := 6) ?hd (cs := #[.int .i64 0, .int .i64 0, .int .i64 0, .int .i64 0]) (t := 68) ?hr ?_; (case hd => rfl); (case hg => rfl); (case hr => first | (go_simp; done) | (go_simp; rfl))
        intro gb232 hg w11 hbox hb; have n0_ := ag4_ (blk_below w4g4_ hb); have n1_ := ag4_ (blk_below w5g4_ hb)
        have n2_ := ag4_ (below_step w3g4_ hb)
        have n3_ := ag4_ (hbox)
        have n4_ := ag4_ ((by rw [hg]; exact (below_size w3g4_) : w.heap.size ≤ gb232))
        have n5_ := ag4_ ((by rw [hg]; exact (below_size w3g4_) : w.heap.size ≤ gb232))
        have n6_ := ag4_ ((by rw [hg]; exact Nat.ne_of_lt (blk_lt w4g4_) : gb224 ≠ gb232)); have n7_ := ag4_ ((by rw [hg]; exact Nat.ne_of_gt (blk_lt w4g4_) : gb232 ≠ gb224)); have n8_ := ag4_ ((by rw [hg]; exact Nat.ne_of_lt (blk_lt w5g4_) : gb225 ≠ gb232)); have n9_ := ag4_ ((by rw [hg]; exact Nat.ne_of_gt (blk_lt w5g4_) : gb232 ≠ gb225)); clear BK224 BK225 HB; have BK224 := n0_; have BK225 := n1_; have HB := n2_; have BK232 := n3_; have GW232 := n4_; have GE232 := n5_; have NB224_232 := n6_; have NB232_224 := n7_; have NB225_232 := n8_; have NB232_225 := n9_; clear n0_ n1_ n2_ n3_ n4_ n5_ n6_ n7_ n8_ n9_ hb hbox hg; refine hK.out _ _ ⟨(blk_cell BK225.out 0).trans rfl, (blk_cell BK225.out 1).trans rfl, (blk_cell BK225.out 2).trans rfl, (blk_cell BK225.out 3).trans rfl, ((HB.out.cell (World.block_lt_of_cell? _ _ hw226_0)).trans hw226_0), ((HB.out.cell (World.block_lt_of_cell? _ _ hw226_1)).trans hw226_1)⟩ (fun hHeld => ?_); clear hK K
        refine norm_ (a' := _) w7g4_ ?_
        refine one_ (i := 5) (N := some 21) b8g4_ rfl rfl (one_of HT_.out (by kernel_rfl)) (by decide) (fun K hK => ?_)
        refine goes_ Tryd.func106 (by kernel_rfl) rfl #[.agg #[.int .i64 x226000_1, .int .i64 x226001_1, .int .i64 x226002_1, .int .i64 x226003_1], .agg #[.int .i64 ((rd_T70 l0 x5_1).f0), .int .i64 ((rd_T70 l0 x5_1).f1)]] (by rfl) rfl rfl w9g4_ ?_
        with_reducible refine (spec_l29Make.calls x226000_1 x226001_1 x226002_1 x226003_1 ((rd_T70 l0 x5_1).f0) ((rd_T70 l0 x5_1).f1) t227 t228 t229 t230 true _ A8.out).mono ?_
        rintro e w12 ⟨rfl, hb⟩
        refine ⟨_, rfl, ?_⟩
        have n0_ := ag4_ (blk_below w4g4_ hb); have n1_ := ag4_ (blk_below w5g4_ hb); have n2_ := ag4_ (blk_below w8g4_ hb)
        have n3_ := ag4_ (below_step w6g4_ hb)
        clear BK224 BK225 BK232 HB; have BK224 := n0_; have BK225 := n1_; have BK232 := n2_; have HB := n3_; clear n0_ n1_ n2_ n3_
        (try clear hb)
        (try clear hb2)
        (try clear hk)
        (try clear hi)
        refine hK.out _ _ ⟨(blk_cell BK225.out 0).trans rfl, (blk_cell BK225.out 1).trans rfl, (blk_cell BK225.out 2).trans rfl, (blk_cell BK225.out 3).trans rfl, ((HB.out.cell (World.block_lt_of_cell? _ _ hw226_0)).trans hw226_0), ((HB.out.cell (World.block_lt_of_cell? _ _ hw226_1)).trans hw226_1)⟩ (fun hHeld => ?_); clear hK K
        refine norm_ (a' := _) w7g4_ ?_
        refine pd_ (i := 6) (N := some 15) b10g4_ rfl rfl ?_
        refine pd_ (i := 7) (N := some 22) b12g4_ rfl rfl ?_
        refine pd_ (i := 8) (N := some 23) b14g4_ rfl rfl ?_
        exact norm_ w11g4_ (hCont (gb232) _ ⟨hHeld, w4g4_, w5g4_, w8g4_, GW232.out, GE232.out, NB224_232.out, NB232_224.out, NB225_232.out, NB232_225.out, w6g4_⟩)
      rintro gb232 w13 ⟨hS_, h0_, h1_, h2_, h3_, h4_, h5_, h6_, h7_, h8_, h9_⟩; have n0_ : Aside0 (w13.heap[gb224]? = some (.cells #[.int .i64 x225000_1, .int .i64 x225001_1, .int .i64 x225002_1, .int .i64 x225003_1] 68 (0, 0))) := ⟨h0_⟩; have n1_ : Aside0 (w13.heap[gb225]? = some (.cells #[.int .i64 x226000_1, .int .i64 x226001_1, .int .i64 x226002_1, .int .i64 x226003_1] 68 (0, 0))) := ⟨h1_⟩; have n2_ : Aside0 (w13.heap[gb232]? = some (.cells #[.int .i64 0, .int .i64 0, .int .i64 0, .int .i64 0] 68 (0, 0))) := ⟨h2_⟩; have n3_ : Aside0 (w.heap.size ≤ gb232) := ⟨h3_⟩; have n4_ : Aside0 (w.heap.size ≤ gb232) := ⟨h4_⟩; have n5_ : Aside0 (gb224 ≠ gb232) := ⟨h5_⟩; have n6_ : Aside0 (gb232 ≠ gb224) := ⟨h6_⟩; have n7_ : Aside0 (gb225 ≠ gb232) := ⟨h7_⟩; have n8_ : Aside0 (gb232 ≠ gb225) := ⟨h8_⟩; have n9_ : Aside0 (Below w.heap.size w w13) := ⟨h9_⟩; clear BK224 BK225 HB h0_ h1_ h2_ h3_ h4_ h5_ h6_ h7_ h8_ h9_; have BK224 := n0_; have BK225 := n1_; have BK232 := n2_; have GW232 := n3_; have GE232 := n4_; have NB224_232 := n5_; have NB232_224 := n6_; have NB225_232 := n7_; have NB232_225 := n8_; have HB := n9_; clear n0_ n1_ n2_ n3_ n4_ n5_ n6_ n7_ n8_ n9_; have hHeld : w13.cell? ⟨gb225, 0, none⟩ = some (.int .i64 x226000_1) ∧ w13.cell? ⟨gb225, 1, none⟩ = some (.int .i64 x226001_1) ∧ w13.cell? ⟨gb225, 2, none⟩ = some (.int .i64 x226002_1) ∧ w13.cell? ⟨gb225, 3, none⟩ = some (.int .i64 x226003_1) ∧ w13.cell? (ad226.add ((x5_1).toNat * 2)) = some (.int .i64 ((rd_T70 l0 x5_1).f0)) ∧ w13.cell? ⟨(ad226.add ((x5_1).toNat * 2)).block, (ad226.add ((x5_1).toNat * 2)).off + 1, none⟩ = some (.int .i64 ((rd_T70 l0 x5_1).f1)) := hS_
      refine norm_ (a' := _) (by simp only [putAll, Act.put, List.setIfInBounds_toArray, List.set_cons_zero, List.set_cons_succ]; rfl) ?_
      refine one_ (i := 10) (N := none) b15g4_ rfl rfl (one_of HT_.out (by kernel_rfl)) (by decide) (fun K hK => ?_)
      have hs14 : w13.cell? ⟨gb232, 0, none⟩ = some (.int .i64 0) := (blk_cell BK232.out 0).trans rfl; have hfs14 := blk_frozen BK232.out 0; have hns14_0 := NB224_232.out; have hns14_1 := NB225_232.out; have hms14_0 := NB232_224.out; have hms14_1 := NB232_225.out; have hs15 : w13.cell? ⟨gb232, 1, none⟩ = some (.int .i64 0) := (blk_cell BK232.out 1).trans rfl; have hfs15 := blk_frozen BK232.out 1; have hns15_0 := NB224_232.out; have hns15_1 := NB225_232.out; have hms15_0 := NB232_224.out; have hms15_1 := NB232_225.out; have hs16 : w13.cell? ⟨gb232, 2, none⟩ = some (.int .i64 0) := (blk_cell BK232.out 2).trans rfl; have hfs16 := blk_frozen BK232.out 2; have hns16_0 := NB224_232.out; have hns16_1 := NB225_232.out; have hms16_0 := NB232_224.out; have hms16_1 := NB232_225.out; have hs17 : w13.cell? ⟨gb232, 3, none⟩ = some (.int .i64 0) := (blk_cell BK232.out 3).trans rfl; have hfs17 := blk_frozen BK232.out 3; have hns17_0 := NB224_232.out; have hns17_1 := NB225_232.out; have hms17_0 := NB232_224.out; have hms17_1 := NB232_225.out
      refine skip_ (w1 := ?_) (by rfl) rfl ?_ ?_
      rotate_left
      ·
       go_simp
       rfl
      refine hK.out _ _ ⟨((cell_far (p := ⟨gb232, _, none⟩) NB225_232.out _).trans (((cell_far (p := ⟨gb232, _, none⟩) NB225_232.out _).trans (((cell_far (p := ⟨gb232, _, none⟩) NB225_232.out _).trans (((cell_far (p := ⟨gb232, _, none⟩) NB225_232.out _).trans (hHeld.1)))))))), ((cell_far (p := ⟨gb232, _, none⟩) NB225_232.out _).trans (((cell_far (p := ⟨gb232, _, none⟩) NB225_232.out _).trans (((cell_far (p := ⟨gb232, _, none⟩) NB225_232.out _).trans (((cell_far (p := ⟨gb232, _, none⟩) NB225_232.out _).trans (hHeld.2.1)))))))), ((cell_far (p := ⟨gb232, _, none⟩) NB225_232.out _).trans (((cell_far (p := ⟨gb232, _, none⟩) NB225_232.out _).trans (((cell_far (p := ⟨gb232, _, none⟩) NB225_232.out _).trans (((cell_far (p := ⟨gb232, _, none⟩) NB225_232.out _).trans (hHeld.2.2.1)))))))), ((cell_far (p := ⟨gb232, _, none⟩) NB225_232.out _).trans (((cell_far (p := ⟨gb232, _, none⟩) NB225_232.out _).trans (((cell_far (p := ⟨gb232, _, none⟩) NB225_232.out _).trans (((cell_far (p := ⟨gb232, _, none⟩) NB225_232.out _).trans (hHeld.2.2.2.1)))))))), ((cell_far (p := ⟨gb232, _, none⟩) w1g4_ _).trans (((cell_far (p := ⟨gb232, _, none⟩) w1g4_ _).trans (((cell_far (p := ⟨gb232, _, none⟩) w1g4_ _).trans (((cell_far (p := ⟨gb232, _, none⟩) w1g4_ _).trans (hHeld.2.2.2.2.1)))))))), ((cell_far (p := ⟨gb232, _, none⟩) w2g4_ _).trans (((cell_far (p := ⟨gb232, _, none⟩) w2g4_ _).trans (((cell_far (p := ⟨gb232, _, none⟩) w2g4_ _).trans (((cell_far (p := ⟨gb232, _, none⟩) w2g4_ _).trans (hHeld.2.2.2.2.2))))))))⟩ (fun hHeld => ?_)
      clear hK K
      refine pd_ (i := 11) (N := some 7) b16g4_ rfl rfl ?_
      refine done_ (done_of HT_.out (by kernel_rfl)) ?_
      have hnb18 := NB232_224.out; have hnc18 := NB224_232.out; have hnb19 := NB232_225.out; have hnc19 := NB225_232.out; obtain ⟨hcz20_0, hcz20_1, hcz20_2, hcz20_3⟩ := blk4 BK232.out; obtain ⟨hfz20_0, hfz20_1, hfz20_2, hfz20_3⟩ := frz4 BK232.out; have hnb21 := NB225_224.out; have hnc21 := NB224_225.out; obtain ⟨hcz22_0, hcz22_1, hcz22_2, hcz22_3⟩ := blk4 BK225.out; obtain ⟨hfz22_0, hfz22_1, hfz22_2, hfz22_3⟩ := frz4 BK225.out
      try go_wp2
      go_roundg k1
      case measure => have := HK1.out; omega
      case rel => exact ⟨(wrap64 (x5_1 + 1)), (x225000_1), (x225001_1), (x225002_1), (x225003_1), (t227), (t228), (t229), (t230), (by first | rfl | (simp; done) | (simp [*]; done)), H', ⟨(by have := HK1.out; omega)⟩, ⟨(by (with_reducible repeat (first | refine blk_far ?_ NB224_225.out _ | refine blk_far ?_ NB224_232.out _ | refine blk_drewN ?_ _ | refine blk_drew ?_ | refine blk_alloc ?_ _)); exact BK224.out)⟩, ⟨(by (with_reducible repeat (first | refine blk_drewN ?_ _ | refine blk_drew ?_ | refine blk_alloc ?_ _)); refine blk_put (cs := #[.int .i64 t227, .int .i64 t228, .int .i64 t229, .int .i64 x226003_1]) ?_ 3 _ rfl; (with_reducible repeat (first | refine blk_drewN ?_ _ | refine blk_drew ?_ | refine blk_alloc ?_ _)); refine blk_put (cs := #[.int .i64 t227, .int .i64 t228, .int .i64 x226002_1, .int .i64 x226003_1]) ?_ 2 _ rfl; (with_reducible repeat (first | refine blk_drewN ?_ _ | refine blk_drew ?_ | refine blk_alloc ?_ _)); refine blk_put (cs := #[.int .i64 t227, .int .i64 x226001_1, .int .i64 x226002_1, .int .i64 x226003_1]) ?_ 1 _ rfl; (with_reducible repeat (first | refine blk_drewN ?_ _ | refine blk_drew ?_ | refine blk_alloc ?_ _)); refine blk_put (cs := #[.int .i64 x226000_1, .int .i64 x226001_1, .int .i64 x226002_1, .int .i64 x226003_1]) ?_ 0 _ rfl; (with_reducible repeat (first | refine blk_far ?_ NB225_232.out _ | refine blk_drewN ?_ _ | refine blk_drew ?_ | refine blk_alloc ?_ _)); exact BK225.out)⟩, ⟨w6g4_⟩⟩
     ·
      replace c9 := Bool.eq_false_iff.mpr c9
      subst c9
      rw [if_neg (show ¬ (false = true) by decide)] at H
      simp only [Option.some.injEq, Prod.mk.injEq] at H
      obtain ⟨rfl, rfl, rfl, rfl, rfl⟩ := H
      try go_wp2
      have n0_ := ag4_ (blk_drew BK224.out); have n1_ := ag4_ (blk_drew BK225.out); have n2_ := ag4_ (below_drew1 HB.out); clear BK224 BK225 HB; have BK224 := n0_; have BK225 := n1_; have HB := n2_; clear n0_ n1_ n2_
      have p226 : 0 ≤ (x5_1 : Int) := of_decide_eq_true w13g4_
      have q226 : x5_1 < (l0.length : Int) := of_decide_eq_true w13g4_
      obtain ⟨ad226, e226, hx226_0, hx226_1⟩ := at_T70 HR0.out x5_1 p226 q226; have hw226_1 := hx226_1; have hw226_0 := hx226_0
      cases e226
      replace hx226_0 := (HB.out.cell (World.block_lt_of_cell? _ _ hx226_0)).trans hx226_0
      replace hx226_1 := (HB.out.cell (World.block_lt_of_cell? _ _ hx226_1)).trans hx226_1
      replace p226 := eq_true p226
      replace q226 := eq_true q226
      refine start_ (n := 12) (S := fun w' => w'.cell? ⟨gb225, 0, none⟩ = some (.int .i64 x226000_1) ∧ w'.cell? ⟨gb225, 1, none⟩ = some (.int .i64 x226001_1) ∧ w'.cell? ⟨gb225, 2, none⟩ = some (.int .i64 x226002_1) ∧ w'.cell? ⟨gb225, 3, none⟩ = some (.int .i64 x226003_1) ∧ w'.cell? (ad226.add ((x5_1).toNat * 2)) = some (.int .i64 ((rd_T70 l0 x5_1).f0)) ∧ w'.cell? ⟨(ad226.add ((x5_1).toNat * 2)).block, (ad226.add ((x5_1).toNat * 2)).off + 1, none⟩ = some (.int .i64 ((rd_T70 l0 x5_1).f1))) (ds := []) b0g4_ (by kernel_rfl) rfl rfl ⟨(blk_cell BK225.out 0).trans rfl, (blk_cell BK225.out 1).trans rfl, (blk_cell BK225.out 2).trans rfl, (blk_cell BK225.out 3).trans rfl, ((HB.out.cell (World.block_lt_of_cell? _ _ hw226_0)).trans hw226_0), ((HB.out.cell (World.block_lt_of_cell? _ _ hw226_1)).trans hw226_1)⟩ (fun hHeld => ?_); refine with_tabW spec_l29Run.tab5 spec_l29Run.bits5 (fun HT_ HW_ => ?_)
      generalize wr.drew = w23 at BK224 BK225 HB hx226_0 hx226_1 hHeld ⊢
      refine pd_ (i := 1) (N := some 17) b1g4_ rfl rfl ?_
      refine pd_ (i := 2) (N := some 18) b2g4_ rfl rfl ?_
      refine pd_ (i := 3) (N := some 19) b3g4_ rfl rfl ?_
      refine td6_ (i := 0) (N := some 16) b4g4_ rfl rfl hHeld ?_
      refine td6_ (i := 4) (N := some 20) b5g4_ rfl rfl hHeld ?_
      refine join_ (σ := Nat) 2 b14g4_ (fun s_ => [(21, .tuple #[.agg #[.int .i64 t227, .int .i64 t228, .int .i64 t229, .int .i64 t230], .bool false]), (6, .pointer (some ⟨s_, 0, none⟩)), (15, .tuple #[.agg #[.int .i64 t227, .int .i64 t228, .int .i64 t229, .int .i64 t230], .bool false]), (22, .agg #[.int .i64 t227, .int .i64 t228, .int .i64 t229, .int .i64 t230]), (23, .bool false)]) (fun s_ w' => (w'.cell? ⟨gb225, 0, none⟩ = some (.int .i64 x226000_1) ∧ w'.cell? ⟨gb225, 1, none⟩ = some (.int .i64 x226001_1) ∧ w'.cell? ⟨gb225, 2, none⟩ = some (.int .i64 x226002_1) ∧ w'.cell? ⟨gb225, 3, none⟩ = some (.int .i64 x226003_1) ∧ w'.cell? (ad226.add ((x5_1).toNat * 2)) = some (.int .i64 ((rd_T70 l0 x5_1).f0)) ∧ w'.cell? ⟨(ad226.add ((x5_1).toNat * 2)).block, (ad226.add ((x5_1).toNat * 2)).off + 1, none⟩ = some (.int .i64 ((rd_T70 l0 x5_1).f1))) ∧ (w'.heap[gb224]? = some (.cells #[.int .i64 x225000_1, .int .i64 x225001_1, .int .i64 x225002_1, .int .i64 x225003_1] 68 (0, 0))) ∧ (w'.heap[gb225]? = some (.cells #[.int .i64 x226000_1, .int .i64 x226001_1, .int .i64 x226002_1, .int .i64 x226003_1] 68 (0, 0))) ∧ (w'.heap[s_]? = some (.cells #[.int .i64 0, .int .i64 0, .int .i64 0, .int .i64 0] 68 (0, 0))) ∧ (w.heap.size ≤ s_) ∧ (w.heap.size ≤ s_) ∧ (gb224 ≠ s_) ∧ (s_ ≠ gb224) ∧ (gb225 ≠ s_) ∧ (s_ ≠ gb225) ∧ (Below w.heap.size w w')) ?_ ?_
      rotate_left
      ·
       intro hCont
       refine two_ (i := 5) (j := 9) (Ni := some 21) (Nj := some 6) b7g4_ b6g4_ rfl rfl rfl rfl (two_of HT_.out (by kernel_rfl)) (by decide) (by decide) (fun K hK => ?_) (fun K hK => ?_)
       ·
        refine goes_ Tryd.func106 (by kernel_rfl) rfl #[.agg #[.int .i64 x226000_1, .int .i64 x226001_1, .int .i64 x226002_1, .int .i64 x226003_1], .agg #[.int .i64 ((rd_T70 l0 x5_1).f0), .int .i64 ((rd_T70 l0 x5_1).f1)]] (by rfl) rfl rfl w9g4_ ?_
        with_reducible refine (spec_l29Make.calls x226000_1 x226001_1 x226002_1 x226003_1 ((rd_T70 l0 x5_1).f0) ((rd_T70 l0 x5_1).f1) t227 t228 t229 t230 false _ A8.out).mono ?_
        rintro e w24 ⟨rfl, hb⟩
        refine ⟨_, rfl, ?_⟩
        have n0_ := ag4_ (blk_below w4g4_ hb); have n1_ := ag4_ (blk_below w5g4_ hb)
        have n2_ := ag4_ (below_step w3g4_ hb)
        clear BK224 BK225 HB; have BK224 := n0_; have BK225 := n1_; have HB := n2_; clear n0_ n1_ n2_
        (try clear hb)
        (try clear hb2)
        (try clear hk)
        (try clear hi)
        refine hK.out _ _ ⟨(blk_cell BK225.out 0).trans rfl, (blk_cell BK225.out 1).trans rfl, (blk_cell BK225.out 2).trans rfl, (blk_cell BK225.out 3).trans rfl, ((HB.out.cell (World.block_lt_of_cell? _ _ hw226_0)).trans hw226_0), ((HB.out.cell (World.block_lt_of_cell? _ _ hw226_1)).trans hw226_1)⟩ (fun hHeld => ?_); clear hK K
        refine norm_ (a' := _) w7g4_ ?_
        refine pd_ (i := 6) (N := some 15) b9g4_ rfl rfl ?_
        refine pd_ (i := 7) (N := some 22) b11g4_ rfl rfl ?_
        refine pd_ (i := 8) (N := some 23) b13g4_ rfl rfl ?_
        refine one_ (i := 9) (N := some 6) b14g4_ rfl rfl (one_of HT_.out (by kernel_rfl)) (by decide) (fun K hK => ?_)
        refine box_step ?hg (N := 6) ?hd (cs := #[.int .i64 0, .int .i64 0, .int .i64 0, .int .i64 0]) (t := 68) ?hr ?_; (case hd => rfl); (case hg => rfl); (case hr => first | (go_simp; done) | (go_simp; rfl))
        intro gb232 hg w25 hbox hb; have n0_ := ag4_ (blk_below w4g4_ hb); have n1_ := ag4_ (blk_below w5g4_ hb)
        have n2_ := ag4_ (below_step w3g4_ hb)
        have n3_ := ag4_ (hbox)
        have n4_ := ag4_ ((by rw [hg]; exact (below_size w3g4_) : w.heap.size ≤ gb232))
        have n5_ := ag4_ ((by rw [hg]; exact (below_size w3g4_) : w.heap.size ≤ gb232))
        have n6_ := ag4_ ((by rw [hg]; exact Nat.ne_of_lt (blk_lt w4g4_) : gb224 ≠ gb232)); have n7_ := ag4_ ((by rw [hg]; exact Nat.ne_of_gt (blk_lt w4g4_) : gb232 ≠ gb224)); have n8_ := ag4_ ((by rw [hg]; exact Nat.ne_of_lt (blk_lt w5g4_) : gb225 ≠ gb232)); have n9_ := ag4_ ((by rw [hg]; exact Nat.ne_of_gt (blk_lt w5g4_) : gb232 ≠ gb225)); clear BK224 BK225 HB; have BK224 := n0_; have BK225 := n1_; have HB := n2_; have BK232 := n3_; have GW232 := n4_; have GE232 := n5_; have NB224_232 := n6_; have NB232_224 := n7_; have NB225_232 := n8_; have NB232_225 := n9_; clear n0_ n1_ n2_ n3_ n4_ n5_ n6_ n7_ n8_ n9_ hb hbox hg; refine hK.out _ _ ⟨(blk_cell BK225.out 0).trans rfl, (blk_cell BK225.out 1).trans rfl, (blk_cell BK225.out 2).trans rfl, (blk_cell BK225.out 3).trans rfl, ((HB.out.cell (World.block_lt_of_cell? _ _ hw226_0)).trans hw226_0), ((HB.out.cell (World.block_lt_of_cell? _ _ hw226_1)).trans hw226_1)⟩ (fun hHeld => ?_); clear hK K
        refine norm_ (a' := _) w7g4_ ?_
        exact norm_ w11g4_ (hCont (gb232) _ ⟨hHeld, w4g4_, w5g4_, w8g4_, GW232.out, GE232.out, NB224_232.out, NB232_224.out, NB225_232.out, NB232_225.out, w6g4_⟩)
       ·
        refine box_step ?hg (N := 6) ?hd (cs := #[.int .i64 0, .int .i64 0, .int .i64 0, .int .i64 0]) (t := 68) ?hr ?_; (case hd => rfl); (case hg => rfl); (case hr => first | (go_simp; done) | (go_simp; rfl))
        intro gb232 hg w24 hbox hb; have n0_ := ag4_ (blk_below w4g4_ hb); have n1_ := ag4_ (blk_below w5g4_ hb)
        have n2_ := ag4_ (below_step w3g4_ hb)
        have n3_ := ag4_ (hbox)
        have n4_ := ag4_ ((by rw [hg]; exact (below_size w3g4_) : w.heap.size ≤ gb232))
        have n5_ := ag4_ ((by rw [hg]; exact (below_size w3g4_) : w.heap.size ≤ gb232))
        have n6_ := ag4_ ((by rw [hg]; exact Nat.ne_of_lt (blk_lt w4g4_) : gb224 ≠ gb232)); have n7_ := ag4_ ((by rw [hg]; exact Nat.ne_of_gt (blk_lt w4g4_) : gb232 ≠ gb224)); have n8_ := ag4_ ((by rw [hg]; exact Nat.ne_of_lt (blk_lt w5g4_) : gb225 ≠ gb232)); have n9_ := ag4_ ((by rw [hg]; exact Nat.ne_of_gt (blk_lt w5g4_) : gb232 ≠ gb225)); clear BK224 BK225 HB; have BK224 := n0_; have BK225 := n1_; have HB := n2_; have BK232 := n3_; have GW232 := n4_; have GE232 := n5_; have NB224_232 := n6_; have NB232_224 := n7_; have NB225_232 := n8_; have NB232_225 := n9_; clear n0_ n1_ n2_ n3_ n4_ n5_ n6_ n7_ n8_ n9_ hb hbox hg; refine hK.out _ _ ⟨(blk_cell BK225.out 0).trans rfl, (blk_cell BK225.out 1).trans rfl, (blk_cell BK225.out 2).trans rfl, (blk_cell BK225.out 3).trans rfl, ((HB.out.cell (World.block_lt_of_cell? _ _ hw226_0)).trans hw226_0), ((HB.out.cell (World.block_lt_of_cell? _ _ hw226_1)).trans hw226_1)⟩ (fun hHeld => ?_); clear hK K
        refine norm_ (a' := _) w7g4_ ?_
        refine one_ (i := 5) (N := some 21) b8g4_ rfl rfl (one_of HT_.out (by kernel_rfl)) (by decide) (fun K hK => ?_)
        refine goes_ Tryd.func106 (by kernel_rfl) rfl #[.agg #[.int .i64 x226000_1, .int .i64 x226001_1, .int .i64 x226002_1, .int .i64 x226003_1], .agg #[.int .i64 ((rd_T70 l0 x5_1).f0), .int .i64 ((rd_T70 l0 x5_1).f1)]] (by rfl) rfl rfl w9g4_ ?_
        with_reducible refine (spec_l29Make.calls x226000_1 x226001_1 x226002_1 x226003_1 ((rd_T70 l0 x5_1).f0) ((rd_T70 l0 x5_1).f1) t227 t228 t229 t230 false _ A8.out).mono ?_
        rintro e w25 ⟨rfl, hb⟩
        refine ⟨_, rfl, ?_⟩
        have n0_ := ag4_ (blk_below w4g4_ hb); have n1_ := ag4_ (blk_below w5g4_ hb); have n2_ := ag4_ (blk_below w8g4_ hb)
        have n3_ := ag4_ (below_step w6g4_ hb)
        clear BK224 BK225 BK232 HB; have BK224 := n0_; have BK225 := n1_; have BK232 := n2_; have HB := n3_; clear n0_ n1_ n2_ n3_
        (try clear hb)
        (try clear hb2)
        (try clear hk)
        (try clear hi)
        refine hK.out _ _ ⟨(blk_cell BK225.out 0).trans rfl, (blk_cell BK225.out 1).trans rfl, (blk_cell BK225.out 2).trans rfl, (blk_cell BK225.out 3).trans rfl, ((HB.out.cell (World.block_lt_of_cell? _ _ hw226_0)).trans hw226_0), ((HB.out.cell (World.block_lt_of_cell? _ _ hw226_1)).trans hw226_1)⟩ (fun hHeld => ?_); clear hK K
        refine norm_ (a' := _) w7g4_ ?_
        refine pd_ (i := 6) (N := some 15) b10g4_ rfl rfl ?_
        refine pd_ (i := 7) (N := some 22) b12g4_ rfl rfl ?_
        refine pd_ (i := 8) (N := some 23) b14g4_ rfl rfl ?_
        exact norm_ w11g4_ (hCont (gb232) _ ⟨hHeld, w4g4_, w5g4_, w8g4_, GW232.out, GE232.out, NB224_232.out, NB232_224.out, NB225_232.out, NB232_225.out, w6g4_⟩)
      rintro gb232 w26 ⟨hS_, h0_, h1_, h2_, h3_, h4_, h5_, h6_, h7_, h8_, h9_⟩; have n0_ : Aside0 (w26.heap[gb224]? = some (.cells #[.int .i64 x225000_1, .int .i64 x225001_1, .int .i64 x225002_1, .int .i64 x225003_1] 68 (0, 0))) := ⟨h0_⟩; have n1_ : Aside0 (w26.heap[gb225]? = some (.cells #[.int .i64 x226000_1, .int .i64 x226001_1, .int .i64 x226002_1, .int .i64 x226003_1] 68 (0, 0))) := ⟨h1_⟩; have n2_ : Aside0 (w26.heap[gb232]? = some (.cells #[.int .i64 0, .int .i64 0, .int .i64 0, .int .i64 0] 68 (0, 0))) := ⟨h2_⟩; have n3_ : Aside0 (w.heap.size ≤ gb232) := ⟨h3_⟩; have n4_ : Aside0 (w.heap.size ≤ gb232) := ⟨h4_⟩; have n5_ : Aside0 (gb224 ≠ gb232) := ⟨h5_⟩; have n6_ : Aside0 (gb232 ≠ gb224) := ⟨h6_⟩; have n7_ : Aside0 (gb225 ≠ gb232) := ⟨h7_⟩; have n8_ : Aside0 (gb232 ≠ gb225) := ⟨h8_⟩; have n9_ : Aside0 (Below w.heap.size w w26) := ⟨h9_⟩; clear BK224 BK225 HB h0_ h1_ h2_ h3_ h4_ h5_ h6_ h7_ h8_ h9_; have BK224 := n0_; have BK225 := n1_; have BK232 := n2_; have GW232 := n3_; have GE232 := n4_; have NB224_232 := n5_; have NB232_224 := n6_; have NB225_232 := n7_; have NB232_225 := n8_; have HB := n9_; clear n0_ n1_ n2_ n3_ n4_ n5_ n6_ n7_ n8_ n9_; have hHeld : w26.cell? ⟨gb225, 0, none⟩ = some (.int .i64 x226000_1) ∧ w26.cell? ⟨gb225, 1, none⟩ = some (.int .i64 x226001_1) ∧ w26.cell? ⟨gb225, 2, none⟩ = some (.int .i64 x226002_1) ∧ w26.cell? ⟨gb225, 3, none⟩ = some (.int .i64 x226003_1) ∧ w26.cell? (ad226.add ((x5_1).toNat * 2)) = some (.int .i64 ((rd_T70 l0 x5_1).f0)) ∧ w26.cell? ⟨(ad226.add ((x5_1).toNat * 2)).block, (ad226.add ((x5_1).toNat * 2)).off + 1, none⟩ = some (.int .i64 ((rd_T70 l0 x5_1).f1)) := hS_
      refine norm_ (a' := _) (by simp only [putAll, Act.put, List.setIfInBounds_toArray, List.set_cons_zero, List.set_cons_succ]; rfl) ?_
      refine one_ (i := 10) (N := none) b15g4_ rfl rfl (one_of HT_.out (by kernel_rfl)) (by decide) (fun K hK => ?_)
      have hs27 : w26.cell? ⟨gb232, 0, none⟩ = some (.int .i64 0) := (blk_cell BK232.out 0).trans rfl; have hfs27 := blk_frozen BK232.out 0; have hns27_0 := NB224_232.out; have hns27_1 := NB225_232.out; have hms27_0 := NB232_224.out; have hms27_1 := NB232_225.out; have hs28 : w26.cell? ⟨gb232, 1, none⟩ = some (.int .i64 0) := (blk_cell BK232.out 1).trans rfl; have hfs28 := blk_frozen BK232.out 1; have hns28_0 := NB224_232.out; have hns28_1 := NB225_232.out; have hms28_0 := NB232_224.out; have hms28_1 := NB232_225.out; have hs29 : w26.cell? ⟨gb232, 2, none⟩ = some (.int .i64 0) := (blk_cell BK232.out 2).trans rfl; have hfs29 := blk_frozen BK232.out 2; have hns29_0 := NB224_232.out; have hns29_1 := NB225_232.out; have hms29_0 := NB232_224.out; have hms29_1 := NB232_225.out; have hs30 : w26.cell? ⟨gb232, 3, none⟩ = some (.int .i64 0) := (blk_cell BK232.out 3).trans rfl; have hfs30 := blk_frozen BK232.out 3; have hns30_0 := NB224_232.out; have hns30_1 := NB225_232.out; have hms30_0 := NB232_224.out; have hms30_1 := NB232_225.out
      refine skip_ (w1 := ?_) (by rfl) rfl ?_ ?_
      rotate_left
      ·
       go_simp
       rfl
      refine hK.out _ _ ⟨((cell_far (p := ⟨gb232, _, none⟩) NB225_232.out _).trans (((cell_far (p := ⟨gb232, _, none⟩) NB225_232.out _).trans (((cell_far (p := ⟨gb232, _, none⟩) NB225_232.out _).trans (((cell_far (p := ⟨gb232, _, none⟩) NB225_232.out _).trans (hHeld.1)))))))), ((cell_far (p := ⟨gb232, _, none⟩) NB225_232.out _).trans (((cell_far (p := ⟨gb232, _, none⟩) NB225_232.out _).trans (((cell_far (p := ⟨gb232, _, none⟩) NB225_232.out _).trans (((cell_far (p := ⟨gb232, _, none⟩) NB225_232.out _).trans (hHeld.2.1)))))))), ((cell_far (p := ⟨gb232, _, none⟩) NB225_232.out _).trans (((cell_far (p := ⟨gb232, _, none⟩) NB225_232.out _).trans (((cell_far (p := ⟨gb232, _, none⟩) NB225_232.out _).trans (((cell_far (p := ⟨gb232, _, none⟩) NB225_232.out _).trans (hHeld.2.2.1)))))))), ((cell_far (p := ⟨gb232, _, none⟩) NB225_232.out _).trans (((cell_far (p := ⟨gb232, _, none⟩) NB225_232.out _).trans (((cell_far (p := ⟨gb232, _, none⟩) NB225_232.out _).trans (((cell_far (p := ⟨gb232, _, none⟩) NB225_232.out _).trans (hHeld.2.2.2.1)))))))), ((cell_far (p := ⟨gb232, _, none⟩) w1g4_ _).trans (((cell_far (p := ⟨gb232, _, none⟩) w1g4_ _).trans (((cell_far (p := ⟨gb232, _, none⟩) w1g4_ _).trans (((cell_far (p := ⟨gb232, _, none⟩) w1g4_ _).trans (hHeld.2.2.2.2.1)))))))), ((cell_far (p := ⟨gb232, _, none⟩) w2g4_ _).trans (((cell_far (p := ⟨gb232, _, none⟩) w2g4_ _).trans (((cell_far (p := ⟨gb232, _, none⟩) w2g4_ _).trans (((cell_far (p := ⟨gb232, _, none⟩) w2g4_ _).trans (hHeld.2.2.2.2.2))))))))⟩ (fun hHeld => ?_)
      clear hK K
      refine pd_ (i := 11) (N := some 7) b16g4_ rfl rfl ?_
      refine done_ (done_of HT_.out (by kernel_rfl)) ?_
      have hnb31 := NB224_225.out; have hnc31 := NB225_224.out; have hnb32 := NB224_232.out; have hnc32 := NB232_224.out; obtain ⟨hcz33_0, hcz33_1, hcz33_2, hcz33_3⟩ := blk4 BK224.out; obtain ⟨hfz33_0, hfz33_1, hfz33_2, hfz33_3⟩ := frz4 BK224.out
      try go_wp2
      refine bodyPost_ret (results_ct rfl _ _ gb224 68 #[.int .i64 0, .int .i64 0, .int .i64 0, .int .i64 0] (0, 0) _ rfl (by (with_reducible repeat (first | refine blk_drewN ?_ _ | refine blk_drew ?_ | refine blk_alloc ?_ _)); refine blk_put (cs := #[.int .i64 0, .int .i64 0, .int .i64 0, .int .i64 x225003_1]) ?_ 3 _ rfl; (with_reducible repeat (first | refine blk_drewN ?_ _ | refine blk_drew ?_ | refine blk_alloc ?_ _)); refine blk_put (cs := #[.int .i64 0, .int .i64 0, .int .i64 x225002_1, .int .i64 x225003_1]) ?_ 2 _ rfl; (with_reducible repeat (first | refine blk_drewN ?_ _ | refine blk_drew ?_ | refine blk_alloc ?_ _)); refine blk_put (cs := #[.int .i64 0, .int .i64 x225001_1, .int .i64 x225002_1, .int .i64 x225003_1]) ?_ 1 _ rfl; (with_reducible repeat (first | refine blk_drewN ?_ _ | refine blk_drew ?_ | refine blk_alloc ?_ _)); refine blk_put (cs := #[.int .i64 x225000_1, .int .i64 x225001_1, .int .i64 x225002_1, .int .i64 x225003_1]) ?_ 0 _ rfl; (with_reducible repeat (first | refine blk_far ?_ NB224_232.out _ | refine blk_drewN ?_ _ | refine blk_drew ?_ | refine blk_alloc ?_ _)); exact BK224.out) Tryd.underlying68 rfl (by kernel_rfl)) rfl ?_
      exact ⟨(by first | rfl | (simp [errW_none, errW_some] <;> rfl) | (simp [*, errW_none, errW_some] <;> rfl)), w6g4_⟩
    ·
     rw [if_neg c7] at H
     exact absurd H (by simp)
   ·
    rw [if_neg c6] at H
    have c6b0 : decide (x5_1 < (l0.length : Int)) = false := decide_eq_false c6; clear c6
    simp only [Option.some.injEq, Prod.mk.injEq] at H
    obtain ⟨rfl, rfl, rfl, rfl, rfl⟩ := H; have hnb34 := NB225_224.out; have hnc34 := NB224_225.out; obtain ⟨hcz35_0, hcz35_1, hcz35_2, hcz35_3⟩ := blk4 BK225.out; obtain ⟨hfz35_0, hfz35_1, hfz35_2, hfz35_3⟩ := frz4 BK225.out; obtain ⟨hcz36_0, hcz36_1, hcz36_2, hcz36_3⟩ := blk4 BK224.out; obtain ⟨hfz36_0, hfz36_1, hfz36_2, hfz36_3⟩ := frz4 BK224.out
    go_wp2
    refine bodyPost_ret (results_ct rfl _ _ gb224 68 #[.int .i64 x226000_1, .int .i64 x226001_1, .int .i64 x226002_1, .int .i64 x226003_1] (0, 0) _ rfl (by (with_reducible repeat (first | refine blk_drewN ?_ _ | refine blk_drew ?_ | refine blk_alloc ?_ _)); refine blk_put (cs := #[.int .i64 x226000_1, .int .i64 x226001_1, .int .i64 x226002_1, .int .i64 x225003_1]) ?_ 3 _ rfl; (with_reducible repeat (first | refine blk_drewN ?_ _ | refine blk_drew ?_ | refine blk_alloc ?_ _)); refine blk_put (cs := #[.int .i64 x226000_1, .int .i64 x226001_1, .int .i64 x225002_1, .int .i64 x225003_1]) ?_ 2 _ rfl; (with_reducible repeat (first | refine blk_drewN ?_ _ | refine blk_drew ?_ | refine blk_alloc ?_ _)); refine blk_put (cs := #[.int .i64 x226000_1, .int .i64 x225001_1, .int .i64 x225002_1, .int .i64 x225003_1]) ?_ 1 _ rfl; (with_reducible repeat (first | refine blk_drewN ?_ _ | refine blk_drew ?_ | refine blk_alloc ?_ _)); refine blk_put (cs := #[.int .i64 x225000_1, .int .i64 x225001_1, .int .i64 x225002_1, .int .i64 x225003_1]) ?_ 0 _ rfl; (with_reducible repeat (first | refine blk_drewN ?_ _ | refine blk_drew ?_ | refine blk_alloc ?_ _)); exact BK224.out) Tryd.underlying68 rfl (by kernel_rfl)) rfl ?_
    exact ⟨(by first | rfl | (simp [errW_none, errW_some] <;> rfl) | (simp [*, errW_none, errW_some] <;> rfl)), w3g4_⟩
end Go.Proofs.YtoiioapkebglgaaDoor.PG
end
