-- Gathered by this session's program wip/tool/shake.py out of its own texts and of what the kit's print and the session's patches of it wrote for this claim.
import Derived.Test.YtoiioapkebglgaaDoorCFnJournals3
import Derived.Test.YtoiioapkebglgaaDoorCFnJournals9
import Derived.Test.YtoiioapkebglgaaDoorCFnJournals16
section
namespace Go.Proofs.YtoiioapkebglgaaDoor.PG
open Go.RowKit Go.Proofs.YtoiioapkebglgaaDoorW.PrintWords Go.Proofs.YtoiioapkebglgaaDoorW.PrintLast Go.Proofs.YtoiioapkebglgaaDoorW.PrintMore
attribute [local go_sem] max2_int min2_int max_two min_two max_three min_three max_four min_four   -- for this text's walks alone
set_option linter.unusedVariables false
set_option linter.unusedSimpArgs false
/-- A state of type 200 at block g of W; what its slices lead to came in by w0. -/
def IsS200 (w0 W : World) (g : Nat) (f0 : List Int) (f1 : Int) (f2 : Int) : Prop := ∃ A0 c0, W.heap[g]? = some (.cells #[.slice A0 f0.length c0, .int .i64 f1, .int .i64 f2] 200 (0, 0)) ∧ w0.heap.size ≤ g ∧ Kd.C (Kd.int .u8) w0 A0 f0.length f0
theorem IsS200.grown {w0 W : World} {g : Nat} {f0 : List Int} {f1 : Int} {f2 : Int} {W1 : World} {row : Option Nat} (h : IsS200 w0 W g f0 f1 f2) (hw : W.grownBy W1 row) (hne : some g ≠ row) : IsS200 w0 W1 g f0 f1 f2 := by
  obtain ⟨A0, c0, hb, hg, hr0⟩ := h
  exact ⟨A0, c0, blk_grown hb hw hne, hg, hr0⟩
theorem IsS200.fresh {w0 W : World} {g : Nat} {f0 : List Int} {f1 : Int} {f2 : Int} (h : IsS200 w0 W g f0 f1 f2) : ∀ k, W.heap.size ≤ k → k ≠ g := by
  obtain ⟨A0, c0, hb, hg, hr0⟩ := h
  exact Kd.freshB hb
theorem IsS200.kept {w0 W : World} {g : Nat} {f0 : List Int} {f1 : Int} {f2 : Int} {W1 : World} {S : Nat → Prop} (h : IsS200 w0 W g f0 f1 f2) (hk : Kept W W1 S) (hne : ¬ S g) : IsS200 w0 W1 g f0 f1 f2 := by
  obtain ⟨A0, c0, hb, hg, hr0⟩ := h
  exact ⟨A0, c0, blk_kept hb hk hne, hg, hr0⟩
theorem IsS200.below {w0 W : World} {g : Nat} {f0 : List Int} {f1 : Int} {f2 : Int} {W1 : World} (h : IsS200 w0 W g f0 f1 f2) (hw : Below W.heap.size W W1) : IsS200 w0 W1 g f0 f1 f2 := h.grown (grown_of_below hw none) (by simp)
theorem IsS200.alloc {w0 W : World} {g : Nat} {f0 : List Int} {f1 : Int} {f2 : Int} (h : IsS200 w0 W g f0 f1 f2) (o : Obj) : IsS200 w0 (W.alloc o) g f0 f1 f2 := h.below (below_alloc (Below.refl _ _) o)
theorem IsS200.drewN {w0 W : World} {g : Nat} {f0 : List Int} {f1 : Int} {f2 : Int} (h : IsS200 w0 W g f0 f1 f2) (m : Nat) : IsS200 w0 (W.drewN m) g f0 f1 f2 := h
theorem IsS200.drew {w0 W : World} {g : Nat} {f0 : List Int} {f1 : Int} {f2 : Int} (h : IsS200 w0 W g f0 f1 f2) : IsS200 w0 W.drew g f0 f1 f2 := h
theorem IsS200.at_ {w0 W : World} {g : Nat} {f0 : List Int} {f1 : Int} {f2 : Int} {w' : World} {m : Nat} (hq : W.drewN m = w') (h : IsS200 w0 W g f0 f1 f2) : IsS200 w0 w' g f0 f1 f2 := by subst hq; exact IsS200.drewN h m
theorem IsS200.apart {w0 W : World} {g : Nat} {f0 : List Int} {f1 : Int} {f2 : Int} {α : Type} {d : Kd α} {e : Nat} {base : Nat} {ok : Nat → Prop} {v : Value} {xs : List α} (h : IsS200 w0 W g f0 f1 f2) (ho : d.R e W base ok v xs) (ht : ∀ q, q ∈ e :: d.E → q ≠ 200) : d.R e W base (fun k => ok k ∧ k ≠ g) v xs := by
  obtain ⟨A0, c0, hb, hg, hr0⟩ := h
  exact Kd.R_types ho hb ht
theorem IsS200.own_ne {w0 W : World} {g : Nat} {f0 : List Int} {f1 : Int} {f2 : Int} {α : Type} {d : Kd α} {e : Nat} {base : Nat} {ok : Nat → Prop} {v : Value} {xs : List α} (h : IsS200 w0 W g f0 f1 f2) (ho : d.R e W base ok v xs) (ht : e ≠ 200) : some g ≠ v.ownBlock := by
  obtain ⟨A0, c0, hb, hg, hr0⟩ := h
  exact Kd.R_ne ho hb ht
theorem IsS200.lt {w0 W : World} {g : Nat} {f0 : List Int} {f1 : Int} {f2 : Int} (h : IsS200 w0 W g f0 f1 f2) : g < W.heap.size := by
  obtain ⟨A0, c0, hb, hg, hr0⟩ := h
  exact blk_lt hb
theorem IsS200.ge {w0 W : World} {g : Nat} {f0 : List Int} {f1 : Int} {f2 : Int} (h : IsS200 w0 W g f0 f1 f2) : w0.heap.size ≤ g := by
  obtain ⟨A0, c0, hb, hg, hr0⟩ := h
  exact hg
theorem IsS200.ne_blk {w0 W : World} {g : Nat} {f0 : List Int} {f1 : Int} {f2 : Int} {a : Nat} {cs : Array Value} {t : TypeId} {fr : Nat × Nat} (h : IsS200 w0 W g f0 f1 f2) (hb2 : W.heap[a]? = some (.cells cs t fr)) (ht : t ≠ 200) : g ≠ a := by
  obtain ⟨A0, c0, hb, hg, hr0⟩ := h
  rintro rfl
  rw [hb] at hb2
  injection hb2 with hb2
  injection hb2 with _ ht2
  exact ht ht2.symm
theorem IsS200.far {w0 W : World} {g : Nat} {f0 : List Int} {f1 : Int} {f2 : Int} {p : Addr} (h : IsS200 w0 W g f0 f1 f2) (hne : g ≠ p.block) (u : Value) : IsS200 w0 (W.setCell p u) g f0 f1 f2 := by
  obtain ⟨A0, c0, hb, hg, hr0⟩ := h
  exact ⟨A0, c0, blk_far hb hne u, hg, hr0⟩
theorem cellS200_0 {W : World} {g : Nat} {A0 : Option Addr} {c0 : Nat} {f0 : List Int} {f1 : Int} {f2 : Int} (h : W.heap[g]? = some (.cells #[.slice A0 f0.length c0, .int .i64 f1, .int .i64 f2] 200 (0, 0))) : W.cell? ⟨g, 0, none⟩ = some (.slice A0 f0.length c0) := (blk_cell h 0).trans rfl
theorem cellS200_1 {W : World} {g : Nat} {A0 : Option Addr} {c0 : Nat} {f0 : List Int} {f1 : Int} {f2 : Int} (h : W.heap[g]? = some (.cells #[.slice A0 f0.length c0, .int .i64 f1, .int .i64 f2] 200 (0, 0))) : W.cell? ⟨g, 1, none⟩ = some (.int .i64 f1) := (blk_cell h 1).trans rfl
theorem IsS200.set_1 {w0 W : World} {g : Nat} {f0 : List Int} {f1 : Int} {f2 : Int} (h : IsS200 w0 W g f0 f1 f2) (x : Int) : IsS200 w0 (W.setCell ⟨g, 1, none⟩ (.int .i64 x)) g f0 x f2 := by
  obtain ⟨A0, c0, hb, hg, hr0⟩ := h
  exact ⟨A0, c0, (by simpa using blk_set hb 1 (.int .i64 x)), hg, hr0⟩
theorem cellS200_2 {W : World} {g : Nat} {A0 : Option Addr} {c0 : Nat} {f0 : List Int} {f1 : Int} {f2 : Int} (h : W.heap[g]? = some (.cells #[.slice A0 f0.length c0, .int .i64 f1, .int .i64 f2] 200 (0, 0))) : W.cell? ⟨g, 2, none⟩ = some (.int .i64 f2) := (blk_cell h 2).trans rfl
theorem IsS200.set_2 {w0 W : World} {g : Nat} {f0 : List Int} {f1 : Int} {f2 : Int} (h : IsS200 w0 W g f0 f1 f2) (x : Int) : IsS200 w0 (W.setCell ⟨g, 2, none⟩ (.int .i64 x)) g f0 f1 x := by
  obtain ⟨A0, c0, hb, hg, hr0⟩ := h
  exact ⟨A0, c0, (by simpa using blk_set hb 2 (.int .i64 x)), hg, hr0⟩
def spec_l01From.l0 : Nat → List Int → Int → List Int → Int → Int → Option (List Int × Int × Int)
  | 0, _, _, _, _, _ => none
  | k + 1, x0, x4, x254000, x254001, x254002 => if x4 < (x0.length : Int) then (if x4 < 64 then (if 0 ≤ x4 then (spec_l01From.l0 k x0 (wrap64 (x4 + 1)) x254000 x254001 (Int.tmod (wrap64 ((wrap64 (x254002 * 71)) + (wrap64 (rd x0 x4)))) 2147483647)) else (none)) else (some (x254000, x254001, x254002))) else (some (x254000, x254001, x254002))
def spec_l01From.f (k : Nat) (l0 : List Int) : Option (List Int × Int × Int) := spec_l01From.l0 k l0 0 l0 0 88007
def spec_l01From.T5 : Bool × List (List Nat × List Nat) := (true, [([], []), ([], []), ([1], [1]), ([2], [2]), ([3], [3]), ([4], [4]), ([], []), ([], []), ([6, 7], [6, 7]), ([8], [8]), ([9], [9]), ([5, 10], [5, 10]), ([11], [11]), ([0, 0, 1, 2, 3, 4, 5, 6, 7, 8, 9, 10, 11, 12], [0]), ([13, 0, 1, 2, 3, 4, 5, 6, 7, 8, 9, 10, 11, 12], [13]), ([14, 12, 0, 1, 2, 3, 4, 5, 6, 7, 8, 9, 10, 11, 12], [12, 14])])
def spec_l01From.B5 : List Nat := [0, 0, 2, 6, 14, 30, 0, 0, 192, 448, 960, 2046, 4094, 8191, 16383, 32767]
theorem spec_l01From.tab5 : rtab .any (opsOf Tryd.f99 5) = spec_l01From.T5 := by kernel_rfl
theorem spec_l01From.bits5 : waitsOk spec_l01From.T5.2 spec_l01From.B5 = true := by kernel_rfl
theorem ag9_ {p : Prop} (h : p) : Aside0 p := ⟨h⟩
theorem w1g9_ {p : Prop} (h : p := by repeat (first | (with_reducible first | exact HBW.out | apply below_alloc | apply pw_below_drewN | apply below_drew1 | refine below_set ?_ GW253.out) | exact HBW.out)) : p := h
theorem w2g9_ {p : Prop} (h : p := by repeat (first | (with_reducible first | exact HB.out | apply below_alloc | apply pw_below_drewN | apply below_drew1 | refine below_set ?_ GE253.out) | exact HB.out)) : p := h
theorem w3g9_ {p : Prop} (h : p := by (with_reducible repeat (first | refine blk_drewN ?_ _ | refine blk_drew ?_ | refine blk_alloc ?_ _)); exact BK253.out) : p := h
theorem w4g9_ {p : Prop} (h : p := by repeat (first | (with_reducible first | exact HBW.out | apply below_alloc | apply pw_below_drewN | apply below_drew1) | exact HBW.out)) : p := h
set_option maxHeartbeats 8000000 in
set_option maxRecDepth 100000 in
theorem spec_l01From.calls (k : Nat) (A0 : Option Addr) (c0 : Nat) (l0 : List Int) (r1 : List Int) (r2 : Int) (r3 : Int) (w0 w : World) (hB : Below w0.heap.size w0 w) (hr0 : Kd.C (Kd.int .u8) w0 A0 l0.length l0) (hc0 : l0.length ≤ c0) (h : spec_l01From.f k l0 = some (r1, r2, r3)) :
 Calls Tryd.prog 99 #[.slice A0 l0.length c0] w fun e w' => ∃ g_ : Nat, e = .returned (.pointer (some ⟨g_, 0, none⟩)) ∧ IsS200 w0 w' g_ r1 r2 r3 ∧ Below w0.heap.size w0 w' ∧ Below w.heap.size w w' := by
 have hu200 := Tryd.underlying200; have HR0 := ag9_ hr0; have HC0 := ag9_ hc0; clear hr0 hc0; have HBW := ag9_ (Below.refl w.heap.size w); have HW0 := ag9_ hB.size; have HB := ag9_ hB; clear hB; have H : (spec_l01From.l0 k l0 0 l0 0 88007) = some (r1, r2, r3) := h; clear h; have H' := ag9_ H; clear H
 go_enter Tryd.func99, Tryd.ntmps99
 go_wp2_with (first | ((with_reducible refine gate_dst (N := 7) rfl ?_); refine be_ (N := 7) (cs := #[.slice A0 l0.length c0, .int .i64 0, .int .i64 88007]) (t := 200) ?_; intro gb253 hg w2 hbox hb; have BK253 := ag9_ (hbox); have GW253 := gw_ (w := w) hg w4g9_; have GE253 := ag9_ ((Nat.le_trans HW0.out (by rw [hg]; exact (below_size w4g9_) : w.heap.size ≤ gb253) : w0.heap.size ≤ gb253)); replace HBW := ag9_ (below_step HBW.out hb); replace HB := ag9_ (below_step (by repeat (first | (with_reducible first | exact HB.out | apply below_alloc | apply pw_below_drewN | apply below_drew1) | exact HB.out)) hb); clear hb hbox hg))
 go_loopg [4] k (fun kq v4 w' => ∃ (x4_1 : Int) (x254002_1 : Int), v4 = .int .i64 x4_1 ∧ Aside0 (spec_l01From.l0 kq l0 x4_1 l0 0 x254002_1 = some (r1, r2, r3)) ∧ Aside0 (kq ≤ k) ∧ Aside0 (w'.heap[gb253]? = some (.cells #[(.slice A0 l0.length c0), .int .i64 0, .int .i64 x254002_1] 200 (0, 0))) ∧ Aside0 (Below w0.heap.size w0 w') ∧ Aside0 (Below w.heap.size w w'))
 case atStart => exact ⟨(0), (88007), (by first | rfl | (simp; done) | (simp [*]; done)), H', ⟨Nat.le_refl _⟩, ⟨w3g9_⟩, ⟨w2g9_⟩, ⟨w1g9_⟩⟩
 case round =>
  clear H'; obtain ⟨x4_1, x254002_1, rfl, HA, HK1, BK253, HB, HBW⟩ := hrel
  cases gk with
  | zero => exact absurd HA.out (by simp [spec_l01From.l0])
  | succ k1 =>
   have H := HA.out; clear HA
   simp only [spec_l01From.l0] at H
   by_cases c3 : x4_1 < (l0.length : Int)
   ·
    rw [if_pos c3] at H
    have c3b0 : decide (x4_1 < (l0.length : Int)) = true := decide_eq_true c3; clear c3
    by_cases c4 : x4_1 < 64
    ·
     rw [if_pos c4] at H
     have c4b0 : decide (x4_1 < 64) = true := decide_eq_true c4; clear c4
     by_cases c5 : 0 ≤ x4_1
     ·
      rw [if_pos c5] at H
      have c5b0 : decide (0 ≤ x4_1) = true := decide_eq_true c5; clear c5; have H' := ag9_ H; clear H
      try go_wp2
      have n0_ := ag9_ (blk_drew BK253.out); have n1_ := ag9_ (below_drew1 HB.out)
      replace HBW := ag9_ (below_drew1 HBW.out)
      clear BK253 HB; have BK253 := n0_; have HB := n1_; clear n0_ n1_
      have p254 : 0 ≤ (x4_1 : Int) := of_decide_eq_true (by first | (with_reducible assumption) | assumption)
      have q254 : x4_1 < (l0.length : Int) := of_decide_eq_true (by first | (with_reducible assumption) | assumption)
      obtain ⟨ad254, e254, hx254_0⟩ := Kd.at_int HR0.out x4_1 p254 q254; have hw254_0 := hx254_0
      cases e254
      replace hx254_0 := pw_cell_below HB.out hx254_0
      replace p254 := eq_true p254
      replace q254 := eq_true q254
      refine start_ (n := 16) (S := fun w' => w'.cell? ⟨gb253, 0, none⟩ = some (.slice (some ad254) l0.length c0) ∧ w'.cell? ⟨gb253, 1, none⟩ = some (.int .i64 0) ∧ w'.cell? ⟨gb253, 2, none⟩ = some (.int .i64 x254002_1) ∧ w'.cell? (ad254.add (x4_1).toNat) = some (.int .u8 (rd l0 x4_1))) (ds := [15]) #[false, false, false, false, false, false, false, false, false, false, false, false, false, false, false, false] (by kernel_rfl) rfl rfl ⟨(blk_cell BK253.out 0).trans rfl, (blk_cell BK253.out 1).trans rfl, (blk_cell BK253.out 2).trans rfl, ((HB.out.cell (World.block_lt_of_cell? _ _ hw254_0)).trans hw254_0)⟩ (fun hHeld => ?_); refine with_tabW spec_l01From.tab5 spec_l01From.bits5 (fun HT_ HW_ => ?_)
      generalize wr.drew = w6 at BK253 HB HBW hx254_0 hHeld ⊢
      refine pd_ (i := 0) (N := some 18) #[true, false, false, false, false, false, false, false, false, false, false, false, false, false, false, false] rfl rfl ?_
      refine pd_ (i := 1) (N := some 19) #[true, true, false, false, false, false, false, false, false, false, false, false, false, false, false, false] rfl rfl ?_
      refine pd_ (i := 2) (N := some 20) #[true, true, true, false, false, false, false, false, false, false, false, false, false, false, false, false] rfl rfl ?_
      refine pd_ (i := 3) (N := some 21) #[true, true, true, true, false, false, false, false, false, false, false, false, false, false, false, false] rfl rfl ?_
      refine pd_ (i := 6) (N := some 24) #[true, true, true, true, false, false, true, false, false, false, false, false, false, false, false, false] rfl rfl ?_
      refine pd_ (i := 7) (N := some 25) #[true, true, true, true, false, false, true, true, false, false, false, false, false, false, false, false] rfl rfl ?_
      refine pd_ (i := 8) (N := some 26) #[true, true, true, true, false, false, true, true, true, false, false, false, false, false, false, false] rfl rfl ?_
      refine td4_ (i := 4) (N := some 22) #[true, true, true, true, true, false, true, true, true, false, false, false, false, false, false, false] rfl rfl hHeld ?_
      refine pd_ (i := 5) (N := some 23) #[true, true, true, true, true, true, true, true, true, false, false, false, false, false, false, false] rfl rfl ?_
      refine td4_ (i := 9) (N := some 27) #[true, true, true, true, true, true, true, true, true, true, false, false, false, false, false, false] rfl rfl hHeld ?_
      refine pd_ (i := 10) (N := some 28) #[true, true, true, true, true, true, true, true, true, true, true, false, false, false, false, false] rfl rfl ?_
      refine pd_ (i := 11) (N := some 29) #[true, true, true, true, true, true, true, true, true, true, true, true, false, false, false, false] rfl rfl ?_
      refine pd_ (i := 12) (N := some 30) #[true, true, true, true, true, true, true, true, true, true, true, true, true, false, false, false] rfl rfl ?_
      refine pd_ (i := 13) (N := some 31) #[true, true, true, true, true, true, true, true, true, true, true, true, true, true, false, false] rfl rfl ?_
      refine pd_ (i := 14) (N := some 32) #[true, true, true, true, true, true, true, true, true, true, true, true, true, true, true, false] rfl rfl ?_
      refine last_ (i := 15) (N := none) #[true, true, true, true, true, true, true, true, true, true, true, true, true, true, true, true] rfl rfl (one_of HT_.out (by kernel_rfl)) (by decide) (fun K hK => ?_)
      have hs7 : w6.cell? ⟨gb253, 2, none⟩ = some (.int .i64 x254002_1) := (blk_cell BK253.out 2).trans rfl; have hfs7 := blk_frozen BK253.out 2
      refine skip_ (w1 := ?_) (by rfl) rfl ?_ ?_
      rotate_left
      ·
       go_simp
       rfl
      refine hK.out _ _ ?_; clear hK K
      refine done_ (done_of HT_.out (by kernel_rfl)) ?_
      try go_wp2
      go_roundg k1
      case measure => have := HK1.out; omega
      case rel => exact ⟨(wrap64 (x4_1 + 1)), (Int.tmod (wrap64 ((wrap64 (x254002_1 * 71)) + (wrap64 (rd l0 x4_1)))) 2147483647), (by first | rfl | (simp; done) | (simp [*]; done)), H', ⟨(by have := HK1.out; omega)⟩, ⟨(by (with_reducible repeat (first | refine blk_drewN ?_ _ | refine blk_drew ?_ | refine blk_alloc ?_ _)); refine blk_put (cs := #[.slice (some ad254) l0.length c0, .int .i64 0, .int .i64 x254002_1]) ?_ 2 _ rfl; (with_reducible repeat (first | refine blk_drewN ?_ _ | refine blk_drew ?_ | refine blk_alloc ?_ _)); exact BK253.out)⟩, ⟨w2g9_⟩, ⟨w1g9_⟩⟩
     ·
      rw [if_neg c5] at H
      exact absurd H (by simp)
    ·
     rw [if_neg c4] at H
     have c4b0 : decide (x4_1 < 64) = false := decide_eq_false c4; clear c4
     simp only [Option.some.injEq, Prod.mk.injEq] at H
     obtain ⟨rfl, rfl, rfl⟩ := H
     go_wp2
     go_ret
     exact ⟨_, rfl, (show IsS200 w0 _ gb253 l0 0 x254002_1 from ⟨_, _, w3g9_, GE253.out, HR0.out⟩), w2g9_, w1g9_⟩
   ·
    rw [if_neg c3] at H
    have c3b0 : decide (x4_1 < (l0.length : Int)) = false := decide_eq_false c3; clear c3
    simp only [Option.some.injEq, Prod.mk.injEq] at H
    obtain ⟨rfl, rfl, rfl⟩ := H
    go_wp2
    go_ret
    exact ⟨_, rfl, (show IsS200 w0 _ gb253 l0 0 x254002_1 from ⟨_, _, w3g9_, GE253.out, HR0.out⟩), w2g9_, w1g9_⟩
end Go.Proofs.YtoiioapkebglgaaDoor.PG
end
section
namespace Go.Proofs.YtoiioapkebglgaaDoor.PG
open Go.RowKit Go.Proofs.YtoiioapkebglgaaDoorW.PrintWords Go.Proofs.YtoiioapkebglgaaDoorW.PrintLast Go.Proofs.YtoiioapkebglgaaDoorW.PrintMore
attribute [local go_sem] max2_int min2_int max_two min_two max_three min_three max_four min_four   -- for this text's walks alone
set_option linter.unusedVariables false
set_option linter.unusedSimpArgs false
def spec_l01Next.f (s0_0 : List Int) (s0_1 : Int) (s0_2 : Int) (a1 : Int) : Option (Int × Int × Int) := if a1 ≤ 1 then (some (0, s0_1, s0_2)) else (if s0_1 < (s0_0.length : Int) then (if 0 ≤ s0_1 then (if a1 ≤ 256 then (if (Int.tmod (wrap64 (s0_1 + 1)) 2) = 0 then (if 0 ≤ (wrap64 ((wrap64 (s0_1 + 1)) - 1)) then (if (wrap64 ((wrap64 (s0_1 + 1)) - 1)) < (s0_0.length : Int) then (if a1 = 0 then (none) else (some (Int.tmod (wrap64 (rd s0_0 (wrap64 ((wrap64 (s0_1 + 1)) - 1)))) a1, wrap64 (s0_1 + 1), Int.tmod (wrap64 ((wrap64 (s0_2 * 48271)) + 61)) 2147483647))) else (none)) else (none)) else (if a1 = 0 then (none) else (some (Int.tmod (wrap64 ((wrap64 (Int.tdiv (Int.tmod (wrap64 ((wrap64 (s0_2 * 48271)) + 61)) 2147483647) 31)) + (wrap64 (rd s0_0 s0_1)))) a1, wrap64 (s0_1 + 1), Int.tmod (wrap64 ((wrap64 (s0_2 * 48271)) + 61)) 2147483647)))) else (if a1 = 0 then (none) else (some (Int.tmod (wrap64 ((wrap64 (Int.tdiv (Int.tmod (wrap64 ((wrap64 (s0_2 * 48271)) + 61)) 2147483647) 31)) + (wrap64 (rd s0_0 s0_1)))) a1, wrap64 (s0_1 + 1), Int.tmod (wrap64 ((wrap64 (s0_2 * 48271)) + 61)) 2147483647)))) else (none)) else (if a1 = 0 then (none) else (some (Int.tmod (wrap64 (Int.tdiv (Int.tmod (wrap64 ((wrap64 (s0_2 * 48271)) + 61)) 2147483647) 31)) a1, s0_1, Int.tmod (wrap64 ((wrap64 (s0_2 * 48271)) + 61)) 2147483647))))
theorem ag11_ {p : Prop} (h : p) : Aside0 p := ⟨h⟩
theorem w1g11_ {p : Prop} (h : p := by repeat (first | (with_reducible first | exact HI0.out | apply IsS200.alloc | apply IsS200.drewN | apply IsS200.drew | apply IsS200.set_1 | apply IsS200.set_2) | exact HI0.out)) : p := h
theorem w2g11_ {p : Prop} (h : p := by repeat (first | (with_reducible first | exact HB.out | apply below_alloc | apply pw_below_drewN | apply below_drew1 | refine below_set ?_ (IsS200.ge HI0.out)) | exact HB.out)) : p := h
theorem w3g11_ {p : Prop} (h : p := by repeat (first | (with_reducible first | exact HK.out | apply KeepBut.set_ | apply keep_drewN | apply keep_drew | apply keep_alloc) | exact HK.out)) : p := h
theorem w4g11_ {p : Prop} (h : p := by first | (with_reducible assumption) | assumption) : p := h
theorem w5g11_ {p : Prop} (h : p := by first | rfl | (simp [errW_none, errW_some] <;> rfl) | (simp [*, errW_none, errW_some] <;> rfl)) : p := h
theorem w6g11_ {p : Prop} (h : p := by first | (rw [add_block]; exact hn269_0) | (show (Addr.add _ _).block ≠ _; rw [add_block]; exact hn269_0) | exact hn269_0) : p := h
theorem w7g11_ {p : Prop} (h : p := by have := World.block_lt_of_cell? _ _ hx269_0; first | rwa [add_block] at this | exact this) : p := h
set_option maxHeartbeats 8000000 in
set_option maxRecDepth 100000 in
theorem spec_l01Next.calls (g : Nat) (s0_0 : List Int) (s0_1 : Int) (s0_2 : Int) (a1 : Int) (r1 : Int) (r2 : Int) (r3 : Int) (w0 w : World) (hI : IsS200 w0 w g s0_0 s0_1 s0_2) (hB : Below w0.heap.size w0 w) (h : spec_l01Next.f s0_0 s0_1 s0_2 a1 = some (r1, r2, r3)) :
 Calls Tryd.prog 102 #[.pointer (some ⟨g, 0, none⟩), .int .i64 a1] w fun e w' => e = .returned (.int .i64 r1) ∧ IsS200 w0 w' g s0_0 r2 r3 ∧ Below w0.heap.size w0 w' ∧ KeepBut w w' g none := by
 have HI0 := ag11_ hI; have HK := ag11_ (KeepBut.refl w g none); have HL := ag11_ hB.size; clear hI; have HW0 := ag11_ hB.size; have HB := ag11_ hB; clear hB; have H : (if a1 ≤ 1 then (some (0, s0_1, s0_2)) else (if s0_1 < (s0_0.length : Int) then (if 0 ≤ s0_1 then (if a1 ≤ 256 then (if (Int.tmod (wrap64 (s0_1 + 1)) 2) = 0 then (if 0 ≤ (wrap64 ((wrap64 (s0_1 + 1)) - 1)) then (if (wrap64 ((wrap64 (s0_1 + 1)) - 1)) < (s0_0.length : Int) then (if a1 = 0 then (none) else (some (Int.tmod (wrap64 (rd s0_0 (wrap64 ((wrap64 (s0_1 + 1)) - 1)))) a1, wrap64 (s0_1 + 1), Int.tmod (wrap64 ((wrap64 (s0_2 * 48271)) + 61)) 2147483647))) else (none)) else (none)) else (if a1 = 0 then (none) else (some (Int.tmod (wrap64 ((wrap64 (Int.tdiv (Int.tmod (wrap64 ((wrap64 (s0_2 * 48271)) + 61)) 2147483647) 31)) + (wrap64 (rd s0_0 s0_1)))) a1, wrap64 (s0_1 + 1), Int.tmod (wrap64 ((wrap64 (s0_2 * 48271)) + 61)) 2147483647)))) else (if a1 = 0 then (none) else (some (Int.tmod (wrap64 ((wrap64 (Int.tdiv (Int.tmod (wrap64 ((wrap64 (s0_2 * 48271)) + 61)) 2147483647) 31)) + (wrap64 (rd s0_0 s0_1)))) a1, wrap64 (s0_1 + 1), Int.tmod (wrap64 ((wrap64 (s0_2 * 48271)) + 61)) 2147483647)))) else (none)) else (if a1 = 0 then (none) else (some (Int.tmod (wrap64 (Int.tdiv (Int.tmod (wrap64 ((wrap64 (s0_2 * 48271)) + 61)) 2147483647) 31)) a1, s0_1, Int.tmod (wrap64 ((wrap64 (s0_2 * 48271)) + 61)) 2147483647))))) = some (r1, r2, r3) := h; clear h
 by_cases c3 : a1 ≤ 1
 ·
  rw [if_pos c3] at H
  have c3b0 : decide (a1 ≤ 1) = true := decide_eq_true c3; clear c3
  simp only [Option.some.injEq, Prod.mk.injEq] at H
  obtain ⟨rfl, rfl, rfl⟩ := H
  go_enter Tryd.func102, Tryd.ntmps102
  go_wp2
  repeat (go_quiet (fail); try go_wp2)
  go_ret
  exact ⟨w5g11_, w1g11_, w2g11_, w3g11_⟩
 ·
  rw [if_neg c3] at H
  have c3b0 : decide (a1 ≤ 1) = false := decide_eq_false c3; clear c3
  by_cases c4 : s0_1 < (s0_0.length : Int)
  ·
   rw [if_pos c4] at H
   have c4b0 : decide (s0_1 < (s0_0.length : Int)) = true := decide_eq_true c4; clear c4
   by_cases c5 : 0 ≤ s0_1
   ·
    rw [if_pos c5] at H
    have c5b0 : decide (0 ≤ s0_1) = true := decide_eq_true c5; clear c5
    by_cases c6 : a1 ≤ 256
    ·
     rw [if_pos c6] at H
     have c6b0 : decide (a1 ≤ 256) = true := decide_eq_true c6; clear c6
     by_cases c7 : (Int.tmod (wrap64 (s0_1 + 1)) 2) = 0
     ·
      rw [if_pos c7] at H
      have c7b0 : ((Int.tmod (wrap64 (s0_1 + 1)) 2) == 0) = true := beq_iff_eq.mpr c7; have c7b1 : ((Int.tmod (wrap64 (s0_1 + 1)) 2) != 0) = false := bne_eq_false_iff_eq.mpr c7; clear c7; obtain ⟨ji8, hji8⟩ : ∃ j_ : Int, (wrap64 ((wrap64 (s0_1 + 1)) - 1)) = j_ := ⟨_, rfl⟩
      replace H : (if 0 ≤ (ji8) then (if (ji8) < (s0_0.length : Int) then (if a1 = 0 then (none) else (some (Int.tmod (wrap64 (rd s0_0 (ji8))) a1, wrap64 (s0_1 + 1), Int.tmod (wrap64 ((wrap64 (s0_2 * 48271)) + 61)) 2147483647))) else (none)) else (none)) = some (r1, r2, r3) := by first | (rw [hji8] at H; exact H) | (simp only [hji8] at H ⊢; exact H)
      have hji8w : (IntKind.i64.wrap ((wrap64 (s0_1 + 1)) - 1)) = ji8 := (i64_w _).trans hji8
      by_cases c9 : 0 ≤ (ji8)
      ·
       rw [if_pos c9] at H
       have c9b0 : decide (0 ≤ (ji8)) = true := decide_eq_true c9; clear c9
       by_cases c10 : (ji8) < (s0_0.length : Int)
       ·
        rw [if_pos c10] at H
        have c10b0 : decide ((ji8) < (s0_0.length : Int)) = true := decide_eq_true c10; clear c10
        by_cases c11 : a1 = 0
        ·
         rw [if_pos c11] at H
         exact absurd H (by simp)
        ·
         rw [if_neg c11] at H
         have c11b0 : (a1 == 0) = false := beq_eq_false_iff_ne.mpr c11; have c11b1 : (a1 != 0) = true := bne_iff_ne.mpr c11
         simp only [Option.some.injEq, Prod.mk.injEq] at H
         obtain ⟨rfl, rfl, rfl⟩ := H; obtain ⟨ASz12_0, cSz12_0, HGz12, hgz12, HSz12_0⟩ := HI0.out; have hcz12_0 := cellS200_0 HGz12; have hcz12_1 := cellS200_1 HGz12; have hcz12_2 := cellS200_2 HGz12; have hfz12_1 := blk_frozen HGz12 1; have hfz12_2 := blk_frozen HGz12 2; clear HGz12 hgz12
         have p269 : 0 ≤ (s0_1 : Int) := of_decide_eq_true w4g11_
         have q269 : s0_1 < (s0_0.length : Int) := of_decide_eq_true w4g11_
         obtain ⟨ad269, e269, hx269_0⟩ := Kd.at_int HSz12_0 s0_1 p269 q269
         cases e269
         have hn269_0 : ad269.block ≠ g := Nat.ne_of_lt (Nat.lt_of_lt_of_le w7g11_ (IsS200.ge HI0.out))
         replace hx269_0 := pw_cell_below HB.out hx269_0
         replace hx269_0 := (cell_far (p := ⟨g, 2, none⟩) w6g11_ (.int .i64 (Int.tmod (wrap64 ((wrap64 (s0_2 * 48271)) + 61)) 2147483647))).trans hx269_0
         (try have hy269_0 := fun (n_ : Nat) => (show (((w.drewN n_).setCell ⟨g, 2, none⟩ (.int .i64 (Int.tmod (wrap64 ((wrap64 (s0_2 * 48271)) + 61)) 2147483647)))).cell? _ = some _ from hx269_0))
         clear hn269_0
         replace p269 := eq_true p269
         replace q269 := eq_true q269
         have p270 : 0 ≤ ((ji8) : Int) := of_decide_eq_true w4g11_
         have q270 : (ji8) < (s0_0.length : Int) := of_decide_eq_true w4g11_
         obtain ⟨ad270, e270, hx270_0⟩ := Kd.at_int HSz12_0 (ji8) p270 q270; obtain rfl : ad269 = ad270 := (by injection e270); have hn270_0 : ad269.block ≠ g := Nat.ne_of_lt (Nat.lt_of_lt_of_le (by have := World.block_lt_of_cell? _ _ hx270_0; first | rwa [add_block] at this | exact this) (IsS200.ge HI0.out)); have hn270_1 : ad269.block ≠ g := Nat.ne_of_lt (Nat.lt_of_lt_of_le (by have := World.block_lt_of_cell? _ _ hx270_0; first | rwa [add_block] at this | exact this) (IsS200.ge HI0.out))
         replace hx270_0 := pw_cell_below HB.out hx270_0
         replace hx270_0 := (cell_far (p := ⟨g, 2, none⟩) (by first | (rw [add_block]; exact hn270_0) | (show (Addr.add _ _).block ≠ _; rw [add_block]; exact hn270_0) | exact hn270_0) (.int .i64 (Int.tmod (wrap64 ((wrap64 (s0_2 * 48271)) + 61)) 2147483647))).trans hx270_0
         replace hx270_0 := (cell_far (p := ⟨g, 1, none⟩) (by first | (rw [add_block]; exact hn270_1) | (show (Addr.add _ _).block ≠ _; rw [add_block]; exact hn270_1) | exact hn270_1) (.int .i64 (wrap64 (s0_1 + 1)))).trans hx270_0
         (try have hy270_0 := fun (n_ : Nat) => (show ((((w.drewN n_).setCell ⟨g, 2, none⟩ (.int .i64 (Int.tmod (wrap64 ((wrap64 (s0_2 * 48271)) + 61)) 2147483647))).setCell ⟨g, 1, none⟩ (.int .i64 (wrap64 (s0_1 + 1))))).cell? _ = some _ from hx270_0))
         (try have hz270_0_1 := fun (n_ : Nat) => (show ((((w.setCell ⟨g, 2, none⟩ (.int .i64 (Int.tmod (wrap64 ((wrap64 (s0_2 * 48271)) + 61)) 2147483647))).drewN n_).setCell ⟨g, 1, none⟩ (.int .i64 (wrap64 (s0_1 + 1))))).cell? _ = some _ from hx270_0))
         (try have hz270_0_1b := fun (m_ n_ : Nat) => (show (((((w.drewN m_).setCell ⟨g, 2, none⟩ (.int .i64 (Int.tmod (wrap64 ((wrap64 (s0_2 * 48271)) + 61)) 2147483647))).drewN n_).setCell ⟨g, 1, none⟩ (.int .i64 (wrap64 (s0_1 + 1))))).cell? _ = some _ from hx270_0))
         clear hn270_0 hn270_1
         replace p270 := eq_true p270
         replace q270 := eq_true q270
         go_enter Tryd.func102, Tryd.ntmps102
         go_wp2
         repeat (go_quiet (fail); try go_wp2)
         go_ret
         exact ⟨(by first | rfl | (simp [errW_none, errW_some] <;> rfl) | (simp only [← hji8]; first | rfl | (simp [errW_none, errW_some] <;> rfl)) | (simp [*, errW_none, errW_some] <;> rfl)), w1g11_, w2g11_, w3g11_⟩
       ·
        rw [if_neg c10] at H
        exact absurd H (by simp)
      ·
       rw [if_neg c9] at H
       exact absurd H (by simp)
     ·
      rw [if_neg c7] at H
      have c7b0 : ((Int.tmod (wrap64 (s0_1 + 1)) 2) == 0) = false := beq_eq_false_iff_ne.mpr c7; have c7b1 : ((Int.tmod (wrap64 (s0_1 + 1)) 2) != 0) = true := bne_iff_ne.mpr c7
      by_cases c13 : a1 = 0
      ·
       rw [if_pos c13] at H
       exact absurd H (by simp)
      ·
       rw [if_neg c13] at H
       have c13b0 : (a1 == 0) = false := beq_eq_false_iff_ne.mpr c13; have c13b1 : (a1 != 0) = true := bne_iff_ne.mpr c13
       simp only [Option.some.injEq, Prod.mk.injEq] at H
       obtain ⟨rfl, rfl, rfl⟩ := H; obtain ⟨ASz14_0, cSz14_0, HGz14, hgz14, HSz14_0⟩ := HI0.out; have hcz14_0 := cellS200_0 HGz14; have hcz14_1 := cellS200_1 HGz14; have hcz14_2 := cellS200_2 HGz14; have hfz14_1 := blk_frozen HGz14 1; have hfz14_2 := blk_frozen HGz14 2; clear HGz14 hgz14
       have p269 : 0 ≤ (s0_1 : Int) := of_decide_eq_true w4g11_
       have q269 : s0_1 < (s0_0.length : Int) := of_decide_eq_true w4g11_
       obtain ⟨ad269, e269, hx269_0⟩ := Kd.at_int HSz14_0 s0_1 p269 q269
       cases e269
       have hn269_0 : ad269.block ≠ g := Nat.ne_of_lt (Nat.lt_of_lt_of_le w7g11_ (IsS200.ge HI0.out))
       replace hx269_0 := pw_cell_below HB.out hx269_0
       replace hx269_0 := (cell_far (p := ⟨g, 2, none⟩) w6g11_ (.int .i64 (Int.tmod (wrap64 ((wrap64 (s0_2 * 48271)) + 61)) 2147483647))).trans hx269_0
       (try have hy269_0 := fun (n_ : Nat) => (show (((w.drewN n_).setCell ⟨g, 2, none⟩ (.int .i64 (Int.tmod (wrap64 ((wrap64 (s0_2 * 48271)) + 61)) 2147483647)))).cell? _ = some _ from hx269_0))
       clear hn269_0
       replace p269 := eq_true p269
       replace q269 := eq_true q269
       go_enter Tryd.func102, Tryd.ntmps102
       go_wp2
       repeat (go_quiet (fail); try go_wp2)
       go_ret
       exact ⟨w5g11_, w1g11_, w2g11_, w3g11_⟩
    ·
     rw [if_neg c6] at H
     have c6b0 : decide (a1 ≤ 256) = false := decide_eq_false c6; clear c6
     by_cases c15 : a1 = 0
     ·
      rw [if_pos c15] at H
      exact absurd H (by simp)
     ·
      rw [if_neg c15] at H
      have c15b0 : (a1 == 0) = false := beq_eq_false_iff_ne.mpr c15; have c15b1 : (a1 != 0) = true := bne_iff_ne.mpr c15
      simp only [Option.some.injEq, Prod.mk.injEq] at H
      obtain ⟨rfl, rfl, rfl⟩ := H; obtain ⟨ASz16_0, cSz16_0, HGz16, hgz16, HSz16_0⟩ := HI0.out; have hcz16_0 := cellS200_0 HGz16; have hcz16_1 := cellS200_1 HGz16; have hcz16_2 := cellS200_2 HGz16; have hfz16_1 := blk_frozen HGz16 1; have hfz16_2 := blk_frozen HGz16 2; clear HGz16 hgz16
      have p269 : 0 ≤ (s0_1 : Int) := of_decide_eq_true w4g11_
      have q269 : s0_1 < (s0_0.length : Int) := of_decide_eq_true w4g11_
      obtain ⟨ad269, e269, hx269_0⟩ := Kd.at_int HSz16_0 s0_1 p269 q269
      cases e269
      have hn269_0 : ad269.block ≠ g := Nat.ne_of_lt (Nat.lt_of_lt_of_le w7g11_ (IsS200.ge HI0.out))
      replace hx269_0 := pw_cell_below HB.out hx269_0
      replace hx269_0 := (cell_far (p := ⟨g, 2, none⟩) w6g11_ (.int .i64 (Int.tmod (wrap64 ((wrap64 (s0_2 * 48271)) + 61)) 2147483647))).trans hx269_0
      (try have hy269_0 := fun (n_ : Nat) => (show (((w.drewN n_).setCell ⟨g, 2, none⟩ (.int .i64 (Int.tmod (wrap64 ((wrap64 (s0_2 * 48271)) + 61)) 2147483647)))).cell? _ = some _ from hx269_0))
      clear hn269_0
      replace p269 := eq_true p269
      replace q269 := eq_true q269
      go_enter Tryd.func102, Tryd.ntmps102
      go_wp2
      repeat (go_quiet (fail); try go_wp2)
      go_ret
      exact ⟨w5g11_, w1g11_, w2g11_, w3g11_⟩
   ·
    rw [if_neg c5] at H
    exact absurd H (by simp)
  ·
   rw [if_neg c4] at H
   have c4b0 : decide (s0_1 < (s0_0.length : Int)) = false := decide_eq_false c4; clear c4
   by_cases c17 : a1 = 0
   ·
    rw [if_pos c17] at H
    exact absurd H (by simp)
   ·
    rw [if_neg c17] at H
    have c17b0 : (a1 == 0) = false := beq_eq_false_iff_ne.mpr c17; have c17b1 : (a1 != 0) = true := bne_iff_ne.mpr c17
    simp only [Option.some.injEq, Prod.mk.injEq] at H
    obtain ⟨rfl, rfl, rfl⟩ := H; obtain ⟨ASz18_0, cSz18_0, HGz18, hgz18, HSz18_0⟩ := HI0.out; have hcz18_0 := cellS200_0 HGz18; have hcz18_1 := cellS200_1 HGz18; have hcz18_2 := cellS200_2 HGz18; have hfz18_1 := blk_frozen HGz18 1; have hfz18_2 := blk_frozen HGz18 2; clear HGz18 hgz18
    go_enter Tryd.func102, Tryd.ntmps102
    go_wp2
    repeat (go_quiet (fail); try go_wp2)
    go_ret
    exact ⟨w5g11_, w1g11_, w2g11_, w3g11_⟩
end Go.Proofs.YtoiioapkebglgaaDoor.PG
end
section
namespace Go.Proofs.YtoiioapkebglgaaDoor.PG
open Go.RowKit Go.Proofs.YtoiioapkebglgaaDoorW.PrintWords Go.Proofs.YtoiioapkebglgaaDoorW.PrintLast Go.Proofs.YtoiioapkebglgaaDoorW.PrintMore
attribute [local go_sem] max2_int min2_int max_two min_two max_three min_three max_four min_four   -- for this text's walks alone
set_option linter.unusedVariables false
set_option linter.unusedSimpArgs false
def spec_l01Pick.f (s0_0 : List Int) (s0_1 : Int) (s0_2 : Int) (l1 : List Int) : Option (Int × Int × Int) := (spec_l01Next.f s0_0 s0_1 s0_2 (l1.length : Int)).bind fun bt271 => (if 0 ≤ bt271.1 then (if bt271.1 < (l1.length : Int) then (some (rd l1 bt271.1, bt271.2.1, bt271.2.2)) else (none)) else (none))
set_option maxHeartbeats 8000000 in
set_option maxRecDepth 100000 in
theorem spec_l01Pick.calls (g : Nat) (s0_0 : List Int) (s0_1 : Int) (s0_2 : Int) (A1 : Option Addr) (c1 : Nat) (l1 : List Int) (r1 : Int) (r2 : Int) (r3 : Int) (w0 w : World) (hI : IsS200 w0 w g s0_0 s0_1 s0_2) (hB : Below w0.heap.size w0 w) (hr1 : Kd.C (Kd.int .i64) w A1 l1.length l1) (hc1 : l1.length ≤ c1) (hf1 : ∀ ad, A1 = some ad → 0 < l1.length → ad.block ≠ g) (h : spec_l01Pick.f s0_0 s0_1 s0_2 l1 = some (r1, r2, r3)) :
    Calls Tryd.prog 101 #[.pointer (some ⟨g, 0, none⟩), .slice A1 l1.length c1] w fun e w' => e = .returned (.int .i64 r1) ∧ IsS200 w0 w' g s0_0 r2 r3 ∧ Below w0.heap.size w0 w' ∧ KeepBut w w' g none := by
  have HR1 := Aside0.mk hr1
  have HC1 := Aside0.mk hc1
  clear hr1 hc1
  have HI0 := Aside0.mk hI
  have HK := Aside0.mk (KeepBut.refl w g none)
  have HL := Aside0.mk hB.size
  clear hI
  have HW0 := Aside0.mk hB.size
  have HB := Aside0.mk hB
  clear hB
  have H : ((spec_l01Next.f s0_0 s0_1 s0_2 (l1.length : Int)).bind fun bt271 => (if 0 ≤ bt271.1 then (if bt271.1 < (l1.length : Int) then (some (rd l1 bt271.1, bt271.2.1, bt271.2.2)) else (none)) else (none))) = some (r1, r2, r3) := h
  clear h
  replace H := Option.bind_eq_some_iff.mp H
  obtain ⟨⟨t271, t272, t273⟩, A30, H⟩ := H
  replace H : (if 0 ≤ t271 then (if t271 < (l1.length : Int) then (some (rd l1 t271, t272, t273)) else (none)) else (none)) = some (r1, r2, r3) := H
  have A3 := Aside0.mk A30
  clear A30
  by_cases c4 : 0 ≤ t271
  · rw [if_pos c4] at H
    have c4b0 : decide (0 ≤ t271) = true := decide_eq_true c4
    clear c4
    by_cases c5 : t271 < (l1.length : Int)
    · rw [if_pos c5] at H
      have c5b0 : decide (t271 < (l1.length : Int)) = true := decide_eq_true c5
      clear c5
      simp only [Option.some.injEq, Prod.mk.injEq] at H
      obtain ⟨rfl, rfl, rfl⟩ := H
      go_enter Tryd.func101, Tryd.ntmps101
      go_wp2_with (first | ((with_reducible refine gate_callee (f := 102) rfl ?_); refine goesL_ (some 9) rfl rfl Tryd.func102 (by kernel_rfl) rfl #[.pointer (some ⟨g, 0, none⟩), .int .i64 (l1.length : Int)] rfl (by (try simp only [List.map_toArray, List.map_cons, List.map_nil]); first | done | rfl | (simp only [List.length_drop, List.length_take]; rfl)) ?_; (with_reducible refine (spec_l01Next.calls g s0_0 s0_1 s0_2 (l1.length : Int) t271 t272 t273 w0 _ ?side1 ?side2 A3.out).mono ?_); (case side1 => repeat (first | (with_reducible first | exact HI0.out | apply IsS200.alloc | apply IsS200.drewN | apply IsS200.drew | apply IsS200.set_1 | apply IsS200.set_2) | exact HI0.out)); (case side2 => repeat (first | (with_reducible first | exact HB.out | apply below_alloc | apply pw_below_drewN | apply below_drew1 | refine below_set ?_ (IsS200.ge HI0.out)) | exact HB.out)); rintro e w6 ⟨rfl, hi, hb, hk⟩; refine ⟨_, rfl, ?_⟩; have n0_ := Aside0.mk (KeepBut.trans (by repeat (first | (with_reducible first | exact HK.out | apply KeepBut.set_ | apply keep_drewN | apply keep_drew | apply keep_alloc) | exact HK.out)) hk (.inl rfl)); have n1_ := Aside0.mk (hb); have n2_ := Aside0.mk (hi); clear HK; clear HB; clear HI0; have HK := n0_; have HB := n1_; have HI0 := n2_; clear n0_ n1_ n2_; (try clear hb); (try clear hb2); (try clear hk); (try clear hi); have p274 : 0 ≤ (t271 : Int) := of_decide_eq_true (by first | (with_reducible assumption) | assumption); have q274 : t271 < (l1.length : Int) := of_decide_eq_true (by first | (with_reducible assumption) | assumption); obtain ⟨ad274, e274, hx274_0⟩ := Kd.at_int HR1.out t271 p274 q274; cases e274; replace hx274_0 := keep_cell HK.out hx274_0 (by first | (rw [add_block]; exact hf1 _ rfl (by omega)) | exact hf1 _ rfl (by omega) | exact hf1 ad274 rfl (by omega)); replace p274 := eq_true p274; replace q274 := eq_true q274))
      go_ret
      exact ⟨(by first | rfl | (simp [errW_none, errW_some] <;> rfl) | (simp [*, errW_none, errW_some] <;> rfl)), (by repeat (first | (with_reducible first | exact HI0.out | apply IsS200.alloc | apply IsS200.drewN | apply IsS200.drew | apply IsS200.set_1 | apply IsS200.set_2) | exact HI0.out)), (by repeat (first | (with_reducible first | exact HB.out | apply below_alloc | apply pw_below_drewN | apply below_drew1 | refine below_set ?_ (IsS200.ge HI0.out)) | exact HB.out)), (by repeat (first | (with_reducible first | exact HK.out | apply KeepBut.set_ | apply keep_drewN | apply keep_drew | apply keep_alloc) | exact HK.out))⟩
    · rw [if_neg c5] at H
      exact absurd H (by simp)
  · rw [if_neg c4] at H
    exact absurd H (by simp)
end Go.Proofs.YtoiioapkebglgaaDoor.PG
end
section
namespace Go.Proofs.YtoiioapkebglgaaDoor.PG
open Go.RowKit Go.Proofs.YtoiioapkebglgaaDoorW.PrintWords Go.Proofs.YtoiioapkebglgaaDoorW.PrintLast Go.Proofs.YtoiioapkebglgaaDoorW.PrintMore
attribute [local go_sem] max2_int min2_int max_two min_two max_three min_three max_four min_four   -- for this text's walks alone
set_option linter.unusedVariables false
set_option linter.unusedSimpArgs false
def spec_l29DrawEntry.j0 : Nat → Bool → List Int → Int → Int → Option (Int × Int × Int × Int)
  | 0, _, _, _, _ => none
  | k + 1, x28, x1000, x1001, x1002 => if x28 = true then ((spec_l01Next.f x1000 x1001 x1002 5).bind fun bt295 => (some (3, bt295.1, bt295.2.1, bt295.2.2))) else ((spec_l01Next.f x1000 x1001 x1002 60).bind fun bt298 => (some (2, bt298.1, bt298.2.1, bt298.2.2)))
def spec_l29DrawEntry.f (k : Nat) (s0_0 : List Int) (s0_1 : Int) (s0_2 : Int) (a1_0 : Int) (a1_1 : Int) (a1_2 : Int) (a1_3 : Int) : Option (Int × Int × Int × Int) := (spec_l01Next.f s0_0 s0_1 s0_2 20).bind fun bt277 => (if bt277.1 = 0 then ((spec_l01Next.f s0_0 bt277.2.1 bt277.2.2 6).bind fun bt280 => ((spec_l01Pick.f s0_0 bt280.2.1 bt280.2.2 (([(-1), 0, 12, 1000000000, 1000000001, 1000000] : List Int))).bind fun bt286 => (some (bt280.1, bt286.1, bt286.2.1, bt286.2.2)))) else (if a1_0 = 0 then ((spec_l01Next.f s0_0 bt277.2.1 bt277.2.2 40).bind fun bt289 => (some (1, wrap64 (1 + bt289.1), bt289.2.1, bt289.2.2))) else ((spec_l01Next.f s0_0 bt277.2.1 bt277.2.2 6).bind fun bt292 => (if bt292.1 = 0 then (some (4, a1_1, bt292.2.1, bt292.2.2)) else (if bt292.1 = 1 then (spec_l29DrawEntry.j0 k (bt292.1 == 1) s0_0 bt292.2.1 bt292.2.2) else (spec_l29DrawEntry.j0 k (bt292.1 == 2) s0_0 bt292.2.1 bt292.2.2))))))
theorem ag12_ {p : Prop} (h : p) : Aside0 p := ⟨h⟩
theorem w1g12_ {p : Prop} (h : p := by repeat (first | (with_reducible first | exact HI0.out | apply IsS200.alloc | apply IsS200.drewN | apply IsS200.drew | apply IsS200.set_1 | apply IsS200.set_2 | refine IsS200.far ?_ NB0_275.out _ | refine IsS200.far ?_ NB0_276.out _) | exact HI0.out)) : p := h
theorem w2g12_ {p : Prop} (h : p := by repeat (first | (with_reducible first | exact HB.out | apply below_alloc | apply pw_below_drewN | apply below_drew1 | refine below_set ?_ (IsS200.ge HI0.out) | refine below_set ?_ GE275.out | refine below_set ?_ GE276.out) | exact HB.out)) : p := h
theorem w3g12_ {p : Prop} (h : p := by repeat (first | (with_reducible first | exact HK.out | apply KeepBut.set_ | apply keep_drewN | apply keep_drew | apply keep_alloc | refine keep_far ?_ GW275.out _ | refine keep_far ?_ GW276.out _) | exact HK.out)) : p := h
theorem w4g12_ {p : Prop} (h : p := by (with_reducible repeat (first | refine blk_drewN ?_ _ | refine blk_drew ?_ | refine blk_alloc ?_ _)); exact BK275.out) : p := h
theorem w5g12_ {p : Prop} (h : p := by repeat (first | (with_reducible first | exact HI0.out | apply IsS200.alloc | apply IsS200.drewN | apply IsS200.drew | apply IsS200.set_1 | apply IsS200.set_2 | refine IsS200.far ?_ NB0_275.out _) | exact HI0.out)) : p := h
theorem w6g12_ {p : Prop} (h : p := by repeat (first | (with_reducible first | exact HK.out | apply KeepBut.set_ | apply keep_drewN | apply keep_drew | apply keep_alloc | refine keep_far ?_ GW275.out _) | exact HK.out)) : p := h
theorem w7g12_ {p : Prop} (h : p := by repeat (first | (with_reducible first | exact HI0.out | apply IsS200.alloc | apply IsS200.drewN | apply IsS200.drew | apply IsS200.set_1 | apply IsS200.set_2) | exact HI0.out)) : p := h
theorem w8g12_ {p : Prop} (h : p := by repeat (first | (with_reducible first | exact HK.out | apply KeepBut.set_ | apply keep_drewN | apply keep_drew | apply keep_alloc) | exact HK.out)) : p := h
theorem w9g12_ {p : Prop} (h : p := by (with_reducible repeat (first | refine blk_drewN ?_ _ | refine blk_drew ?_ | refine blk_alloc ?_ _)); exact BK276.out) : p := h
theorem w10g12_ {p : Prop} (h : p := by (try simp only [List.map_toArray, List.map_cons, List.map_nil]); first | done | rfl | (simp only [List.length_drop, List.length_take]; rfl)) : p := h
theorem w11g12_ {p : Prop} (h : p := by repeat (first | (with_reducible first | exact HB.out | apply below_alloc | apply pw_below_drewN | apply below_drew1 | refine below_set ?_ (IsS200.ge HI0.out) | refine below_set ?_ GE275.out) | exact HB.out)) : p := h
theorem w12g12_ {p : Prop} (h : p := by repeat (first | (with_reducible first | exact HB.out | apply below_alloc | apply pw_below_drewN | apply below_drew1 | refine below_set ?_ (IsS200.ge HI0.out)) | exact HB.out)) : p := h
theorem w13g12_ {p : Prop} (h : p := by first | rfl | (simp [errW_none, errW_some] <;> rfl) | (simp [*, errW_none, errW_some] <;> rfl)) : p := h
set_option maxHeartbeats 8000000 in
set_option maxRecDepth 100000 in
theorem spec_l29DrawEntry.calls (k : Nat) (g : Nat) (s0_0 : List Int) (s0_1 : Int) (s0_2 : Int) (a1_0 : Int) (a1_1 : Int) (a1_2 : Int) (a1_3 : Int) (r1 : Int) (r2 : Int) (r3 : Int) (r4 : Int) (w0 w : World) (hI : IsS200 w0 w g s0_0 s0_1 s0_2) (hB : Below w0.heap.size w0 w) (h : spec_l29DrawEntry.f k s0_0 s0_1 s0_2 a1_0 a1_1 a1_2 a1_3 = some (r1, r2, r3, r4)) :
 Calls Tryd.prog 104 #[.pointer (some ⟨g, 0, none⟩), .agg #[.int .i64 a1_0, .int .i64 a1_1, .int .i64 a1_2, .int .i64 a1_3]] w fun e w' => e = .returned (.agg #[.int .i64 r1, .int .i64 r2]) ∧ IsS200 w0 w' g s0_0 r3 r4 ∧ Below w0.heap.size w0 w' ∧ KeepBut w w' g none := by
 have hu68 := Tryd.underlying68; have hu70 := Tryd.underlying70; have HI0 := ag12_ hI; have HK := ag12_ (KeepBut.refl w g none); have HL := ag12_ hB.size; clear hI; have HW0 := ag12_ hB.size; have HB := ag12_ hB; clear hB; have H : ((spec_l01Next.f s0_0 s0_1 s0_2 20).bind fun bt277 => (if bt277.1 = 0 then ((spec_l01Next.f s0_0 bt277.2.1 bt277.2.2 6).bind fun bt280 => ((spec_l01Pick.f s0_0 bt280.2.1 bt280.2.2 (([(-1), 0, 12, 1000000000, 1000000001, 1000000] : List Int))).bind fun bt286 => (some (bt280.1, bt286.1, bt286.2.1, bt286.2.2)))) else (if a1_0 = 0 then ((spec_l01Next.f s0_0 bt277.2.1 bt277.2.2 40).bind fun bt289 => (some (1, wrap64 (1 + bt289.1), bt289.2.1, bt289.2.2))) else ((spec_l01Next.f s0_0 bt277.2.1 bt277.2.2 6).bind fun bt292 => (if bt292.1 = 0 then (some (4, a1_1, bt292.2.1, bt292.2.2)) else (if bt292.1 = 1 then (spec_l29DrawEntry.j0 k (bt292.1 == 1) s0_0 bt292.2.1 bt292.2.2) else (spec_l29DrawEntry.j0 k (bt292.1 == 2) s0_0 bt292.2.1 bt292.2.2))))))) = some (r1, r2, r3, r4) := h; clear h
 replace H := Option.bind_eq_some_iff.mp H
 obtain ⟨⟨t277, t278, t279⟩, A30, H⟩ := H
 try dsimp only at H
 have A3 := ag12_ A30; clear A30
 by_cases c4 : t277 = 0
 ·
  rw [if_pos c4] at H
  have c4b0 : (t277 == 0) = true := beq_iff_eq.mpr c4; have c4b1 : (t277 != 0) = false := bne_eq_false_iff_eq.mpr c4; clear c4
  replace H := Option.bind_eq_some_iff.mp H
  obtain ⟨⟨t280, t281, t282⟩, A50, H⟩ := H
  try dsimp only at H
  have A5 := ag12_ A50; clear A50; obtain ⟨y283, hy283⟩ : ∃ y_ : List Int, y_ = (([(-1), 0, 12, 1000000000, 1000000001, 1000000] : List Int)) := ⟨_, rfl⟩
  replace H : ((spec_l01Pick.f s0_0 t281 t282 y283).bind fun bt286 => (some (t280, bt286.1, bt286.2.1, bt286.2.2))) = some (r1, r2, r3, r4) := by first | (rw [hy283]; with_reducible exact H) | (have H2_ := (Option.bind_some _ _).symm.trans H; rw [hy283]; with_reducible exact H2_) | (have H2_ := (Option.bind_some _ _).symm.trans H; with_reducible exact H2_) | with_reducible exact H | (rw [hy283]; exact H) | exact H
  have Ny283 := ag12_ hy283; clear hy283
  replace H := Option.bind_eq_some_iff.mp H
  obtain ⟨⟨t286, t287, t288⟩, A60, H⟩ := H
  try dsimp only at H
  have A6 := ag12_ A60; clear A60
  simp only [Option.some.injEq, Prod.mk.injEq] at H
  obtain ⟨rfl, rfl, rfl, rfl⟩ := H
  go_enter Tryd.func104, Tryd.ntmps104
  go_wp2_with (first | ((with_reducible refine gate_dst (N := 3) rfl ?_); refine be_ (N := 3) (cs := #[.int .i64 a1_0, .int .i64 a1_1, .int .i64 a1_2, .int .i64 a1_3]) (t := 68) ?_; intro gb275 hg w7 hbox hb; have BK275 := ag12_ (hbox); have GW275 := ag12_ ((by rw [hg]; exact (keep_size (w := w) (g := g) (row := none) w8g12_) : w.heap.size ≤ gb275)); have GE275 := ag12_ ((Nat.le_trans HW0.out (by rw [hg]; exact (keep_size (w := w) (g := g) (row := none) w8g12_) : w.heap.size ≤ gb275) : w0.heap.size ≤ gb275)); have NB0_275 := ag12_ ((by rw [hg]; exact Nat.ne_of_lt (IsS200.lt (show IsS200 w0 _ g s0_0 s0_1 s0_2 from w7g12_)) : g ≠ gb275)); have NB275_0 := ag12_ ((by rw [hg]; exact Nat.ne_of_gt (IsS200.lt (show IsS200 w0 _ g s0_0 s0_1 s0_2 from w7g12_)) : gb275 ≠ g)); replace HK := ag12_ (KeepBut.trans w8g12_ (KeepBut.of_below hb g none) (.inl rfl)); replace HB := ag12_ (below_step w12g12_ hb); replace HI0 := ag12_ (IsS200.below w7g12_ hb); clear hb hbox hg) | ((with_reducible refine gate_dst (N := 4) rfl ?_); refine be_ (N := 4) (cs := #[.int .i64 0, .int .i64 0]) (t := 70) ?_; intro gb276 hg w8 hbox hb; have BK276 := ag12_ (hbox); have GW276 := ag12_ ((by rw [hg]; exact (keep_size (w := w) (g := g) (row := none) w6g12_) : w.heap.size ≤ gb276)); have GE276 := ag12_ ((Nat.le_trans HW0.out (by rw [hg]; exact (keep_size (w := w) (g := g) (row := none) w6g12_) : w.heap.size ≤ gb276) : w0.heap.size ≤ gb276)); obtain ⟨NB275_276, NB276_275⟩ := nb2_ hg w4g12_; have NB0_276 := ag12_ ((by rw [hg]; exact Nat.ne_of_lt (IsS200.lt (show IsS200 w0 _ g s0_0 s0_1 s0_2 from w5g12_)) : g ≠ gb276)); have NB276_0 := ag12_ ((by rw [hg]; exact Nat.ne_of_gt (IsS200.lt (show IsS200 w0 _ g s0_0 s0_1 s0_2 from w5g12_)) : gb276 ≠ g)); replace BK275 := ag12_ (blk_below w4g12_ hb); replace HK := ag12_ (KeepBut.trans w6g12_ (KeepBut.of_below hb g none) (.inl rfl)); replace HB := ag12_ (below_step w11g12_ hb); replace HI0 := ag12_ (IsS200.below w5g12_ hb); clear hb hbox hg) | ((with_reducible refine gate_callee (f := 102) rfl ?_); refine goesL_ (some 6) rfl rfl Tryd.func102 (by kernel_rfl) rfl #[.pointer (some ⟨g, 0, none⟩), .int .i64 20] rfl w10g12_ ?_; (with_reducible refine (spec_l01Next.calls g s0_0 s0_1 s0_2 20 t277 t278 t279 w0 _ ?side1 ?side2 A3.out).mono ?_); (case side1 => exact w1g12_); (case side2 => exact w2g12_); rintro e w9 ⟨rfl, hi, hb, hk⟩; refine ⟨_, rfl, ?_⟩; replace BK275 := ag12_ (KeepBut.blk hk (g' := gb275) (o := .cells #[.int .i64 a1_0, .int .i64 a1_1, .int .i64 a1_2, .int .i64 a1_3] 68 (0, 0)) w4g12_ NB275_0.out (by simp)); replace BK276 := ag12_ (KeepBut.blk hk (g' := gb276) (o := .cells #[.int .i64 0, .int .i64 0] 70 (0, 0)) w9g12_ NB276_0.out (by simp)); replace HK := ag12_ (KeepBut.trans w3g12_ hk (.inl rfl)); replace HB := ag12_ (hb); replace HI0 := ag12_ (hi); clear hb hk hi) | ((with_reducible refine gate_callee (f := 102) rfl ?_); refine goesL_ (some 9) rfl rfl Tryd.func102 (by kernel_rfl) rfl #[.pointer (some ⟨g, 0, none⟩), .int .i64 6] rfl w10g12_ ?_; (with_reducible refine (spec_l01Next.calls g s0_0 t278 t279 6 t280 t281 t282 w0 _ ?side1 ?side2 A5.out).mono ?_); (case side1 => exact w1g12_); (case side2 => exact w2g12_); rintro e w10 ⟨rfl, hi, hb, hk⟩; refine ⟨_, rfl, ?_⟩; replace BK275 := ag12_ (KeepBut.blk hk (g' := gb275) (o := .cells #[.int .i64 a1_0, .int .i64 a1_1, .int .i64 a1_2, .int .i64 a1_3] 68 (0, 0)) w4g12_ NB275_0.out (by simp)); replace BK276 := ag12_ (KeepBut.blk hk (g' := gb276) (o := .cells #[.int .i64 0, .int .i64 0] 70 (0, 0)) w9g12_ NB276_0.out (by simp)); replace HK := ag12_ (KeepBut.trans w3g12_ hk (.inl rfl)); replace HB := ag12_ (hb); replace HI0 := ag12_ (hi); clear hb hk hi) | ((with_reducible refine gate_dst (N := 11) rfl ?_); refine Kd.R_lit (Kd.int .i64) _ 2 ?hg (N := 11) ?hd (xs := ([(-1), 0, 12, 1000000000, 1000000001, 1000000] : List Int)) (inner := [.int .i64 (-1), .int .i64 0, .int .i64 12, .int .i64 1000000000, .int .i64 1000000001, .int .i64 1000000]) (ok := fun _ => True) (okp := fun _ => True) ?hr ?hp (fun _ hk => hk) trivial (Below.refl _ _) (Nat.le_refl _) (by simp) ?_; (case hd => rfl); (case hg => rfl); (case hr => first | (go_simp; done) | (go_simp; rfl)); (case hp => exact (by exact (Reps.one (show Kd.M (Kd.int .i64) _ _ _ (-1) [.int .i64 (-1)] from rfl) (Reps.one (show Kd.M (Kd.int .i64) _ _ _ 0 [.int .i64 0] from rfl) (Reps.one (show Kd.M (Kd.int .i64) _ _ _ 12 [.int .i64 12] from rfl) (Reps.one (show Kd.M (Kd.int .i64) _ _ _ 1000000000 [.int .i64 1000000000] from rfl) (Reps.one (show Kd.M (Kd.int .i64) _ _ _ 1000000001 [.int .i64 1000000001] from rfl) (Reps.one (show Kd.M (Kd.int .i64) _ _ _ 1000000 [.int .i64 1000000] from rfl) (Reps.none _ _))))))))); intro v284 w11 ho12 hb hg_ hnew_; clear hg_ hnew_; (first | rw [← Ny283.out] at ho12 | (simp only [Int.reduceToNat] at ho12; rw [← Ny283.out] at ho12)); have n0_ := ag12_ (Kd.R_lower ho12 (keep_size (w := w) (g := g) (row := none) w3g12_)); have n1_ := ag12_ (IsS200.below w1g12_ hb); have n2_ := ag12_ (blk_below w4g12_ hb); have n3_ := ag12_ (blk_below w9g12_ hb); have n4_ := ag12_ (KeepBut.trans w3g12_ (KeepBut.of_below hb g none) (.inl rfl)); have n5_ := ag12_ (below_step w2g12_ hb); clear HI0; clear BK275; clear BK276; clear HK; clear HB; have HO285 := n0_; have HI0 := n1_; have BK275 := n2_; have BK276 := n3_; have HK := n4_; have HB := n5_; clear n0_ n1_ n2_ n3_ n4_ n5_; clear hb ho12; obtain ⟨Ao13, co13, eo13⟩ := Kd.R_slice HO285.out; subst eo13) | ((with_reducible refine gate_callee (f := 101) rfl ?_); refine goesL_ (some 12) rfl rfl Tryd.func101 (by kernel_rfl) rfl #[.pointer (some ⟨g, 0, none⟩), .slice Ao13 y283.length co13] rfl w10g12_ ?_; (with_reducible refine (spec_l01Pick.calls g s0_0 t281 t282 _ _ y283 t286 t287 t288 w0 _ ?side1 ?side2 ?side3 ?side4 ?side5 A6.out).mono ?_); (case side1 => exact w1g12_); (case side2 => exact w2g12_); (case side3 => exact (by repeat (first | exact (Kd.R_reads' HO285.out).2.2 | (with_reducible refine Kd.C_alloc ?_ _) | (with_reducible refine Kd.C_drewN ?_ _) | (with_reducible refine Kd.C_drew ?_)))); (case side4 => exact (Kd.R_reads' HO285.out).2.1); (case side5 => exact far_slice (IsS200.own_ne HI0.out HO285.out (by decide))); rintro e w14 ⟨rfl, hi, hb, hk⟩; refine ⟨_, rfl, ?_⟩; have n0_ := ag12_ (KeepBut.blk hk (g' := gb275) (o := .cells #[.int .i64 a1_0, .int .i64 a1_1, .int .i64 a1_2, .int .i64 a1_3] 68 (0, 0)) w4g12_ NB275_0.out (by simp)); have n1_ := ag12_ (KeepBut.blk hk (g' := gb276) (o := .cells #[.int .i64 0, .int .i64 0] 70 (0, 0)) w9g12_ NB276_0.out (by simp)); have n2_ := ag12_ (Kd.R_mono (Kd.R_keep (IsS200.apart (show IsS200 w0 _ g s0_0 t281 t282 from w1g12_) (by (with_reducible repeat (first | apply Kd.R_alloc | apply Kd.R_drewN | apply Kd.R_drew)); exact HO285.out) (by decide)) hk (fun _ h => h.2)) (fun _ h => h.1)); have n3_ := ag12_ (KeepBut.trans w3g12_ hk (.inl rfl)); have n4_ := ag12_ (hb); have n5_ := ag12_ (hi); clear BK275; clear BK276; clear HO285; clear HK; clear HB; clear HI0; have BK275 := n0_; have BK276 := n1_; have HO285 := n2_; have HK := n3_; have HB := n4_; have HI0 := n5_; clear n0_ n1_ n2_ n3_ n4_ n5_; clear hb hk hi; have hnb15 := NB276_275.out; have hnc15 := NB275_276.out; have hnb16 := NB276_0.out; have hnc16 := NB0_276.out; obtain ⟨hcz17_0, hcz17_1⟩ := blk2 BK276.out; obtain ⟨hfz17_0, hfz17_1⟩ := frz2 BK276.out))
  refine bodyPost_ret (results_cell_row rfl _ _ gb276 70 #[.int .i64 t280, .int .i64 t286] (0, 0) _ rfl (by (with_reducible repeat (first | refine blk_drewN ?_ _ | refine blk_drew ?_ | refine blk_alloc ?_ _)); refine blk_put (cs := #[.int .i64 t280, .int .i64 0]) ?_ 1 _ rfl; (with_reducible repeat (first | refine blk_drewN ?_ _ | refine blk_drew ?_ | refine blk_alloc ?_ _)); refine blk_put (cs := #[.int .i64 0, .int .i64 0]) ?_ 0 _ rfl; (with_reducible repeat (first | refine blk_drewN ?_ _ | refine blk_drew ?_ | refine blk_alloc ?_ _)); exact BK276.out) Tryd.underlying70 rfl (by kernel_rfl)) rfl ?_
  exact ⟨w13g12_, w1g12_, w2g12_, w3g12_⟩
 ·
  rw [if_neg c4] at H
  have c4b0 : (t277 == 0) = false := beq_eq_false_iff_ne.mpr c4; have c4b1 : (t277 != 0) = true := bne_iff_ne.mpr c4
  by_cases c18 : a1_0 = 0
  ·
   rw [if_pos c18] at H
   have c18b0 : (a1_0 == 0) = true := beq_iff_eq.mpr c18; have c18b1 : (a1_0 != 0) = false := bne_eq_false_iff_eq.mpr c18; clear c18
   replace H := Option.bind_eq_some_iff.mp H
   obtain ⟨⟨t289, t290, t291⟩, A190, H⟩ := H
   try dsimp only at H
   have A19 := ag12_ A190; clear A190
   simp only [Option.some.injEq, Prod.mk.injEq] at H
   obtain ⟨rfl, rfl, rfl, rfl⟩ := H
   go_enter Tryd.func104, Tryd.ntmps104
   go_wp2_with (first | ((with_reducible refine gate_dst (N := 3) rfl ?_); refine be_ (N := 3) (cs := #[.int .i64 a1_0, .int .i64 a1_1, .int .i64 a1_2, .int .i64 a1_3]) (t := 68) ?_; intro gb275 hg w20 hbox hb; have BK275 := ag12_ (hbox); have GW275 := ag12_ ((by rw [hg]; exact (keep_size (w := w) (g := g) (row := none) w8g12_) : w.heap.size ≤ gb275)); have GE275 := ag12_ ((Nat.le_trans HW0.out (by rw [hg]; exact (keep_size (w := w) (g := g) (row := none) w8g12_) : w.heap.size ≤ gb275) : w0.heap.size ≤ gb275)); have NB0_275 := ag12_ ((by rw [hg]; exact Nat.ne_of_lt (IsS200.lt (show IsS200 w0 _ g s0_0 s0_1 s0_2 from w7g12_)) : g ≠ gb275)); have NB275_0 := ag12_ ((by rw [hg]; exact Nat.ne_of_gt (IsS200.lt (show IsS200 w0 _ g s0_0 s0_1 s0_2 from w7g12_)) : gb275 ≠ g)); replace HK := ag12_ (KeepBut.trans w8g12_ (KeepBut.of_below hb g none) (.inl rfl)); replace HB := ag12_ (below_step w12g12_ hb); replace HI0 := ag12_ (IsS200.below w7g12_ hb); clear hb hbox hg) | ((with_reducible refine gate_dst (N := 4) rfl ?_); refine be_ (N := 4) (cs := #[.int .i64 0, .int .i64 0]) (t := 70) ?_; intro gb276 hg w21 hbox hb; have BK276 := ag12_ (hbox); have GW276 := ag12_ ((by rw [hg]; exact (keep_size (w := w) (g := g) (row := none) w6g12_) : w.heap.size ≤ gb276)); have GE276 := ag12_ ((Nat.le_trans HW0.out (by rw [hg]; exact (keep_size (w := w) (g := g) (row := none) w6g12_) : w.heap.size ≤ gb276) : w0.heap.size ≤ gb276)); obtain ⟨NB275_276, NB276_275⟩ := nb2_ hg w4g12_; have NB0_276 := ag12_ ((by rw [hg]; exact Nat.ne_of_lt (IsS200.lt (show IsS200 w0 _ g s0_0 s0_1 s0_2 from w5g12_)) : g ≠ gb276)); have NB276_0 := ag12_ ((by rw [hg]; exact Nat.ne_of_gt (IsS200.lt (show IsS200 w0 _ g s0_0 s0_1 s0_2 from w5g12_)) : gb276 ≠ g)); replace BK275 := ag12_ (blk_below w4g12_ hb); replace HK := ag12_ (KeepBut.trans w6g12_ (KeepBut.of_below hb g none) (.inl rfl)); replace HB := ag12_ (below_step w11g12_ hb); replace HI0 := ag12_ (IsS200.below w5g12_ hb); clear hb hbox hg) | ((with_reducible refine gate_callee (f := 102) rfl ?_); refine goesL_ (some 6) rfl rfl Tryd.func102 (by kernel_rfl) rfl #[.pointer (some ⟨g, 0, none⟩), .int .i64 20] rfl w10g12_ ?_; (with_reducible refine (spec_l01Next.calls g s0_0 s0_1 s0_2 20 t277 t278 t279 w0 _ ?side1 ?side2 A3.out).mono ?_); (case side1 => exact w1g12_); (case side2 => exact w2g12_); rintro e w22 ⟨rfl, hi, hb, hk⟩; refine ⟨_, rfl, ?_⟩; replace BK275 := ag12_ (KeepBut.blk hk (g' := gb275) (o := .cells #[.int .i64 a1_0, .int .i64 a1_1, .int .i64 a1_2, .int .i64 a1_3] 68 (0, 0)) w4g12_ NB275_0.out (by simp)); replace BK276 := ag12_ (KeepBut.blk hk (g' := gb276) (o := .cells #[.int .i64 0, .int .i64 0] 70 (0, 0)) w9g12_ NB276_0.out (by simp)); replace HK := ag12_ (KeepBut.trans w3g12_ hk (.inl rfl)); replace HB := ag12_ (hb); replace HI0 := ag12_ (hi); clear hb hk hi; have hnb23 := NB275_276.out; have hnc23 := NB276_275.out; have hnb24 := NB275_0.out; have hnc24 := NB0_275.out; obtain ⟨hcz25_0, hcz25_1, hcz25_2, hcz25_3⟩ := blk4 BK275.out; obtain ⟨hfz25_0, hfz25_1, hfz25_2, hfz25_3⟩ := frz4 BK275.out) | ((with_reducible refine gate_callee (f := 102) rfl ?_); refine goesL_ (some 18) rfl rfl Tryd.func102 (by kernel_rfl) rfl #[.pointer (some ⟨g, 0, none⟩), .int .i64 40] rfl w10g12_ ?_; (with_reducible refine (spec_l01Next.calls g s0_0 t278 t279 40 t289 t290 t291 w0 _ ?side1 ?side2 A19.out).mono ?_); (case side1 => exact w1g12_); (case side2 => exact w2g12_); rintro e w26 ⟨rfl, hi, hb, hk⟩; refine ⟨_, rfl, ?_⟩; replace BK275 := ag12_ (KeepBut.blk hk (g' := gb275) (o := .cells #[.int .i64 a1_0, .int .i64 a1_1, .int .i64 a1_2, .int .i64 a1_3] 68 (0, 0)) w4g12_ NB275_0.out (by simp)); replace BK276 := ag12_ (KeepBut.blk hk (g' := gb276) (o := .cells #[.int .i64 0, .int .i64 0] 70 (0, 0)) w9g12_ NB276_0.out (by simp)); replace HK := ag12_ (KeepBut.trans w3g12_ hk (.inl rfl)); replace HB := ag12_ (hb); replace HI0 := ag12_ (hi); clear hb hk hi; have hnb27 := NB276_0.out; have hnc27 := NB0_276.out; obtain ⟨hcz28_0, hcz28_1⟩ := blk2 BK276.out; obtain ⟨hfz28_0, hfz28_1⟩ := frz2 BK276.out))
   refine bodyPost_ret (results_cell_row rfl _ _ gb276 70 #[.int .i64 1, .int .i64 (wrap64 (1 + t289))] (0, 0) _ rfl (by (with_reducible repeat (first | refine blk_drewN ?_ _ | refine blk_drew ?_ | refine blk_alloc ?_ _)); refine blk_put (cs := #[.int .i64 1, .int .i64 0]) ?_ 1 _ rfl; (with_reducible repeat (first | refine blk_drewN ?_ _ | refine blk_drew ?_ | refine blk_alloc ?_ _)); refine blk_put (cs := #[.int .i64 0, .int .i64 0]) ?_ 0 _ rfl; (with_reducible repeat (first | refine blk_drewN ?_ _ | refine blk_drew ?_ | refine blk_alloc ?_ _)); exact BK276.out) Tryd.underlying70 rfl (by kernel_rfl)) rfl ?_
   exact ⟨w13g12_, w1g12_, w2g12_, w3g12_⟩
  ·
   rw [if_neg c18] at H
   have c18b0 : (a1_0 == 0) = false := beq_eq_false_iff_ne.mpr c18; have c18b1 : (a1_0 != 0) = true := bne_iff_ne.mpr c18
   replace H := Option.bind_eq_some_iff.mp H
   obtain ⟨⟨t292, t293, t294⟩, A290, H⟩ := H
   try dsimp only at H
   have A29 := ag12_ A290; clear A290
   by_cases c30 : t292 = 0
   ·
    rw [if_pos c30] at H
    have c30b0 : (t292 == 0) = true := beq_iff_eq.mpr c30; have c30b1 : (t292 != 0) = false := bne_eq_false_iff_eq.mpr c30; clear c30
    simp only [Option.some.injEq, Prod.mk.injEq] at H
    obtain ⟨rfl, rfl, rfl, rfl⟩ := H
    go_enter Tryd.func104, Tryd.ntmps104
    go_wp2_with (first | ((with_reducible refine gate_dst (N := 3) rfl ?_); refine be_ (N := 3) (cs := #[.int .i64 a1_0, .int .i64 a1_1, .int .i64 a1_2, .int .i64 a1_3]) (t := 68) ?_; intro gb275 hg w31 hbox hb; have BK275 := ag12_ (hbox); have GW275 := ag12_ ((by rw [hg]; exact (keep_size (w := w) (g := g) (row := none) w8g12_) : w.heap.size ≤ gb275)); have GE275 := ag12_ ((Nat.le_trans HW0.out (by rw [hg]; exact (keep_size (w := w) (g := g) (row := none) w8g12_) : w.heap.size ≤ gb275) : w0.heap.size ≤ gb275)); have NB0_275 := ag12_ ((by rw [hg]; exact Nat.ne_of_lt (IsS200.lt (show IsS200 w0 _ g s0_0 s0_1 s0_2 from w7g12_)) : g ≠ gb275)); have NB275_0 := ag12_ ((by rw [hg]; exact Nat.ne_of_gt (IsS200.lt (show IsS200 w0 _ g s0_0 s0_1 s0_2 from w7g12_)) : gb275 ≠ g)); replace HK := ag12_ (KeepBut.trans w8g12_ (KeepBut.of_below hb g none) (.inl rfl)); replace HB := ag12_ (below_step w12g12_ hb); replace HI0 := ag12_ (IsS200.below w7g12_ hb); clear hb hbox hg) | ((with_reducible refine gate_dst (N := 4) rfl ?_); refine be_ (N := 4) (cs := #[.int .i64 0, .int .i64 0]) (t := 70) ?_; intro gb276 hg w32 hbox hb; have BK276 := ag12_ (hbox); have GW276 := ag12_ ((by rw [hg]; exact (keep_size (w := w) (g := g) (row := none) w6g12_) : w.heap.size ≤ gb276)); have GE276 := ag12_ ((Nat.le_trans HW0.out (by rw [hg]; exact (keep_size (w := w) (g := g) (row := none) w6g12_) : w.heap.size ≤ gb276) : w0.heap.size ≤ gb276)); obtain ⟨NB275_276, NB276_275⟩ := nb2_ hg w4g12_; have NB0_276 := ag12_ ((by rw [hg]; exact Nat.ne_of_lt (IsS200.lt (show IsS200 w0 _ g s0_0 s0_1 s0_2 from w5g12_)) : g ≠ gb276)); have NB276_0 := ag12_ ((by rw [hg]; exact Nat.ne_of_gt (IsS200.lt (show IsS200 w0 _ g s0_0 s0_1 s0_2 from w5g12_)) : gb276 ≠ g)); replace BK275 := ag12_ (blk_below w4g12_ hb); replace HK := ag12_ (KeepBut.trans w6g12_ (KeepBut.of_below hb g none) (.inl rfl)); replace HB := ag12_ (below_step w11g12_ hb); replace HI0 := ag12_ (IsS200.below w5g12_ hb); clear hb hbox hg) | ((with_reducible refine gate_callee (f := 102) rfl ?_); refine goesL_ (some 6) rfl rfl Tryd.func102 (by kernel_rfl) rfl #[.pointer (some ⟨g, 0, none⟩), .int .i64 20] rfl w10g12_ ?_; (with_reducible refine (spec_l01Next.calls g s0_0 s0_1 s0_2 20 t277 t278 t279 w0 _ ?side1 ?side2 A3.out).mono ?_); (case side1 => exact w1g12_); (case side2 => exact w2g12_); rintro e w33 ⟨rfl, hi, hb, hk⟩; refine ⟨_, rfl, ?_⟩; replace BK275 := ag12_ (KeepBut.blk hk (g' := gb275) (o := .cells #[.int .i64 a1_0, .int .i64 a1_1, .int .i64 a1_2, .int .i64 a1_3] 68 (0, 0)) w4g12_ NB275_0.out (by simp)); replace BK276 := ag12_ (KeepBut.blk hk (g' := gb276) (o := .cells #[.int .i64 0, .int .i64 0] 70 (0, 0)) w9g12_ NB276_0.out (by simp)); replace HK := ag12_ (KeepBut.trans w3g12_ hk (.inl rfl)); replace HB := ag12_ (hb); replace HI0 := ag12_ (hi); clear hb hk hi; have hnb34 := NB275_276.out; have hnc34 := NB276_275.out; have hnb35 := NB275_0.out; have hnc35 := NB0_275.out; obtain ⟨hcz36_0, hcz36_1, hcz36_2, hcz36_3⟩ := blk4 BK275.out; obtain ⟨hfz36_0, hfz36_1, hfz36_2, hfz36_3⟩ := frz4 BK275.out) | ((with_reducible refine gate_callee (f := 102) rfl ?_); refine goesL_ (some 22) rfl rfl Tryd.func102 (by kernel_rfl) rfl #[.pointer (some ⟨g, 0, none⟩), .int .i64 6] rfl w10g12_ ?_; (with_reducible refine (spec_l01Next.calls g s0_0 t278 t279 6 t292 t293 t294 w0 _ ?side1 ?side2 A29.out).mono ?_); (case side1 => exact w1g12_); (case side2 => exact w2g12_); rintro e w37 ⟨rfl, hi, hb, hk⟩; refine ⟨_, rfl, ?_⟩; replace BK275 := ag12_ (KeepBut.blk hk (g' := gb275) (o := .cells #[.int .i64 a1_0, .int .i64 a1_1, .int .i64 a1_2, .int .i64 a1_3] 68 (0, 0)) w4g12_ NB275_0.out (by simp)); replace BK276 := ag12_ (KeepBut.blk hk (g' := gb276) (o := .cells #[.int .i64 0, .int .i64 0] 70 (0, 0)) w9g12_ NB276_0.out (by simp)); replace HK := ag12_ (KeepBut.trans w3g12_ hk (.inl rfl)); replace HB := ag12_ (hb); replace HI0 := ag12_ (hi); clear hb hk hi; obtain ⟨hcz38_0, hcz38_1, hcz38_2, hcz38_3⟩ := blk4 BK275.out; obtain ⟨hfz38_0, hfz38_1, hfz38_2, hfz38_3⟩ := frz4 BK275.out; have hnb39 := NB276_0.out; have hnc39 := NB0_276.out; obtain ⟨hcz40_0, hcz40_1⟩ := blk2 BK276.out; obtain ⟨hfz40_0, hfz40_1⟩ := frz2 BK276.out))
    refine bodyPost_ret (results_cell_row rfl _ _ gb276 70 #[.int .i64 4, .int .i64 a1_1] (0, 0) _ rfl (by (with_reducible repeat (first | refine blk_drewN ?_ _ | refine blk_drew ?_ | refine blk_alloc ?_ _)); refine blk_put (cs := #[.int .i64 4, .int .i64 0]) ?_ 1 _ rfl; (with_reducible repeat (first | refine blk_drewN ?_ _ | refine blk_drew ?_ | refine blk_alloc ?_ _)); refine blk_put (cs := #[.int .i64 0, .int .i64 0]) ?_ 0 _ rfl; (with_reducible repeat (first | refine blk_drewN ?_ _ | refine blk_drew ?_ | refine blk_alloc ?_ _)); exact BK276.out) Tryd.underlying70 rfl (by kernel_rfl)) rfl ?_
    exact ⟨w13g12_, w1g12_, w2g12_, w3g12_⟩
   ·
    rw [if_neg c30] at H
    have c30b0 : (t292 == 0) = false := beq_eq_false_iff_ne.mpr c30; have c30b1 : (t292 != 0) = true := bne_iff_ne.mpr c30; have HC41 := ag12_ H; clear H
    go_enter Tryd.func104, Tryd.ntmps104
    go_upto_if 28 with (first | ((with_reducible refine gate_dst (N := 3) rfl ?_); refine be_ (N := 3) (cs := #[.int .i64 a1_0, .int .i64 a1_1, .int .i64 a1_2, .int .i64 a1_3]) (t := 68) ?_; intro gb275 hg w42 hbox hb; have BK275 := ag12_ (hbox); have GW275 := ag12_ ((by rw [hg]; exact (keep_size (w := w) (g := g) (row := none) w8g12_) : w.heap.size ≤ gb275)); have GE275 := ag12_ ((Nat.le_trans HW0.out (by rw [hg]; exact (keep_size (w := w) (g := g) (row := none) w8g12_) : w.heap.size ≤ gb275) : w0.heap.size ≤ gb275)); have NB0_275 := ag12_ ((by rw [hg]; exact Nat.ne_of_lt (IsS200.lt (show IsS200 w0 _ g s0_0 s0_1 s0_2 from w7g12_)) : g ≠ gb275)); have NB275_0 := ag12_ ((by rw [hg]; exact Nat.ne_of_gt (IsS200.lt (show IsS200 w0 _ g s0_0 s0_1 s0_2 from w7g12_)) : gb275 ≠ g)); replace HK := ag12_ (KeepBut.trans w8g12_ (KeepBut.of_below hb g none) (.inl rfl)); replace HB := ag12_ (below_step w12g12_ hb); replace HI0 := ag12_ (IsS200.below w7g12_ hb); clear hb hbox hg) | ((with_reducible refine gate_dst (N := 4) rfl ?_); refine be_ (N := 4) (cs := #[.int .i64 0, .int .i64 0]) (t := 70) ?_; intro gb276 hg w43 hbox hb; have BK276 := ag12_ (hbox); have GW276 := ag12_ ((by rw [hg]; exact (keep_size (w := w) (g := g) (row := none) w6g12_) : w.heap.size ≤ gb276)); have GE276 := ag12_ ((Nat.le_trans HW0.out (by rw [hg]; exact (keep_size (w := w) (g := g) (row := none) w6g12_) : w.heap.size ≤ gb276) : w0.heap.size ≤ gb276)); obtain ⟨NB275_276, NB276_275⟩ := nb2_ hg w4g12_; have NB0_276 := ag12_ ((by rw [hg]; exact Nat.ne_of_lt (IsS200.lt (show IsS200 w0 _ g s0_0 s0_1 s0_2 from w5g12_)) : g ≠ gb276)); have NB276_0 := ag12_ ((by rw [hg]; exact Nat.ne_of_gt (IsS200.lt (show IsS200 w0 _ g s0_0 s0_1 s0_2 from w5g12_)) : gb276 ≠ g)); replace BK275 := ag12_ (blk_below w4g12_ hb); replace HK := ag12_ (KeepBut.trans w6g12_ (KeepBut.of_below hb g none) (.inl rfl)); replace HB := ag12_ (below_step w11g12_ hb); replace HI0 := ag12_ (IsS200.below w5g12_ hb); clear hb hbox hg) | ((with_reducible refine gate_callee (f := 102) rfl ?_); refine goesL_ (some 6) rfl rfl Tryd.func102 (by kernel_rfl) rfl #[.pointer (some ⟨g, 0, none⟩), .int .i64 20] rfl w10g12_ ?_; (with_reducible refine (spec_l01Next.calls g s0_0 s0_1 s0_2 20 t277 t278 t279 w0 _ ?side1 ?side2 A3.out).mono ?_); (case side1 => exact w1g12_); (case side2 => exact w2g12_); rintro e w44 ⟨rfl, hi, hb, hk⟩; refine ⟨_, rfl, ?_⟩; replace BK275 := ag12_ (KeepBut.blk hk (g' := gb275) (o := .cells #[.int .i64 a1_0, .int .i64 a1_1, .int .i64 a1_2, .int .i64 a1_3] 68 (0, 0)) w4g12_ NB275_0.out (by simp)); replace BK276 := ag12_ (KeepBut.blk hk (g' := gb276) (o := .cells #[.int .i64 0, .int .i64 0] 70 (0, 0)) w9g12_ NB276_0.out (by simp)); replace HK := ag12_ (KeepBut.trans w3g12_ hk (.inl rfl)); replace HB := ag12_ (hb); replace HI0 := ag12_ (hi); clear hb hk hi; have hnb45 := NB275_276.out; have hnc45 := NB276_275.out; have hnb46 := NB275_0.out; have hnc46 := NB0_275.out; obtain ⟨hcz47_0, hcz47_1, hcz47_2, hcz47_3⟩ := blk4 BK275.out; obtain ⟨hfz47_0, hfz47_1, hfz47_2, hfz47_3⟩ := frz4 BK275.out) | ((with_reducible refine gate_callee (f := 102) rfl ?_); refine goesL_ (some 22) rfl rfl Tryd.func102 (by kernel_rfl) rfl #[.pointer (some ⟨g, 0, none⟩), .int .i64 6] rfl w10g12_ ?_; (with_reducible refine (spec_l01Next.calls g s0_0 t278 t279 6 t292 t293 t294 w0 _ ?side1 ?side2 A29.out).mono ?_); (case side1 => exact w1g12_); (case side2 => exact w2g12_); rintro e w48 ⟨rfl, hi, hb, hk⟩; refine ⟨_, rfl, ?_⟩; replace BK275 := ag12_ (KeepBut.blk hk (g' := gb275) (o := .cells #[.int .i64 a1_0, .int .i64 a1_1, .int .i64 a1_2, .int .i64 a1_3] 68 (0, 0)) w4g12_ NB275_0.out (by simp)); replace BK276 := ag12_ (KeepBut.blk hk (g' := gb276) (o := .cells #[.int .i64 0, .int .i64 0] 70 (0, 0)) w9g12_ NB276_0.out (by simp)); replace HK := ag12_ (KeepBut.trans w3g12_ hk (.inl rfl)); replace HB := ag12_ (hb); replace HI0 := ag12_ (hi); clear hb hk hi))
    (try simp only [Act.put, List.setIfInBounds_toArray, List.set_cons_zero, List.set_cons_succ])
    go_cut [28] (fun v28 wc => ∃ (kq : Nat) (x28_40 : Bool), v28 = .bool x28_40 ∧ Aside0 (spec_l29DrawEntry.j0 kq x28_40 s0_0 t293 t294 = some (r1, r2, r3, r4)) ∧ Aside0 (kq ≤ k) ∧ Aside0 (wc.heap[gb275]? = some (.cells #[.int .i64 a1_0, .int .i64 a1_1, .int .i64 a1_2, .int .i64 a1_3] 68 (0, 0))) ∧ Aside0 (wc.heap[gb276]? = some (.cells #[.int .i64 0, .int .i64 0] 70 (0, 0))) ∧ Aside0 (IsS200 w0 wc g s0_0 t293 t294) ∧ Aside0 (KeepBut w wc g none) ∧ Aside0 (Below w0.heap.size w0 wc))
    case first =>
     have H := HC41.out; clear HC41
     by_cases c49 : t292 = 1
     ·
      rw [if_pos c49] at H
      have c49b0 : (t292 == 1) = true := beq_iff_eq.mpr c49; have c49b1 : (t292 != 1) = false := bne_eq_false_iff_eq.mpr c49; clear c49
      (first | rw [c49b0] | (simp only [i64_w, i32_w]; rw [c49b0]) | skip)
      have H' := ag12_ H; clear H
      go_wp2
      go_meet
      case rel => exact ⟨_, ((t292 == 1)), (by first | rfl | (simp; done) | (simp [*]; done)), H', ⟨(by first | omega | exact Nat.le_refl _)⟩, ⟨w4g12_⟩, ⟨w9g12_⟩, ⟨w1g12_⟩, ⟨w3g12_⟩, ⟨w2g12_⟩⟩
     ·
      rw [if_neg c49] at H
      have c49b0 : (t292 == 1) = false := beq_eq_false_iff_ne.mpr c49; have c49b1 : (t292 != 1) = true := bne_iff_ne.mpr c49
      (first | rw [c49b0] | (simp only [i64_w, i32_w]; rw [c49b0]) | skip)
      have H' := ag12_ H; clear H
      go_wp2
      go_meet
      case rel => exact ⟨_, ((t292 == 2)), (by first | rfl | (simp; done) | (simp [*]; done)), H', ⟨(by first | omega | exact Nat.le_refl _)⟩, ⟨w4g12_⟩, ⟨w9g12_⟩, ⟨w1g12_⟩, ⟨w3g12_⟩, ⟨w2g12_⟩⟩
    case rest =>
     clear HC41
     try clear c4
     try clear c4b0
     try clear c4b1
     try clear c18
     try clear c18b0
     try clear c18b1
     try clear c30
     try clear c30b0
     try clear c30b1
     try clear c49
     try clear c49b0
     try clear c49b1
     try clear hcz17_0
     try clear hcz17_1
     try clear hcz25_0
     try clear hcz25_1
     try clear hcz25_2
     try clear hcz25_3
     try clear hcz28_0
     try clear hcz28_1
     try clear hcz36_0
     try clear hcz36_1
     try clear hcz36_2
     try clear hcz36_3
     try clear hcz38_0
     try clear hcz38_1
     try clear hcz38_2
     try clear hcz38_3
     try clear hcz40_0
     try clear hcz40_1
     try clear hcz47_0
     try clear hcz47_1
     try clear hcz47_2
     try clear hcz47_3
     try clear hfz17_0
     try clear hfz17_1
     try clear hfz25_0
     try clear hfz25_1
     try clear hfz25_2
     try clear hfz25_3
     try clear hfz28_0
     try clear hfz28_1
     try clear hfz36_0
     try clear hfz36_1
     try clear hfz36_2
     try clear hfz36_3
     try clear hfz38_0
     try clear hfz38_1
     try clear hfz38_2
     try clear hfz38_3
     try clear hfz40_0
     try clear hfz40_1
     try clear hfz47_0
     try clear hfz47_1
     try clear hfz47_2
     try clear hfz47_3
     obtain ⟨kq, x28_40, rfl, HA, HJ40, BK275, BK276, HI0, HK, HB⟩ := hcut
     cases kq with
     | zero => exact absurd HA.out (by simp [spec_l29DrawEntry.j0])
     | succ kj40 =>
      have H := HA.out; clear HA
      simp only [spec_l29DrawEntry.j0] at H
      by_cases c50 : x28_40 = true
      ·
       subst c50
       rw [if_pos rfl] at H
       replace H := Option.bind_eq_some_iff.mp H
       obtain ⟨⟨t295, t296, t297⟩, A510, H⟩ := H
       try dsimp only at H
       have A51 := ag12_ A510; clear A510
       simp only [Option.some.injEq, Prod.mk.injEq] at H
       obtain ⟨rfl, rfl, rfl, rfl⟩ := H
       go_wp2_with (first | ((with_reducible refine gate_callee (f := 102) rfl ?_); refine goesL_ (some 32) rfl rfl Tryd.func102 (by kernel_rfl) rfl #[.pointer (some ⟨g, 0, none⟩), .int .i64 5] rfl w10g12_ ?_; (with_reducible refine (spec_l01Next.calls g s0_0 t293 t294 5 t295 t296 t297 w0 _ ?side1 ?side2 A51.out).mono ?_); (case side1 => exact w1g12_); (case side2 => exact w2g12_); rintro e w52 ⟨rfl, hi, hb, hk⟩; refine ⟨_, rfl, ?_⟩; replace BK275 := ag12_ (KeepBut.blk hk (g' := gb275) (o := .cells #[.int .i64 a1_0, .int .i64 a1_1, .int .i64 a1_2, .int .i64 a1_3] 68 (0, 0)) w4g12_ NB275_0.out (by simp)); replace BK276 := ag12_ (KeepBut.blk hk (g' := gb276) (o := .cells #[.int .i64 0, .int .i64 0] 70 (0, 0)) w9g12_ NB276_0.out (by simp)); replace HK := ag12_ (KeepBut.trans w3g12_ hk (.inl rfl)); replace HB := ag12_ (hb); replace HI0 := ag12_ (hi); clear hb hk hi; have hnb53 := NB276_275.out; have hnc53 := NB275_276.out; have hnb54 := NB276_0.out; have hnc54 := NB0_276.out; obtain ⟨hcz55_0, hcz55_1⟩ := blk2 BK276.out; obtain ⟨hfz55_0, hfz55_1⟩ := frz2 BK276.out))
       refine bodyPost_ret (results_cell_row rfl _ _ gb276 70 #[.int .i64 3, .int .i64 t295] (0, 0) _ rfl (by (with_reducible repeat (first | refine blk_drewN ?_ _ | refine blk_drew ?_ | refine blk_alloc ?_ _)); refine blk_put (cs := #[.int .i64 3, .int .i64 0]) ?_ 1 _ rfl; (with_reducible repeat (first | refine blk_drewN ?_ _ | refine blk_drew ?_ | refine blk_alloc ?_ _)); refine blk_put (cs := #[.int .i64 0, .int .i64 0]) ?_ 0 _ rfl; (with_reducible repeat (first | refine blk_drewN ?_ _ | refine blk_drew ?_ | refine blk_alloc ?_ _)); exact BK276.out) Tryd.underlying70 rfl (by kernel_rfl)) rfl ?_
       exact ⟨w13g12_, w1g12_, w2g12_, w3g12_⟩
      ·
       replace c50 := Bool.eq_false_iff.mpr c50
       subst c50
       rw [if_neg (show ¬ (false = true) by decide)] at H
       replace H := Option.bind_eq_some_iff.mp H
       obtain ⟨⟨t298, t299, t300⟩, A560, H⟩ := H
       try dsimp only at H
       have A56 := ag12_ A560; clear A560
       simp only [Option.some.injEq, Prod.mk.injEq] at H
       obtain ⟨rfl, rfl, rfl, rfl⟩ := H
       go_wp2_with (first | ((with_reducible refine gate_callee (f := 102) rfl ?_); refine goesL_ (some 35) rfl rfl Tryd.func102 (by kernel_rfl) rfl #[.pointer (some ⟨g, 0, none⟩), .int .i64 60] rfl w10g12_ ?_; (with_reducible refine (spec_l01Next.calls g s0_0 t293 t294 60 t298 t299 t300 w0 _ ?side1 ?side2 A56.out).mono ?_); (case side1 => exact w1g12_); (case side2 => exact w2g12_); rintro e w57 ⟨rfl, hi, hb, hk⟩; refine ⟨_, rfl, ?_⟩; replace BK275 := ag12_ (KeepBut.blk hk (g' := gb275) (o := .cells #[.int .i64 a1_0, .int .i64 a1_1, .int .i64 a1_2, .int .i64 a1_3] 68 (0, 0)) w4g12_ NB275_0.out (by simp)); replace BK276 := ag12_ (KeepBut.blk hk (g' := gb276) (o := .cells #[.int .i64 0, .int .i64 0] 70 (0, 0)) w9g12_ NB276_0.out (by simp)); replace HK := ag12_ (KeepBut.trans w3g12_ hk (.inl rfl)); replace HB := ag12_ (hb); replace HI0 := ag12_ (hi); clear hb hk hi; have hnb58 := NB276_275.out; have hnc58 := NB275_276.out; have hnb59 := NB276_0.out; have hnc59 := NB0_276.out; obtain ⟨hcz60_0, hcz60_1⟩ := blk2 BK276.out; obtain ⟨hfz60_0, hfz60_1⟩ := frz2 BK276.out))
       refine bodyPost_ret (results_cell_row rfl _ _ gb276 70 #[.int .i64 2, .int .i64 t298] (0, 0) _ rfl (by (with_reducible repeat (first | refine blk_drewN ?_ _ | refine blk_drew ?_ | refine blk_alloc ?_ _)); refine blk_put (cs := #[.int .i64 2, .int .i64 0]) ?_ 1 _ rfl; (with_reducible repeat (first | refine blk_drewN ?_ _ | refine blk_drew ?_ | refine blk_alloc ?_ _)); refine blk_put (cs := #[.int .i64 0, .int .i64 0]) ?_ 0 _ rfl; (with_reducible repeat (first | refine blk_drewN ?_ _ | refine blk_drew ?_ | refine blk_alloc ?_ _)); exact BK276.out) Tryd.underlying70 rfl (by kernel_rfl)) rfl ?_
       exact ⟨w13g12_, w1g12_, w2g12_, w3g12_⟩
end Go.Proofs.YtoiioapkebglgaaDoor.PG
end
section
namespace Go.Proofs.YtoiioapkebglgaaDoor.PG
open Go.RowKit Go.Proofs.YtoiioapkebglgaaDoorW.PrintWords Go.Proofs.YtoiioapkebglgaaDoorW.PrintLast Go.Proofs.YtoiioapkebglgaaDoorW.PrintMore
attribute [local go_sem] max2_int min2_int max_two min_two max_three min_three max_four min_four   -- for this text's walks alone
set_option linter.unusedVariables false
set_option linter.unusedSimpArgs false
mutual
def spec_l29Draw.l0 : Nat → List (S70) → Int → List Int → Int → Int → Int → Int → Int → Int → Option ((List (S70)) × Int × Int)
  | 0, _, _, _, _, _, _, _, _, _ => none
  | k + 1, x3, x5, x1000, x1001, x1002, x305000, x305001, x305002, x305003 => if x5 > 0 then ((spec_l29DrawEntry.f k x1000 x1001 x1002 x305000 x305001 x305002 x305003).bind fun bt308 => ((spec_l29Make.f x305000 x305001 x305002 x305003 bt308.1 bt308.2.1).bind fun bt313 => (if bt313.2.2.2.2 = true then (if x3.length < 8796093022208 then (spec_l29Draw.l0 k (x3 ++ [(⟨bt308.1, bt308.2.1⟩ : S70)]) (wrap64 (x5 - 1)) x1000 bt308.2.2.1 bt308.2.2.2 bt313.1 bt313.2.1 bt313.2.2.1 bt313.2.2.2.1) else (none)) else ((spec_l01Next.f x1000 bt308.2.2.1 bt308.2.2.2 6).bind fun bt322 => (if bt322.1 > 0 then (spec_l29Draw.l0 k x3 (wrap64 (x5 - 1)) x1000 bt322.2.1 bt322.2.2 x305000 x305001 x305002 x305003) else (if x3.length < 8796093022208 then (spec_l29Draw.l0 k (x3 ++ [(⟨bt308.1, bt308.2.1⟩ : S70)]) (wrap64 (x5 - 1)) x1000 bt322.2.1 bt322.2.2 x305000 x305001 x305002 x305003) else (none))))))) else ((spec_l01Next.f x1000 x1001 x1002 50).bind fun bt328 => (if bt328.1 = 0 then ((spec_l01Next.f x1000 bt328.2.1 bt328.2.2 2).bind fun bt334 => (spec_l29Draw.l1 k (([(⟨1, 1⟩ : S70)] : List (S70))) (wrap64 (199 + bt334.1)) x1000 bt334.2.1 bt334.2.2)) else (some (x3, bt328.2.1, bt328.2.2))))
def spec_l29Draw.l1 : Nat → List (S70) → Int → List Int → Int → Int → Option ((List (S70)) × Int × Int)
  | 0, _, _, _, _, _ => none
  | k + 1, x3, x9, x1000, x1001, x1002 => if x9 > 0 then (if x3.length < 8796093022208 then (spec_l29Draw.l1 k (x3 ++ [(⟨2, x9⟩ : S70)]) (wrap64 (x9 - 1)) x1000 x1001 x1002) else (none)) else (some (x3, x1001, x1002))
end
def spec_l29Draw.f (k : Nat) (s0_0 : List Int) (s0_1 : Int) (s0_2 : Int) : Option ((List (S70)) × Int × Int) := (spec_l01Next.f s0_0 s0_1 s0_2 14).bind fun bt305 => (spec_l29Draw.l0 k (([] : List (S70))) bt305.1 s0_0 bt305.2.1 bt305.2.2 0 0 0 0)
theorem ag13_ {p : Prop} (h : p) : Aside0 p := ⟨h⟩
theorem w1g13_ {p : Prop} (h : p := by repeat (first | (with_reducible first | exact HI0.out | apply IsS200.alloc | apply IsS200.drewN | apply IsS200.drew | apply IsS200.set_1 | apply IsS200.set_2 | refine IsS200.far ?_ NB0_304.out _) | exact HI0.out)) : p := h
theorem w2g13_ {p : Prop} (h : p := by repeat (first | (with_reducible first | exact HK.out | apply KeepBut.set_ | apply keep_drewN | apply keep_drew | apply keep_alloc | refine keep_far ?_ GW304.out _) | exact HK.out)) : p := h
theorem w3g13_ {p : Prop} (h : p := by (with_reducible repeat (first | refine blk_drewN ?_ _ | refine blk_drew ?_ | refine blk_alloc ?_ _)); exact BK304.out) : p := h
theorem w4g13_ {p : Prop} (h : p := by repeat (first | (with_reducible first | exact HB.out | apply below_alloc | apply pw_below_drewN | apply below_drew1 | refine below_set ?_ (IsS200.ge HI0.out) | refine below_set ?_ GE304.out) | exact HB.out)) : p := h
theorem w5g13_ {p : Prop} (h : p := by repeat (first | (with_reducible first | exact HI0.out | apply IsS200.alloc | apply IsS200.drewN | apply IsS200.drew | apply IsS200.set_1 | apply IsS200.set_2 | refine IsS200.far ?_ NB0_304.out _ | refine IsS200.far ?_ NB0_312.out _) | exact HI0.out)) : p := h
theorem w6g13_ {p : Prop} (h : p := by repeat (first | (with_reducible first | exact HK.out | apply KeepBut.set_ | apply keep_drewN | apply keep_drew | apply keep_alloc | refine keep_far ?_ GW304.out _ | refine keep_far ?_ GW312.out _) | exact HK.out)) : p := h
theorem w7g13_ {p : Prop} (h : p := by repeat (first | (with_reducible first | exact HI0.out | apply IsS200.alloc | apply IsS200.drewN | apply IsS200.drew | apply IsS200.set_1 | apply IsS200.set_2 | refine IsS200.far ?_ NB0_304.out _ | refine IsS200.far ?_ NB0_312.out _ | refine IsS200.far ?_ NB0_318.out _) | exact HI0.out)) : p := h
theorem w8g13_ {p : Prop} (h : p := by repeat (first | (with_reducible first | exact HK.out | apply KeepBut.set_ | apply keep_drewN | apply keep_drew | apply keep_alloc | refine keep_far ?_ GW304.out _ | refine keep_far ?_ GW312.out _ | refine keep_far ?_ GW318.out _) | exact HK.out)) : p := h
theorem w9g13_ {p : Prop} (h : p := by repeat (first | (with_reducible first | exact HB.out | apply below_alloc | apply pw_below_drewN | apply below_drew1 | refine below_set ?_ (IsS200.ge HI0.out) | refine below_set ?_ GE304.out | refine below_set ?_ GE312.out | refine below_set ?_ GE318.out) | exact HB.out)) : p := h
theorem w10g13_ {p : Prop} (h : p := by (with_reducible repeat (first | apply Kd.R_alloc | apply Kd.R_drewN | apply Kd.R_drew)); exact HO_3.out) : p := h
theorem w11g13_ {p : Prop} (h : p := by (try simp only [List.map_toArray, List.map_cons, List.map_nil]); first | done | rfl | (simp only [List.length_drop, List.length_take]; rfl)) : p := h
theorem w12g13_ {p : Prop} (h : p := by (with_reducible repeat (first | refine blk_far ?_ NB312_304.out _ | refine blk_far ?_ NB312_318.out _ | refine blk_drewN ?_ _ | refine blk_drew ?_ | refine blk_alloc ?_ _)); exact BK312.out) : p := h
theorem w13g13_ {p : Prop} (h : p := by repeat (first | (with_reducible first | exact HB.out | apply below_alloc | apply pw_below_drewN | apply below_drew1 | refine below_set ?_ (IsS200.ge HI0.out) | refine below_set ?_ GE304.out | refine below_set ?_ GE312.out) | exact HB.out)) : p := h
theorem w14g13_ {p : Prop} (h : p := by (with_reducible repeat (first | refine blk_drewN ?_ _ | refine blk_drew ?_ | refine blk_alloc ?_ _)); exact BK312.out) : p := h
theorem w15g13_ {p : Prop} (h : p := by (with_reducible repeat (first | refine blk_drewN ?_ _ | refine blk_drew ?_ | refine blk_alloc ?_ _)); refine blk_put (cs := #[.int .i64 t313, .int .i64 t314, .int .i64 t315, .int .i64 0]) ?_ 3 _ rfl; (with_reducible repeat (first | refine blk_drewN ?_ _ | refine blk_drew ?_ | refine blk_alloc ?_ _)); refine blk_put (cs := #[.int .i64 t313, .int .i64 t314, .int .i64 0, .int .i64 0]) ?_ 2 _ rfl; (with_reducible repeat (first | refine blk_drewN ?_ _ | refine blk_drew ?_ | refine blk_alloc ?_ _)); refine blk_put (cs := #[.int .i64 t313, .int .i64 0, .int .i64 0, .int .i64 0]) ?_ 1 _ rfl; (with_reducible repeat (first | refine blk_drewN ?_ _ | refine blk_drew ?_ | refine blk_alloc ?_ _)); refine blk_put (cs := #[.int .i64 0, .int .i64 0, .int .i64 0, .int .i64 0]) ?_ 0 _ rfl; (with_reducible repeat (first | refine blk_drewN ?_ _ | refine blk_drew ?_ | refine blk_alloc ?_ _)); exact BK318.out) : p := h
theorem w16g13_ {p : Prop} (h : p := by (with_reducible repeat (first | refine blk_drewN ?_ _ | refine blk_drew ?_ | refine blk_alloc ?_ _)); refine blk_put (cs := #[.int .i64 t308, .int .i64 0]) ?_ 1 _ rfl; (with_reducible repeat (first | refine blk_drewN ?_ _ | refine blk_drew ?_ | refine blk_alloc ?_ _)); refine blk_put (cs := #[.int .i64 0, .int .i64 0]) ?_ 0 _ rfl; (with_reducible repeat (first | refine blk_drewN ?_ _ | refine blk_drew ?_ | refine blk_alloc ?_ _)); exact BK312.out) : p := h
theorem w17g13_ {p : Prop} (h : p := by (with_reducible repeat (first | refine blk_far ?_ NB304_312.out _ | refine blk_drewN ?_ _ | refine blk_drew ?_ | refine blk_alloc ?_ _)); exact BK304.out) : p := h
theorem w18g13_ {p : Prop} (h : p := by (with_reducible repeat (first | refine blk_far ?_ NB304_318.out _ | refine blk_drewN ?_ _ | refine blk_drew ?_ | refine blk_alloc ?_ _)); exact BK304.out) : p := h
theorem w19g13_ {p : Prop} (h : p := by (with_reducible repeat (first | refine blk_far ?_ NB312_318.out _ | refine blk_drewN ?_ _ | refine blk_drew ?_ | refine blk_alloc ?_ _)); exact BK312.out) : p := h
theorem w20g13_ {p : Prop} (h : p := by (with_reducible repeat (first | apply Kd.R_alloc | apply Kd.R_drewN | apply Kd.R_drew)); exact (Kd.R_mono (Kd.R_far (p := ⟨gb312, 1, none⟩) (Kd.R_far (p := ⟨gb312, 0, none⟩) (Kd.R_mono HO_3.out (fun k_ hk => (⟨hk, hk.2⟩ : _ ∧ k_ ≠ gb312))) (fun _ hk => hk.2) (.int .i64 t308)) (fun _ hk => hk.2) (.int .i64 t309)) (fun _ h_ => h_.1))) : p := h
theorem w21g13_ {p : Prop} (h : p := by repeat (first | (with_reducible first | exact HK.out | apply KeepBut.set_ | apply keep_drewN | apply keep_drew | apply keep_alloc) | exact HK.out)) : p := h
theorem w22g13_ {p : Prop} (h : p := by repeat (first | (with_reducible first | exact HI0.out | apply IsS200.alloc | apply IsS200.drewN | apply IsS200.drew | apply IsS200.set_1 | apply IsS200.set_2) | exact HI0.out)) : p := h
theorem w23g13_ {p : Prop} (h : p := by (with_reducible repeat (first | apply Kd.R_alloc | apply Kd.R_drewN | apply Kd.R_drew)); exact (Kd.R_mono (Kd.R_far (p := ⟨gb318, 3, none⟩) (Kd.R_far (p := ⟨gb318, 2, none⟩) (Kd.R_far (p := ⟨gb318, 1, none⟩) (Kd.R_far (p := ⟨gb318, 0, none⟩) (Kd.R_types HO_3.out BK318.out (by decide)) (fun _ hk => hk.2) (.int .i64 t313)) (fun _ hk => hk.2) (.int .i64 t314)) (fun _ hk => hk.2) (.int .i64 t315)) (fun _ hk => hk.2) (.int .i64 t316)) (fun _ h_ => h_.1))) : p := h
theorem w24g13_ {p : Prop} (h : p := by first | rfl | (simp; done) | (simp [*]; done)) : p := h
theorem w25g13_ {p : Prop} (h : p := by repeat (first | (with_reducible first | exact HB.out | apply below_alloc | apply pw_below_drewN | apply below_drew1 | refine below_set ?_ (IsS200.ge HI0.out)) | exact HB.out)) : p := h
set_option maxHeartbeats 8000000 in
set_option maxRecDepth 100000 in
theorem spec_l29Draw.calls (k : Nat) (g : Nat) (s0_0 : List Int) (s0_1 : Int) (s0_2 : Int) (r1 : List (S70)) (r2 : Int) (r3 : Int) (w0 w : World) (hI : IsS200 w0 w g s0_0 s0_1 s0_2) (hB : Below w0.heap.size w0 w) (h : spec_l29Draw.f k s0_0 s0_1 s0_2 = some (r1, r2, r3)) :
 Calls Tryd.prog 109 #[.pointer (some ⟨g, 0, none⟩)] w fun e w' => ∃ v0_ : Value, e = .returned (v0_) ∧ Kd.R k70 70 w' w.heap.size (fun _ => True) v0_ r1 ∧ IsS200 w0 w' g s0_0 r2 r3 ∧ Below w0.heap.size w0 w' ∧ KeepBut w w' g none := by
 have hu68 := Tryd.underlying68; have hu70 := Tryd.underlying70; have HI0 := ag13_ hI; have HK := ag13_ (KeepBut.refl w g none); have HL := ag13_ hB.size; clear hI; have HW0 := ag13_ hB.size; have HB := ag13_ hB; clear hB; have H : ((spec_l01Next.f s0_0 s0_1 s0_2 14).bind fun bt305 => (spec_l29Draw.l0 k (([] : List (S70))) bt305.1 s0_0 bt305.2.1 bt305.2.2 0 0 0 0)) = some (r1, r2, r3) := h; clear h; obtain ⟨y301, hy301⟩ : ∃ y_ : List (S70), y_ = (([] : List (S70))) := ⟨_, rfl⟩
 replace H : ((spec_l01Next.f s0_0 s0_1 s0_2 14).bind fun bt305 => (spec_l29Draw.l0 k y301 bt305.1 s0_0 bt305.2.1 bt305.2.2 0 0 0 0)) = some (r1, r2, r3) := by first | (rw [hy301]; with_reducible exact H) | (have H2_ := (Option.bind_some _ _).symm.trans H; rw [hy301]; with_reducible exact H2_) | (have H2_ := (Option.bind_some _ _).symm.trans H; with_reducible exact H2_) | with_reducible exact H | (rw [hy301]; exact H) | exact H
 have Ny301 := ag13_ hy301; clear hy301
 replace H := Option.bind_eq_some_iff.mp H
 obtain ⟨⟨t305, t306, t307⟩, A20, H⟩ := H
 try dsimp only at H
 have A2 := ag13_ A20; clear A20; have H' := ag13_ H; clear H
 go_enter Tryd.func109, Tryd.ntmps109
 go_wp2_with (first | ((with_reducible refine gate_dst (N := 10) rfl ?_); refine Kd.R_lit k70 _ 70 ?hg (N := 10) ?hd (xs := ([] : List (S70))) (inner := []) (ok := fun _ => True) (okp := fun _ => True) ?hr ?hp (fun _ hk => hk) trivial (Below.refl _ _) (Nat.le_refl _) (by simp) ?_; (case hd => rfl); (case hg => rfl); (case hr => first | (go_simp; done) | (go_simp; rfl)); (case hp => exact (Reps.none _ _)); intro v302 w3 ho4 hb hg_ hnew_; clear hg_ hnew_; (first | rw [← Ny301.out] at ho4 | (simp only [Int.reduceToNat] at ho4; rw [← Ny301.out] at ho4)); have n0_ := ag13_ (Kd.R_lower ho4 (keep_size (w := w) (g := g) (row := none) w21g13_)); have n1_ := ag13_ (IsS200.below w22g13_ hb); have n2_ := ag13_ (KeepBut.trans w21g13_ (KeepBut.of_below hb g none) (.inl rfl)); have n3_ := ag13_ (below_step w25g13_ hb); clear HI0; clear HK; clear HB; have HO303 := n0_; have HI0 := n1_; have HK := n2_; have HB := n3_; clear n0_ n1_ n2_ n3_; clear hb ho4) | ((with_reducible refine gate_dst (N := 4) rfl ?_); refine be_ (N := 4) (cs := #[.int .i64 0, .int .i64 0, .int .i64 0, .int .i64 0]) (t := 68) ?_; intro gb304 hg w5 hbox hb; have n0_ := ag13_ (Kd.R_below (by (with_reducible repeat (first | apply Kd.R_alloc | apply Kd.R_drewN | apply Kd.R_drew)); exact HO303.out) hb); have n1_ := ag13_ (IsS200.below w22g13_ hb); have n2_ := ag13_ (KeepBut.trans w21g13_ (KeepBut.of_below hb g none) (.inl rfl)); have n3_ := ag13_ (below_step w25g13_ hb); have n4_ := ag13_ (hbox); have n5_ := ag13_ ((by rw [hg]; exact (keep_size (w := w) (g := g) (row := none) w21g13_) : w.heap.size ≤ gb304)); have n6_ := ag13_ ((Nat.le_trans HW0.out (by rw [hg]; exact (keep_size (w := w) (g := g) (row := none) w21g13_) : w.heap.size ≤ gb304) : w0.heap.size ≤ gb304)); have n7_ := ag13_ ((by rw [hg]; exact Nat.ne_of_lt (IsS200.lt (show IsS200 w0 _ g s0_0 s0_1 s0_2 from w22g13_)) : g ≠ gb304)); have n8_ := ag13_ ((by rw [hg]; exact Nat.ne_of_gt (IsS200.lt (show IsS200 w0 _ g s0_0 s0_1 s0_2 from w22g13_)) : gb304 ≠ g)); clear HO303; clear HI0; clear HK; clear HB; have HO303 := n0_; have HI0 := n1_; have HK := n2_; have HB := n3_; have BK304 := n4_; have GW304 := n5_; have GE304 := n6_; have NB0_304 := n7_; have NB304_0 := n8_; clear n0_ n1_ n2_ n3_ n4_ n5_ n6_ n7_ n8_; clear hb hbox hg; have hnb6 := NB304_0.out; have hnc6 := NB0_304.out; obtain ⟨hcz7_0, hcz7_1, hcz7_2, hcz7_3⟩ := blk4 BK304.out; obtain ⟨hfz7_0, hfz7_1, hfz7_2, hfz7_3⟩ := frz4 BK304.out) | ((with_reducible refine gate_callee (f := 102) rfl ?_); refine goesL_ (some 13) rfl rfl Tryd.func102 (by kernel_rfl) rfl #[.pointer (some ⟨g, 0, none⟩), .int .i64 14] rfl w11g13_ ?_; (with_reducible refine (spec_l01Next.calls g s0_0 s0_1 s0_2 14 t305 t306 t307 w0 _ ?side1 ?side2 A2.out).mono ?_); (case side1 => exact w1g13_); (case side2 => exact w4g13_); rintro e w8 ⟨rfl, hi, hb, hk⟩; refine ⟨_, rfl, ?_⟩; replace HO303 := ag13_ (Kd.R_mono (Kd.R_keep (IsS200.apart (show IsS200 w0 _ g s0_0 s0_1 s0_2 from w1g13_) (by (with_reducible repeat (first | apply Kd.R_alloc | apply Kd.R_drewN | apply Kd.R_drew)); exact (Kd.R_mono (Kd.R_far (p := ⟨gb304, 3, none⟩) (Kd.R_far (p := ⟨gb304, 2, none⟩) (Kd.R_far (p := ⟨gb304, 1, none⟩) (Kd.R_far (p := ⟨gb304, 0, none⟩) (Kd.R_types HO303.out BK304.out (by decide)) (fun _ hk => hk.2) (.int .i64 0)) (fun _ hk => hk.2) (.int .i64 0)) (fun _ hk => hk.2) (.int .i64 0)) (fun _ hk => hk.2) (.int .i64 0)) (fun _ h_ => h_.1))) (by decide)) hk (fun _ h => h.2)) (fun _ h => h.1)); replace HK := ag13_ (KeepBut.trans w2g13_ hk (.inl rfl)); replace HB := ag13_ (hb); replace BK304 := ag13_ (KeepBut.blk hk (g' := gb304) (o := .cells #[.int .i64 0, .int .i64 0, .int .i64 0, .int .i64 0] 68 (0, 0)) (by (with_reducible repeat (first | refine blk_drewN ?_ _ | refine blk_drew ?_ | refine blk_alloc ?_ _)); refine blk_put (cs := #[.int .i64 0, .int .i64 0, .int .i64 0, .int .i64 0]) ?_ 3 _ rfl; (with_reducible repeat (first | refine blk_drewN ?_ _ | refine blk_drew ?_ | refine blk_alloc ?_ _)); refine blk_put (cs := #[.int .i64 0, .int .i64 0, .int .i64 0, .int .i64 0]) ?_ 2 _ rfl; (with_reducible repeat (first | refine blk_drewN ?_ _ | refine blk_drew ?_ | refine blk_alloc ?_ _)); refine blk_put (cs := #[.int .i64 0, .int .i64 0, .int .i64 0, .int .i64 0]) ?_ 1 _ rfl; (with_reducible repeat (first | refine blk_drewN ?_ _ | refine blk_drew ?_ | refine blk_alloc ?_ _)); refine blk_put (cs := #[.int .i64 0, .int .i64 0, .int .i64 0, .int .i64 0]) ?_ 0 _ rfl; (with_reducible repeat (first | refine blk_drewN ?_ _ | refine blk_drew ?_ | refine blk_alloc ?_ _)); exact BK304.out) NB304_0.out (by simp)); replace HI0 := ag13_ (hi); clear hb hk hi))
 go_loopg [3, 5] k (fun kq v3 v5 w' => ∃ (x3_1 : List (S70)) (x5_1 : Int) (x1001_1 : Int) (x1002_1 : Int) (x305000_1 : Int) (x305001_1 : Int) (x305002_1 : Int) (x305003_1 : Int), v5 = .int .i64 x5_1 ∧ Aside0 (spec_l29Draw.l0 kq x3_1 x5_1 s0_0 x1001_1 x1002_1 x305000_1 x305001_1 x305002_1 x305003_1 = some (r1, r2, r3)) ∧ Aside0 (kq ≤ k) ∧ Aside0 (Kd.R k70 70 w' w.heap.size (fun _ => True) v3 x3_1) ∧ Aside0 (w'.heap[gb304]? = some (.cells #[.int .i64 x305000_1, .int .i64 x305001_1, .int .i64 x305002_1, .int .i64 x305003_1] 68 (0, 0))) ∧ Aside0 (IsS200 w0 w' g s0_0 x1001_1 x1002_1) ∧ Aside0 (KeepBut w w' g none) ∧ Aside0 (Below w0.heap.size w0 w'))
 case atStart => exact ⟨(y301), (t305), (t306), (t307), (0), (0), (0), (0), w24g13_, H', ⟨Nat.le_refl _⟩, ⟨(by (with_reducible repeat (first | apply Kd.R_alloc | apply Kd.R_drewN | apply Kd.R_drew)); exact HO303.out)⟩, ⟨w3g13_⟩, ⟨w1g13_⟩, ⟨w2g13_⟩, ⟨w4g13_⟩⟩
 case round =>
  clear H'
  try clear hcz7_0
  try clear hcz7_1
  try clear hcz7_2
  try clear hcz7_3
  try clear hfz7_0
  try clear hfz7_1
  try clear hfz7_2
  try clear hfz7_3
  obtain ⟨x3_1, x5_1, x1001_1, x1002_1, x305000_1, x305001_1, x305002_1, x305003_1, rfl, HA, HK1, HO_3, BK304, HI0, HK, HB⟩ := hrel
  cases gk with
  | zero => exact absurd HA.out (by simp [spec_l29Draw.l0])
  | succ k1 =>
   have H := HA.out; clear HA
   simp only [spec_l29Draw.l0] at H
   by_cases c9 : x5_1 > 0
   ·
    rw [if_pos c9] at H
    have c9b0 : decide (0 < x5_1) = true := decide_eq_true c9; clear c9
    replace H := Option.bind_eq_some_iff.mp H
    obtain ⟨⟨t308, t309, t310, t311⟩, A100, H⟩ := H
    try dsimp only at H
    have A10 := ag13_ A100; clear A100
    replace H := Option.bind_eq_some_iff.mp H
    obtain ⟨⟨t313, t314, t315, t316, t317⟩, A110, H⟩ := H
    try dsimp only at H
    have A11 := ag13_ A110; clear A110
    by_cases c12 : t317 = true
    ·
     subst c12
     rw [if_pos rfl] at H
     by_cases c13 : x3_1.length < 8796093022208
     ·
      rw [if_pos c13] at H
      have LMc13 := ag13_ c13; clear c13; obtain ⟨y319, hy319⟩ : ∃ y_ : List (S70), y_ = (x3_1 ++ [(⟨t308, t309⟩ : S70)]) := ⟨_, rfl⟩
      replace H : (spec_l29Draw.l0 k1 y319 (wrap64 (x5_1 - 1)) s0_0 t310 t311 t313 t314 t315 t316) = some (r1, r2, r3) := by first | (rw [hy319]; with_reducible exact H) | (have H2_ := (Option.bind_some _ _).symm.trans H; rw [hy319]; with_reducible exact H2_) | (have H2_ := (Option.bind_some _ _).symm.trans H; with_reducible exact H2_) | with_reducible exact H | (rw [hy319]; exact H) | exact H
      have Ny319 := ag13_ hy319; clear hy319; have H' := ag13_ H; clear H; have hnb14 := NB304_0.out; have hnc14 := NB0_304.out; obtain ⟨hcz15_0, hcz15_1, hcz15_2, hcz15_3⟩ := blk4 BK304.out; obtain ⟨hfz15_0, hfz15_1, hfz15_2, hfz15_3⟩ := frz4 BK304.out
      go_wp2_with (first | ((with_reducible refine gate_callee (f := 104) rfl ?_); refine goesL_ (some 20) rfl rfl Tryd.func104 (by kernel_rfl) rfl #[.pointer (some ⟨g, 0, none⟩), .agg #[.int .i64 x305000_1, .int .i64 x305001_1, .int .i64 x305002_1, .int .i64 x305003_1]] rfl w11g13_ ?_; (with_reducible refine (spec_l29DrawEntry.calls k1 g s0_0 x1001_1 x1002_1 x305000_1 x305001_1 x305002_1 x305003_1 t308 t309 t310 t311 w0 _ ?side1 ?side2 A10.out).mono ?_); (case side1 => exact w1g13_); (case side2 => exact w4g13_); rintro e w16 ⟨rfl, hi, hb, hk⟩; refine ⟨_, rfl, ?_⟩; replace HO_3 := ag13_ (Kd.R_mono (Kd.R_keep (IsS200.apart (show IsS200 w0 _ g s0_0 x1001_1 x1002_1 from w1g13_) w10g13_ (by decide)) hk (fun _ h => h.2)) (fun _ h => h.1)); replace BK304 := ag13_ (KeepBut.blk hk (g' := gb304) (o := .cells #[.int .i64 x305000_1, .int .i64 x305001_1, .int .i64 x305002_1, .int .i64 x305003_1] 68 (0, 0)) w3g13_ NB304_0.out (by simp)); replace HK := ag13_ (KeepBut.trans w2g13_ hk (.inl rfl)); replace HB := ag13_ (hb); replace HI0 := ag13_ (hi); clear hb hk hi) | ((with_reducible refine gate_dst (N := 6) rfl ?_); refine be_ (N := 6) (cs := #[.int .i64 0, .int .i64 0]) (t := 70) ?_; intro gb312 hg w17 hbox hb; have BK312 := ag13_ (hbox); have GW312 := ag13_ ((by rw [hg]; exact (keep_size (w := w) (g := g) (row := none) w2g13_) : w.heap.size ≤ gb312)); have GE312 := ag13_ ((Nat.le_trans HW0.out (by rw [hg]; exact (keep_size (w := w) (g := g) (row := none) w2g13_) : w.heap.size ≤ gb312) : w0.heap.size ≤ gb312)); obtain ⟨NB304_312, NB312_304⟩ := nb2_ hg w3g13_; have NB0_312 := ag13_ ((by rw [hg]; exact Nat.ne_of_lt (IsS200.lt (show IsS200 w0 _ g s0_0 t310 t311 from w1g13_)) : g ≠ gb312)); have NB312_0 := ag13_ ((by rw [hg]; exact Nat.ne_of_gt (IsS200.lt (show IsS200 w0 _ g s0_0 t310 t311 from w1g13_)) : gb312 ≠ g)); replace HO_3 := ag13_ (Kd.R_below (Kd.R_elderB w10g13_ gb312 (Nat.le_of_eq hg.symm)) hb); replace BK304 := ag13_ (blk_below w3g13_ hb); replace HK := ag13_ (KeepBut.trans w2g13_ (KeepBut.of_below hb g none) (.inl rfl)); replace HB := ag13_ (below_step w4g13_ hb); replace HI0 := ag13_ (IsS200.below w1g13_ hb); clear hb hbox hg; have hnb18 := NB312_304.out; have hnc18 := NB304_312.out; have hnb19 := NB312_0.out; have hnc19 := NB0_312.out; obtain ⟨hcz20_0, hcz20_1⟩ := blk2 BK312.out; obtain ⟨hfz20_0, hfz20_1⟩ := frz2 BK312.out; obtain ⟨hcz21_0, hcz21_1, hcz21_2, hcz21_3⟩ := blk4 BK304.out; obtain ⟨hfz21_0, hfz21_1, hfz21_2, hfz21_3⟩ := frz4 BK304.out) | ((with_reducible refine gate_callee (f := 106) rfl ?_); refine goesL_ (some 24) rfl rfl Tryd.func106 (by kernel_rfl) rfl #[.agg #[.int .i64 x305000_1, .int .i64 x305001_1, .int .i64 x305002_1, .int .i64 x305003_1], .agg #[.int .i64 t308, .int .i64 t309]] rfl w11g13_ ?_; (with_reducible refine (spec_l29Make.calls x305000_1 x305001_1 x305002_1 x305003_1 t308 t309 t313 t314 t315 t316 true _ A11.out).mono ?_); rintro e w22 ⟨rfl, hb⟩; refine ⟨_, rfl, ?_⟩; replace HO_3 := ag13_ (Kd.R_below w20g13_ hb); replace BK304 := ag13_ (blk_below (g := gb304) (o := .cells #[.int .i64 x305000_1, .int .i64 x305001_1, .int .i64 x305002_1, .int .i64 x305003_1] 68 (0, 0)) w17g13_ hb); replace BK312 := ag13_ (blk_below (g := gb312) (o := .cells #[.int .i64 t308, .int .i64 t309] 70 (0, 0)) w16g13_ hb); replace HK := ag13_ (KeepBut.trans w6g13_ (KeepBut.of_below hb g none) (.inl rfl)); replace HB := ag13_ (below_step w13g13_ hb); replace HI0 := ag13_ (IsS200.below (show IsS200 w0 ((w17.setCell ⟨gb312, 0, none⟩ (.int .i64 t308)).setCell ⟨gb312, 1, none⟩ (.int .i64 t309)) g s0_0 t310 t311 from w5g13_) hb); clear hb) | ((with_reducible refine gate_dst (N := 7) rfl ?_); refine be_ (N := 7) (cs := #[.int .i64 0, .int .i64 0, .int .i64 0, .int .i64 0]) (t := 68) ?_; intro gb318 hg w23 hbox hb; have BK318 := ag13_ (hbox); have GW318 := ag13_ ((by rw [hg]; exact (keep_size (w := w) (g := g) (row := none) w6g13_) : w.heap.size ≤ gb318)); have GE318 := ag13_ ((Nat.le_trans HW0.out (by rw [hg]; exact (keep_size (w := w) (g := g) (row := none) w6g13_) : w.heap.size ≤ gb318) : w0.heap.size ≤ gb318)); obtain ⟨NB304_318, NB318_304⟩ := nb2_ hg w3g13_; obtain ⟨NB312_318, NB318_312⟩ := nb2_ hg w14g13_; have NB0_318 := ag13_ ((by rw [hg]; exact Nat.ne_of_lt (IsS200.lt (show IsS200 w0 _ g s0_0 t310 t311 from w5g13_)) : g ≠ gb318)); have NB318_0 := ag13_ ((by rw [hg]; exact Nat.ne_of_gt (IsS200.lt (show IsS200 w0 _ g s0_0 t310 t311 from w5g13_)) : gb318 ≠ g)); replace HO_3 := ag13_ (Kd.R_below w10g13_ hb); replace BK304 := ag13_ (blk_below w3g13_ hb); replace BK312 := ag13_ (blk_below w14g13_ hb); replace HK := ag13_ (KeepBut.trans w6g13_ (KeepBut.of_below hb g none) (.inl rfl)); replace HB := ag13_ (below_step w13g13_ hb); replace HI0 := ag13_ (IsS200.below w5g13_ hb); clear hb hbox hg; have hnb24 := NB318_304.out; have hnc24 := NB304_318.out; have hnb25 := NB318_312.out; have hnc25 := NB312_318.out; have hnb26 := NB318_0.out; have hnc26 := NB0_318.out; obtain ⟨hcz27_0, hcz27_1, hcz27_2, hcz27_3⟩ := blk4 BK318.out; obtain ⟨hfz27_0, hfz27_1, hfz27_2, hfz27_3⟩ := frz4 BK318.out; obtain ⟨hcz28_0, hcz28_1, hcz28_2, hcz28_3⟩ := blk4 BK304.out; obtain ⟨hfz28_0, hfz28_1, hfz28_2, hfz28_3⟩ := frz4 BK304.out; obtain ⟨hcz29_0, hcz29_1⟩ := blk2 BK312.out; obtain ⟨hfz29_0, hfz29_1⟩ := frz2 BK312.out) | ((with_reducible refine gate_builtin (b := .append) (xs := #[.tmp 32, .tmp 34]) rfl ?_); at_builtin; refine Kd.R_append k70 w.heap.size rfl (.tmp 32) (.tmp 34) 22 70 (.agg #[(.int .i64 0), (.int .i64 0)]) 16 rfl Tryd.underlying22 info70 rfl (by decide) (by omega) u3 x3_1 (⟨t308, t309⟩ : S70) [.int .i64 t308, .int .i64 t309] (fun k_ => k_ ≠ gb312) (fun _ => False) rfl (by first | (go_simp; done) | (go_simp; rfl)) ?aP (fun _ hk => hk.elim) ?aF ?aO (Below.refl _ _) ?aS ?aL ?_; (case aP => exact k70_mkM _ _ _ (⟨t308, t309⟩ : S70)); (case aF => exact (fun k_ hk => Kd.freshB (g := gb312) (o := .cells #[.int .i64 t308, .int .i64 t309] 70 (0, 0)) w12g13_ k_ hk)); (case aO => exact (by (with_reducible repeat (first | apply Kd.R_alloc | apply Kd.R_drewN | apply Kd.R_drew)); exact Kd.R_mono (Kd.R_far (p := ⟨gb304, 3, none⟩) (Kd.R_far (p := ⟨gb304, 2, none⟩) (Kd.R_far (p := ⟨gb304, 1, none⟩) (Kd.R_far (p := ⟨gb304, 0, none⟩) (Kd.R_far (p := ⟨gb318, 3, none⟩) (Kd.R_far (p := ⟨gb318, 2, none⟩) (Kd.R_far (p := ⟨gb318, 1, none⟩) (Kd.R_far (p := ⟨gb318, 0, none⟩) (Kd.R_types (Kd.R_types HO_3.out BK318.out (by decide)) BK304.out (by decide)) (fun _ hk => hk.1.2) (.int .i64 t313)) (fun _ hk => hk.1.2) (.int .i64 t314)) (fun _ hk => hk.1.2) (.int .i64 t315)) (fun _ hk => hk.1.2) (.int .i64 t316)) (fun _ hk => hk.2) (.int .i64 t313)) (fun _ hk => hk.2) (.int .i64 t314)) (fun _ hk => hk.2) (.int .i64 t315)) (fun _ hk => hk.2) (.int .i64 t316)) (fun _ hk => hk.1.1.2))); (case aS => exact (keep_size (w := w) (g := g) (row := none) w8g13_)); (case aL => have := LMc13.out; omega); intro v320 w30 ho hb hg hat; rw [← Ny319.out] at ho; have n0_ := ag13_ (blk_grown (g := gb304) (o := .cells #[.int .i64 t313, .int .i64 t314, .int .i64 t315, .int .i64 t316] 68 (0, 0)) (by (with_reducible repeat (first | refine blk_drewN ?_ _ | refine blk_drew ?_ | refine blk_alloc ?_ _)); refine blk_put (cs := #[.int .i64 t313, .int .i64 t314, .int .i64 t315, .int .i64 x305003_1]) ?_ 3 _ rfl; (with_reducible repeat (first | refine blk_drewN ?_ _ | refine blk_drew ?_ | refine blk_alloc ?_ _)); refine blk_put (cs := #[.int .i64 t313, .int .i64 t314, .int .i64 x305002_1, .int .i64 x305003_1]) ?_ 2 _ rfl; (with_reducible repeat (first | refine blk_drewN ?_ _ | refine blk_drew ?_ | refine blk_alloc ?_ _)); refine blk_put (cs := #[.int .i64 t313, .int .i64 x305001_1, .int .i64 x305002_1, .int .i64 x305003_1]) ?_ 1 _ rfl; (with_reducible repeat (first | refine blk_drewN ?_ _ | refine blk_drew ?_ | refine blk_alloc ?_ _)); refine blk_put (cs := #[.int .i64 x305000_1, .int .i64 x305001_1, .int .i64 x305002_1, .int .i64 x305003_1]) ?_ 0 _ rfl; (with_reducible repeat (first | refine blk_far ?_ NB304_318.out _ | refine blk_drewN ?_ _ | refine blk_drew ?_ | refine blk_alloc ?_ _)); exact BK304.out) hg (Kd.R_ne HO_3.out BK304.out (by decide))); have n1_ := ag13_ (IsS200.grown (show IsS200 w0 _ g s0_0 t310 t311 from w7g13_) hg (IsS200.own_ne HI0.out HO_3.out (by decide))); have n2_ := ag13_ (blk_grown (g := gb312) (o := .cells #[.int .i64 t308, .int .i64 t309] 70 (0, 0)) w12g13_ hg (Kd.R_away HO_3.out (fun _ hk => hk.2))); have n3_ := ag13_ (blk_grown (g := gb318) (o := .cells #[.int .i64 t313, .int .i64 t314, .int .i64 t315, .int .i64 t316] 68 (0, 0)) (by (with_reducible repeat (first | refine blk_far ?_ NB318_304.out _ | refine blk_drewN ?_ _ | refine blk_drew ?_ | refine blk_alloc ?_ _)); refine blk_put (cs := #[.int .i64 t313, .int .i64 t314, .int .i64 t315, .int .i64 0]) ?_ 3 _ rfl; (with_reducible repeat (first | refine blk_drewN ?_ _ | refine blk_drew ?_ | refine blk_alloc ?_ _)); refine blk_put (cs := #[.int .i64 t313, .int .i64 t314, .int .i64 0, .int .i64 0]) ?_ 2 _ rfl; (with_reducible repeat (first | refine blk_drewN ?_ _ | refine blk_drew ?_ | refine blk_alloc ?_ _)); refine blk_put (cs := #[.int .i64 t313, .int .i64 0, .int .i64 0, .int .i64 0]) ?_ 1 _ rfl; (with_reducible repeat (first | refine blk_drewN ?_ _ | refine blk_drew ?_ | refine blk_alloc ?_ _)); refine blk_put (cs := #[.int .i64 0, .int .i64 0, .int .i64 0, .int .i64 0]) ?_ 0 _ rfl; (with_reducible repeat (first | refine blk_drewN ?_ _ | refine blk_drew ?_ | refine blk_alloc ?_ _)); exact BK318.out) hg (Kd.R_ne HO_3.out BK318.out (by decide))); have n4_ := ag13_ (below_weaken w9g13_ HL.out hb); have n5_ := ag13_ (KeepBut.trans w8g13_ (KeepBut.of_grown hg g) (Kd.R_base2 HO_3.out)); have n6_ := ag13_ (ho); clear BK304; clear HI0; clear BK312; clear BK318; clear HB; clear HK; clear HO_3; have BK304 := n0_; have HI0 := n1_; have BK312 := n2_; have BK318 := n3_; have HB := n4_; have HK := n5_; have HO321 := n6_; clear n0_ n1_ n2_ n3_ n4_ n5_ n6_; clear ho hb hg hat))
      go_roundg k1
      case measure => have := HK1.out; omega
      case rel => exact ⟨(y319), (wrap64 (x5_1 - 1)), (t310), (t311), (t313), (t314), (t315), (t316), w24g13_, H', ⟨(by have := HK1.out; omega)⟩, ⟨(by (with_reducible repeat (first | apply Kd.R_alloc | apply Kd.R_drewN | apply Kd.R_drew)); exact Kd.R_mono HO321.out (fun _ hk => trivial))⟩, ⟨w3g13_⟩, ⟨w7g13_⟩, ⟨w8g13_⟩, ⟨w9g13_⟩⟩
     ·
      rw [if_neg c13] at H
      exact absurd H (by simp)
    ·
     replace c12 := Bool.eq_false_iff.mpr c12
     subst c12
     rw [if_neg (show ¬ (false = true) by decide)] at H
     replace H := Option.bind_eq_some_iff.mp H
     obtain ⟨⟨t322, t323, t324⟩, A310, H⟩ := H
     try dsimp only at H
     have A31 := ag13_ A310; clear A310
     by_cases c32 : t322 > 0
     ·
      rw [if_pos c32] at H
      have c32b0 : decide (0 < t322) = true := decide_eq_true c32; clear c32; have H' := ag13_ H; clear H; have hnb33 := NB304_0.out; have hnc33 := NB0_304.out; obtain ⟨hcz34_0, hcz34_1, hcz34_2, hcz34_3⟩ := blk4 BK304.out; obtain ⟨hfz34_0, hfz34_1, hfz34_2, hfz34_3⟩ := frz4 BK304.out
      go_wp2_with (first | ((with_reducible refine gate_callee (f := 104) rfl ?_); refine goesL_ (some 20) rfl rfl Tryd.func104 (by kernel_rfl) rfl #[.pointer (some ⟨g, 0, none⟩), .agg #[.int .i64 x305000_1, .int .i64 x305001_1, .int .i64 x305002_1, .int .i64 x305003_1]] rfl w11g13_ ?_; (with_reducible refine (spec_l29DrawEntry.calls k1 g s0_0 x1001_1 x1002_1 x305000_1 x305001_1 x305002_1 x305003_1 t308 t309 t310 t311 w0 _ ?side1 ?side2 A10.out).mono ?_); (case side1 => exact w1g13_); (case side2 => exact w4g13_); rintro e w35 ⟨rfl, hi, hb, hk⟩; refine ⟨_, rfl, ?_⟩; replace HO_3 := ag13_ (Kd.R_mono (Kd.R_keep (IsS200.apart (show IsS200 w0 _ g s0_0 x1001_1 x1002_1 from w1g13_) w10g13_ (by decide)) hk (fun _ h => h.2)) (fun _ h => h.1)); replace BK304 := ag13_ (KeepBut.blk hk (g' := gb304) (o := .cells #[.int .i64 x305000_1, .int .i64 x305001_1, .int .i64 x305002_1, .int .i64 x305003_1] 68 (0, 0)) w3g13_ NB304_0.out (by simp)); replace HK := ag13_ (KeepBut.trans w2g13_ hk (.inl rfl)); replace HB := ag13_ (hb); replace HI0 := ag13_ (hi); clear hb hk hi) | ((with_reducible refine gate_dst (N := 6) rfl ?_); refine be_ (N := 6) (cs := #[.int .i64 0, .int .i64 0]) (t := 70) ?_; intro gb312 hg w36 hbox hb; have BK312 := ag13_ (hbox); have GW312 := ag13_ ((by rw [hg]; exact (keep_size (w := w) (g := g) (row := none) w2g13_) : w.heap.size ≤ gb312)); have GE312 := ag13_ ((Nat.le_trans HW0.out (by rw [hg]; exact (keep_size (w := w) (g := g) (row := none) w2g13_) : w.heap.size ≤ gb312) : w0.heap.size ≤ gb312)); obtain ⟨NB304_312, NB312_304⟩ := nb2_ hg w3g13_; have NB0_312 := ag13_ ((by rw [hg]; exact Nat.ne_of_lt (IsS200.lt (show IsS200 w0 _ g s0_0 t310 t311 from w1g13_)) : g ≠ gb312)); have NB312_0 := ag13_ ((by rw [hg]; exact Nat.ne_of_gt (IsS200.lt (show IsS200 w0 _ g s0_0 t310 t311 from w1g13_)) : gb312 ≠ g)); replace HO_3 := ag13_ (Kd.R_below (Kd.R_elderB w10g13_ gb312 (Nat.le_of_eq hg.symm)) hb); replace BK304 := ag13_ (blk_below w3g13_ hb); replace HK := ag13_ (KeepBut.trans w2g13_ (KeepBut.of_below hb g none) (.inl rfl)); replace HB := ag13_ (below_step w4g13_ hb); replace HI0 := ag13_ (IsS200.below w1g13_ hb); clear hb hbox hg; have hnb37 := NB312_304.out; have hnc37 := NB304_312.out; have hnb38 := NB312_0.out; have hnc38 := NB0_312.out; obtain ⟨hcz39_0, hcz39_1⟩ := blk2 BK312.out; obtain ⟨hfz39_0, hfz39_1⟩ := frz2 BK312.out; obtain ⟨hcz40_0, hcz40_1, hcz40_2, hcz40_3⟩ := blk4 BK304.out; obtain ⟨hfz40_0, hfz40_1, hfz40_2, hfz40_3⟩ := frz4 BK304.out) | ((with_reducible refine gate_callee (f := 106) rfl ?_); refine goesL_ (some 24) rfl rfl Tryd.func106 (by kernel_rfl) rfl #[.agg #[.int .i64 x305000_1, .int .i64 x305001_1, .int .i64 x305002_1, .int .i64 x305003_1], .agg #[.int .i64 t308, .int .i64 t309]] rfl w11g13_ ?_; (with_reducible refine (spec_l29Make.calls x305000_1 x305001_1 x305002_1 x305003_1 t308 t309 t313 t314 t315 t316 false _ A11.out).mono ?_); rintro e w41 ⟨rfl, hb⟩; refine ⟨_, rfl, ?_⟩; replace HO_3 := ag13_ (Kd.R_below w20g13_ hb); replace BK304 := ag13_ (blk_below (g := gb304) (o := .cells #[.int .i64 x305000_1, .int .i64 x305001_1, .int .i64 x305002_1, .int .i64 x305003_1] 68 (0, 0)) w17g13_ hb); replace BK312 := ag13_ (blk_below (g := gb312) (o := .cells #[.int .i64 t308, .int .i64 t309] 70 (0, 0)) w16g13_ hb); replace HK := ag13_ (KeepBut.trans w6g13_ (KeepBut.of_below hb g none) (.inl rfl)); replace HB := ag13_ (below_step w13g13_ hb); replace HI0 := ag13_ (IsS200.below (show IsS200 w0 ((w36.setCell ⟨gb312, 0, none⟩ (.int .i64 t308)).setCell ⟨gb312, 1, none⟩ (.int .i64 t309)) g s0_0 t310 t311 from w5g13_) hb); clear hb) | ((with_reducible refine gate_dst (N := 7) rfl ?_); refine be_ (N := 7) (cs := #[.int .i64 0, .int .i64 0, .int .i64 0, .int .i64 0]) (t := 68) ?_; intro gb318 hg w42 hbox hb; have BK318 := ag13_ (hbox); have GW318 := ag13_ ((by rw [hg]; exact (keep_size (w := w) (g := g) (row := none) w6g13_) : w.heap.size ≤ gb318)); have GE318 := ag13_ ((Nat.le_trans HW0.out (by rw [hg]; exact (keep_size (w := w) (g := g) (row := none) w6g13_) : w.heap.size ≤ gb318) : w0.heap.size ≤ gb318)); obtain ⟨NB304_318, NB318_304⟩ := nb2_ hg w3g13_; obtain ⟨NB312_318, NB318_312⟩ := nb2_ hg w14g13_; have NB0_318 := ag13_ ((by rw [hg]; exact Nat.ne_of_lt (IsS200.lt (show IsS200 w0 _ g s0_0 t310 t311 from w5g13_)) : g ≠ gb318)); have NB318_0 := ag13_ ((by rw [hg]; exact Nat.ne_of_gt (IsS200.lt (show IsS200 w0 _ g s0_0 t310 t311 from w5g13_)) : gb318 ≠ g)); replace HO_3 := ag13_ (Kd.R_below w10g13_ hb); replace BK304 := ag13_ (blk_below w3g13_ hb); replace BK312 := ag13_ (blk_below w14g13_ hb); replace HK := ag13_ (KeepBut.trans w6g13_ (KeepBut.of_below hb g none) (.inl rfl)); replace HB := ag13_ (below_step w13g13_ hb); replace HI0 := ag13_ (IsS200.below w5g13_ hb); clear hb hbox hg; have hnb43 := NB318_304.out; have hnc43 := NB304_318.out; have hnb44 := NB318_312.out; have hnc44 := NB312_318.out; have hnb45 := NB318_0.out; have hnc45 := NB0_318.out; obtain ⟨hcz46_0, hcz46_1, hcz46_2, hcz46_3⟩ := blk4 BK318.out; obtain ⟨hfz46_0, hfz46_1, hfz46_2, hfz46_3⟩ := frz4 BK318.out) | ((with_reducible refine gate_callee (f := 102) rfl ?_); refine goesL_ (some 30) rfl rfl Tryd.func102 (by kernel_rfl) rfl #[.pointer (some ⟨g, 0, none⟩), .int .i64 6] rfl w11g13_ ?_; (with_reducible refine (spec_l01Next.calls g s0_0 t310 t311 6 t322 t323 t324 w0 _ ?side1 ?side2 A31.out).mono ?_); (case side1 => exact w7g13_); (case side2 => exact w9g13_); rintro e w47 ⟨rfl, hi, hb, hk⟩; refine ⟨_, rfl, ?_⟩; replace HO_3 := ag13_ (Kd.R_mono (Kd.R_keep (IsS200.apart (show IsS200 w0 _ g s0_0 t310 t311 from w7g13_) w23g13_ (by decide)) hk (fun _ h => h.2)) (fun _ h => h.1)); replace BK304 := ag13_ (KeepBut.blk hk (g' := gb304) (o := .cells #[.int .i64 x305000_1, .int .i64 x305001_1, .int .i64 x305002_1, .int .i64 x305003_1] 68 (0, 0)) w18g13_ NB304_0.out (by simp)); replace BK312 := ag13_ (KeepBut.blk hk (g' := gb312) (o := .cells #[.int .i64 t308, .int .i64 t309] 70 (0, 0)) w19g13_ NB312_0.out (by simp)); replace HK := ag13_ (KeepBut.trans w8g13_ hk (.inl rfl)); replace HB := ag13_ (hb); replace BK318 := ag13_ (KeepBut.blk hk (g' := gb318) (o := .cells #[.int .i64 t313, .int .i64 t314, .int .i64 t315, .int .i64 t316] 68 (0, 0)) w15g13_ NB318_0.out (by simp)); replace HI0 := ag13_ (hi); clear hb hk hi))
      go_roundg k1
      case measure => have := HK1.out; omega
      case rel => exact ⟨(x3_1), (wrap64 (x5_1 - 1)), (t323), (t324), (x305000_1), (x305001_1), (x305002_1), (x305003_1), w24g13_, H', ⟨(by have := HK1.out; omega)⟩, ⟨(by (with_reducible repeat (first | apply Kd.R_alloc | apply Kd.R_drewN | apply Kd.R_drew)); exact Kd.R_mono HO_3.out (fun _ hk => trivial))⟩, ⟨w3g13_⟩, ⟨w7g13_⟩, ⟨w8g13_⟩, ⟨w9g13_⟩⟩
     ·
      rw [if_neg c32] at H
      have c32b0 : decide (0 < t322) = false := decide_eq_false c32; clear c32
      by_cases c48 : x3_1.length < 8796093022208
      ·
       rw [if_pos c48] at H
       have LMc48 := ag13_ c48; clear c48; obtain ⟨y325, hy325⟩ : ∃ y_ : List (S70), y_ = (x3_1 ++ [(⟨t308, t309⟩ : S70)]) := ⟨_, rfl⟩
       replace H : (spec_l29Draw.l0 k1 y325 (wrap64 (x5_1 - 1)) s0_0 t323 t324 x305000_1 x305001_1 x305002_1 x305003_1) = some (r1, r2, r3) := by first | (rw [hy325]; with_reducible exact H) | (have H2_ := (Option.bind_some _ _).symm.trans H; rw [hy325]; with_reducible exact H2_) | (have H2_ := (Option.bind_some _ _).symm.trans H; with_reducible exact H2_) | with_reducible exact H | (rw [hy325]; exact H) | exact H
       have Ny325 := ag13_ hy325; clear hy325; have H' := ag13_ H; clear H; have hnb49 := NB304_0.out; have hnc49 := NB0_304.out; obtain ⟨hcz50_0, hcz50_1, hcz50_2, hcz50_3⟩ := blk4 BK304.out; obtain ⟨hfz50_0, hfz50_1, hfz50_2, hfz50_3⟩ := frz4 BK304.out
       go_wp2_with (first | ((with_reducible refine gate_callee (f := 104) rfl ?_); refine goesL_ (some 20) rfl rfl Tryd.func104 (by kernel_rfl) rfl #[.pointer (some ⟨g, 0, none⟩), .agg #[.int .i64 x305000_1, .int .i64 x305001_1, .int .i64 x305002_1, .int .i64 x305003_1]] rfl w11g13_ ?_; (with_reducible refine (spec_l29DrawEntry.calls k1 g s0_0 x1001_1 x1002_1 x305000_1 x305001_1 x305002_1 x305003_1 t308 t309 t310 t311 w0 _ ?side1 ?side2 A10.out).mono ?_); (case side1 => exact w1g13_); (case side2 => exact w4g13_); rintro e w51 ⟨rfl, hi, hb, hk⟩; refine ⟨_, rfl, ?_⟩; replace HO_3 := ag13_ (Kd.R_mono (Kd.R_keep (IsS200.apart (show IsS200 w0 _ g s0_0 x1001_1 x1002_1 from w1g13_) w10g13_ (by decide)) hk (fun _ h => h.2)) (fun _ h => h.1)); replace BK304 := ag13_ (KeepBut.blk hk (g' := gb304) (o := .cells #[.int .i64 x305000_1, .int .i64 x305001_1, .int .i64 x305002_1, .int .i64 x305003_1] 68 (0, 0)) w3g13_ NB304_0.out (by simp)); replace HK := ag13_ (KeepBut.trans w2g13_ hk (.inl rfl)); replace HB := ag13_ (hb); replace HI0 := ag13_ (hi); clear hb hk hi) | ((with_reducible refine gate_dst (N := 6) rfl ?_); refine be_ (N := 6) (cs := #[.int .i64 0, .int .i64 0]) (t := 70) ?_; intro gb312 hg w52 hbox hb; have BK312 := ag13_ (hbox); have GW312 := ag13_ ((by rw [hg]; exact (keep_size (w := w) (g := g) (row := none) w2g13_) : w.heap.size ≤ gb312)); have GE312 := ag13_ ((Nat.le_trans HW0.out (by rw [hg]; exact (keep_size (w := w) (g := g) (row := none) w2g13_) : w.heap.size ≤ gb312) : w0.heap.size ≤ gb312)); obtain ⟨NB304_312, NB312_304⟩ := nb2_ hg w3g13_; have NB0_312 := ag13_ ((by rw [hg]; exact Nat.ne_of_lt (IsS200.lt (show IsS200 w0 _ g s0_0 t310 t311 from w1g13_)) : g ≠ gb312)); have NB312_0 := ag13_ ((by rw [hg]; exact Nat.ne_of_gt (IsS200.lt (show IsS200 w0 _ g s0_0 t310 t311 from w1g13_)) : gb312 ≠ g)); replace HO_3 := ag13_ (Kd.R_below (Kd.R_elderB w10g13_ gb312 (Nat.le_of_eq hg.symm)) hb); replace BK304 := ag13_ (blk_below w3g13_ hb); replace HK := ag13_ (KeepBut.trans w2g13_ (KeepBut.of_below hb g none) (.inl rfl)); replace HB := ag13_ (below_step w4g13_ hb); replace HI0 := ag13_ (IsS200.below w1g13_ hb); clear hb hbox hg; have hnb53 := NB312_304.out; have hnc53 := NB304_312.out; have hnb54 := NB312_0.out; have hnc54 := NB0_312.out; obtain ⟨hcz55_0, hcz55_1⟩ := blk2 BK312.out; obtain ⟨hfz55_0, hfz55_1⟩ := frz2 BK312.out; obtain ⟨hcz56_0, hcz56_1, hcz56_2, hcz56_3⟩ := blk4 BK304.out; obtain ⟨hfz56_0, hfz56_1, hfz56_2, hfz56_3⟩ := frz4 BK304.out) | ((with_reducible refine gate_callee (f := 106) rfl ?_); refine goesL_ (some 24) rfl rfl Tryd.func106 (by kernel_rfl) rfl #[.agg #[.int .i64 x305000_1, .int .i64 x305001_1, .int .i64 x305002_1, .int .i64 x305003_1], .agg #[.int .i64 t308, .int .i64 t309]] rfl w11g13_ ?_; (with_reducible refine (spec_l29Make.calls x305000_1 x305001_1 x305002_1 x305003_1 t308 t309 t313 t314 t315 t316 false _ A11.out).mono ?_); rintro e w57 ⟨rfl, hb⟩; refine ⟨_, rfl, ?_⟩; replace HO_3 := ag13_ (Kd.R_below w20g13_ hb); replace BK304 := ag13_ (blk_below (g := gb304) (o := .cells #[.int .i64 x305000_1, .int .i64 x305001_1, .int .i64 x305002_1, .int .i64 x305003_1] 68 (0, 0)) w17g13_ hb); replace BK312 := ag13_ (blk_below (g := gb312) (o := .cells #[.int .i64 t308, .int .i64 t309] 70 (0, 0)) w16g13_ hb); replace HK := ag13_ (KeepBut.trans w6g13_ (KeepBut.of_below hb g none) (.inl rfl)); replace HB := ag13_ (below_step w13g13_ hb); replace HI0 := ag13_ (IsS200.below (show IsS200 w0 ((w52.setCell ⟨gb312, 0, none⟩ (.int .i64 t308)).setCell ⟨gb312, 1, none⟩ (.int .i64 t309)) g s0_0 t310 t311 from w5g13_) hb); clear hb) | ((with_reducible refine gate_dst (N := 7) rfl ?_); refine be_ (N := 7) (cs := #[.int .i64 0, .int .i64 0, .int .i64 0, .int .i64 0]) (t := 68) ?_; intro gb318 hg w58 hbox hb; have BK318 := ag13_ (hbox); have GW318 := ag13_ ((by rw [hg]; exact (keep_size (w := w) (g := g) (row := none) w6g13_) : w.heap.size ≤ gb318)); have GE318 := ag13_ ((Nat.le_trans HW0.out (by rw [hg]; exact (keep_size (w := w) (g := g) (row := none) w6g13_) : w.heap.size ≤ gb318) : w0.heap.size ≤ gb318)); obtain ⟨NB304_318, NB318_304⟩ := nb2_ hg w3g13_; obtain ⟨NB312_318, NB318_312⟩ := nb2_ hg w14g13_; have NB0_318 := ag13_ ((by rw [hg]; exact Nat.ne_of_lt (IsS200.lt (show IsS200 w0 _ g s0_0 t310 t311 from w5g13_)) : g ≠ gb318)); have NB318_0 := ag13_ ((by rw [hg]; exact Nat.ne_of_gt (IsS200.lt (show IsS200 w0 _ g s0_0 t310 t311 from w5g13_)) : gb318 ≠ g)); replace HO_3 := ag13_ (Kd.R_below w10g13_ hb); replace BK304 := ag13_ (blk_below w3g13_ hb); replace BK312 := ag13_ (blk_below w14g13_ hb); replace HK := ag13_ (KeepBut.trans w6g13_ (KeepBut.of_below hb g none) (.inl rfl)); replace HB := ag13_ (below_step w13g13_ hb); replace HI0 := ag13_ (IsS200.below w5g13_ hb); clear hb hbox hg; have hnb59 := NB318_304.out; have hnc59 := NB304_318.out; have hnb60 := NB318_312.out; have hnc60 := NB312_318.out; have hnb61 := NB318_0.out; have hnc61 := NB0_318.out; obtain ⟨hcz62_0, hcz62_1, hcz62_2, hcz62_3⟩ := blk4 BK318.out; obtain ⟨hfz62_0, hfz62_1, hfz62_2, hfz62_3⟩ := frz4 BK318.out) | ((with_reducible refine gate_callee (f := 102) rfl ?_); refine goesL_ (some 30) rfl rfl Tryd.func102 (by kernel_rfl) rfl #[.pointer (some ⟨g, 0, none⟩), .int .i64 6] rfl w11g13_ ?_; (with_reducible refine (spec_l01Next.calls g s0_0 t310 t311 6 t322 t323 t324 w0 _ ?side1 ?side2 A31.out).mono ?_); (case side1 => exact w7g13_); (case side2 => exact w9g13_); rintro e w63 ⟨rfl, hi, hb, hk⟩; refine ⟨_, rfl, ?_⟩; replace HO_3 := ag13_ (Kd.R_mono (Kd.R_keep (IsS200.apart (show IsS200 w0 _ g s0_0 t310 t311 from w7g13_) w23g13_ (by decide)) hk (fun _ h => h.2)) (fun _ h => h.1)); replace BK304 := ag13_ (KeepBut.blk hk (g' := gb304) (o := .cells #[.int .i64 x305000_1, .int .i64 x305001_1, .int .i64 x305002_1, .int .i64 x305003_1] 68 (0, 0)) w18g13_ NB304_0.out (by simp)); replace BK312 := ag13_ (KeepBut.blk hk (g' := gb312) (o := .cells #[.int .i64 t308, .int .i64 t309] 70 (0, 0)) w19g13_ NB312_0.out (by simp)); replace HK := ag13_ (KeepBut.trans w8g13_ hk (.inl rfl)); replace HB := ag13_ (hb); replace BK318 := ag13_ (KeepBut.blk hk (g' := gb318) (o := .cells #[.int .i64 t313, .int .i64 t314, .int .i64 t315, .int .i64 t316] 68 (0, 0)) w15g13_ NB318_0.out (by simp)); replace HI0 := ag13_ (hi); clear hb hk hi; obtain ⟨hcz64_0, hcz64_1⟩ := blk2 BK312.out; obtain ⟨hfz64_0, hfz64_1⟩ := frz2 BK312.out) | ((with_reducible refine gate_builtin (b := .append) (xs := #[.tmp 32, .tmp 34]) rfl ?_); at_builtin; refine Kd.R_append k70 w.heap.size rfl (.tmp 32) (.tmp 34) 22 70 (.agg #[(.int .i64 0), (.int .i64 0)]) 16 rfl Tryd.underlying22 info70 rfl (by decide) (by omega) u3 x3_1 (⟨t308, t309⟩ : S70) [.int .i64 t308, .int .i64 t309] (fun k_ => k_ ≠ gb312) (fun _ => False) rfl rfl ?aP (fun _ hk => hk.elim) ?aF ?aO (Below.refl _ _) ?aS ?aL ?_; (case aP => exact k70_mkM _ _ _ (⟨t308, t309⟩ : S70)); (case aF => exact (fun k_ hk => Kd.freshB (g := gb312) (o := .cells #[.int .i64 t308, .int .i64 t309] 70 (0, 0)) w14g13_ k_ hk)); (case aO => exact (by (with_reducible repeat (first | apply Kd.R_alloc | apply Kd.R_drewN | apply Kd.R_drew)); exact Kd.R_mono HO_3.out (fun _ hk => hk.2))); (case aS => exact (keep_size (w := w) (g := g) (row := none) w8g13_)); (case aL => have := LMc48.out; omega); intro v326 w65 ho hb hg hat; rw [← Ny325.out] at ho; have n0_ := ag13_ (blk_grown (g := gb304) (o := .cells #[.int .i64 x305000_1, .int .i64 x305001_1, .int .i64 x305002_1, .int .i64 x305003_1] 68 (0, 0)) w3g13_ hg (Kd.R_ne HO_3.out BK304.out (by decide))); have n1_ := ag13_ (IsS200.grown w7g13_ hg (IsS200.own_ne HI0.out HO_3.out (by decide))); have n2_ := ag13_ (blk_grown (g := gb312) (o := .cells #[.int .i64 t308, .int .i64 t309] 70 (0, 0)) w14g13_ hg (Kd.R_away HO_3.out (fun _ hk => hk.2))); have n3_ := ag13_ (blk_grown (g := gb318) (o := .cells #[.int .i64 t313, .int .i64 t314, .int .i64 t315, .int .i64 t316] 68 (0, 0)) (by (with_reducible repeat (first | refine blk_drewN ?_ _ | refine blk_drew ?_ | refine blk_alloc ?_ _)); exact BK318.out) hg (Kd.R_ne HO_3.out BK318.out (by decide))); have n4_ := ag13_ (below_weaken w9g13_ HL.out hb); have n5_ := ag13_ (KeepBut.trans w8g13_ (KeepBut.of_grown hg g) (Kd.R_base2 HO_3.out)); have n6_ := ag13_ (ho); clear BK304; clear HI0; clear BK312; clear BK318; clear HB; clear HK; clear HO_3; have BK304 := n0_; have HI0 := n1_; have BK312 := n2_; have BK318 := n3_; have HB := n4_; have HK := n5_; have HO327 := n6_; clear n0_ n1_ n2_ n3_ n4_ n5_ n6_; clear ho hb hg hat))
       go_roundg k1
       case measure => have := HK1.out; omega
       case rel => exact ⟨(y325), (wrap64 (x5_1 - 1)), (t323), (t324), (x305000_1), (x305001_1), (x305002_1), (x305003_1), w24g13_, H', ⟨(by have := HK1.out; omega)⟩, ⟨(by (with_reducible repeat (first | apply Kd.R_alloc | apply Kd.R_drewN | apply Kd.R_drew)); exact Kd.R_mono HO327.out (fun _ hk => trivial))⟩, ⟨w3g13_⟩, ⟨w7g13_⟩, ⟨w8g13_⟩, ⟨w9g13_⟩⟩
      ·
       rw [if_neg c48] at H
       exact absurd H (by simp)
   ·
    rw [if_neg c9] at H
    have c9b0 : decide (0 < x5_1) = false := decide_eq_false c9; clear c9
    replace H := Option.bind_eq_some_iff.mp H
    obtain ⟨⟨t328, t329, t330⟩, A660, H⟩ := H
    try dsimp only at H
    have A66 := ag13_ A660; clear A660
    by_cases c67 : t328 = 0
    ·
     rw [if_pos c67] at H
     have c67b0 : (t328 == 0) = true := beq_iff_eq.mpr c67; have c67b1 : (t328 != 0) = false := bne_eq_false_iff_eq.mpr c67; clear c67; obtain ⟨y331, hy331⟩ : ∃ y_ : List (S70), y_ = (([(⟨1, 1⟩ : S70)] : List (S70))) := ⟨_, rfl⟩
     replace H : ((spec_l01Next.f s0_0 t329 t330 2).bind fun bt334 => (spec_l29Draw.l1 k1 y331 (wrap64 (199 + bt334.1)) s0_0 bt334.2.1 bt334.2.2)) = some (r1, r2, r3) := by first | (rw [hy331]; with_reducible exact H) | (have H2_ := (Option.bind_some _ _).symm.trans H; rw [hy331]; with_reducible exact H2_) | (have H2_ := (Option.bind_some _ _).symm.trans H; with_reducible exact H2_) | with_reducible exact H | (rw [hy331]; exact H) | exact H
     have Ny331 := ag13_ hy331; clear hy331
     replace H := Option.bind_eq_some_iff.mp H
     obtain ⟨⟨t334, t335, t336⟩, A680, H⟩ := H
     try dsimp only at H
     have A68 := ag13_ A680; clear A680; have H' := ag13_ H; clear H
     go_wp2_with (first | ((with_reducible refine gate_callee (f := 102) rfl ?_); refine goesL_ (some 37) rfl rfl Tryd.func102 (by kernel_rfl) rfl #[.pointer (some ⟨g, 0, none⟩), .int .i64 50] rfl w11g13_ ?_; (with_reducible refine (spec_l01Next.calls g s0_0 x1001_1 x1002_1 50 t328 t329 t330 w0 _ ?side1 ?side2 A66.out).mono ?_); (case side1 => exact w1g13_); (case side2 => exact w4g13_); rintro e w69 ⟨rfl, hi, hb, hk⟩; refine ⟨_, rfl, ?_⟩; replace HO_3 := ag13_ (Kd.R_mono (Kd.R_keep (IsS200.apart (show IsS200 w0 _ g s0_0 x1001_1 x1002_1 from w1g13_) w10g13_ (by decide)) hk (fun _ h => h.2)) (fun _ h => h.1)); replace BK304 := ag13_ (KeepBut.blk hk (g' := gb304) (o := .cells #[.int .i64 x305000_1, .int .i64 x305001_1, .int .i64 x305002_1, .int .i64 x305003_1] 68 (0, 0)) w3g13_ NB304_0.out (by simp)); replace HK := ag13_ (KeepBut.trans w2g13_ hk (.inl rfl)); replace HB := ag13_ (hb); replace HI0 := ag13_ (hi); clear hb hk hi) | ((with_reducible refine gate_dst (N := 40) rfl ?_); refine Kd.R_lit k70 _ 70 ?hg (N := 40) ?hd (xs := ([(⟨1, 1⟩ : S70)] : List (S70))) (inner := [.int .i64 1, .int .i64 1]) (ok := fun _ => True) (okp := fun _ => True) ?hr ?hp (fun _ hk => hk) trivial (Below.refl _ _) (Nat.le_refl _) (by simp) ?_; (case hd => rfl); (case hg => rfl); (case hr => first | (go_simp; done) | (go_simp; rfl)); (case hp => exact (Reps.c2 (show Kd.M k70 _ _ _ (⟨1, 1⟩ : S70) [.int .i64 1, .int .i64 1] from (k70_mkM _ _ _ (⟨1, 1⟩ : S70) )) (Reps.none _ _))); intro v332 w70 ho71 hb hg_ hnew_; clear hg_ hnew_; (first | rw [← Ny331.out] at ho71 | (simp only [Int.reduceToNat] at ho71; rw [← Ny331.out] at ho71)); have HO333 := ag13_ (Kd.R_lower (Kd.R_new' ho71 (Kd.R_lt w10g13_)) (keep_size (w := w) (g := g) (row := none) w2g13_)); replace HO_3 := ag13_ (Kd.R_elder' w10g13_ (Kd.R_base ho71) hb); replace BK304 := ag13_ (blk_below w3g13_ hb); replace HK := ag13_ (KeepBut.trans w2g13_ (KeepBut.of_below hb g none) (.inl rfl)); replace HB := ag13_ (below_step w4g13_ hb); replace HI0 := ag13_ (IsS200.below w1g13_ hb); clear hb ho71) | ((with_reducible refine gate_callee (f := 102) rfl ?_); refine goesL_ (some 42) rfl rfl Tryd.func102 (by kernel_rfl) rfl #[.pointer (some ⟨g, 0, none⟩), .int .i64 2] rfl w11g13_ ?_; (with_reducible refine (spec_l01Next.calls g s0_0 t329 t330 2 t334 t335 t336 w0 _ ?side1 ?side2 A68.out).mono ?_); (case side1 => exact w1g13_); (case side2 => exact w4g13_); rintro e w72 ⟨rfl, hi, hb, hk⟩; refine ⟨_, rfl, ?_⟩; replace HO_3 := ag13_ (Kd.R_mono (Kd.R_keep (IsS200.apart (show IsS200 w0 _ g s0_0 t329 t330 from w1g13_) w10g13_ (by decide)) hk (fun _ h => h.2)) (fun _ h => h.1)); replace BK304 := ag13_ (KeepBut.blk hk (g' := gb304) (o := .cells #[.int .i64 x305000_1, .int .i64 x305001_1, .int .i64 x305002_1, .int .i64 x305003_1] 68 (0, 0)) w3g13_ NB304_0.out (by simp)); replace HO333 := ag13_ (Kd.R_mono (Kd.R_keep (IsS200.apart (show IsS200 w0 _ g s0_0 t329 t330 from w1g13_) (by (with_reducible repeat (first | apply Kd.R_alloc | apply Kd.R_drewN | apply Kd.R_drew)); exact HO333.out) (by decide)) hk (fun _ h => h.2)) (fun _ h => h.1)); replace HK := ag13_ (KeepBut.trans w2g13_ hk (.inl rfl)); replace HB := ag13_ (hb); replace HI0 := ag13_ (hi); clear hb hk hi))
     go_loopg [3, 9] k1 (fun kq v3 v9 w' => ∃ (x3_2 : List (S70)) (x9_2 : Int), v9 = .int .i64 x9_2 ∧ Aside0 (spec_l29Draw.l1 kq x3_2 x9_2 s0_0 t335 t336 = some (r1, r2, r3)) ∧ Aside0 (kq ≤ k1) ∧ Aside0 (Kd.R k70 70 w' w.heap.size (fun _ => True) v3 x3_2) ∧ Aside0 (w'.heap[gb304]? = some (.cells #[.int .i64 x305000_1, .int .i64 x305001_1, .int .i64 x305002_1, .int .i64 x305003_1] 68 (0, 0))) ∧ Aside0 (IsS200 w0 w' g s0_0 t335 t336) ∧ Aside0 (KeepBut w w' g none) ∧ Aside0 (Below w0.heap.size w0 w'))
     case atStart => exact ⟨(y331), (wrap64 (199 + t334)), w24g13_, H', ⟨Nat.le_refl _⟩, ⟨(by (with_reducible repeat (first | apply Kd.R_alloc | apply Kd.R_drewN | apply Kd.R_drew)); exact Kd.R_mono HO333.out (fun _ hk => trivial))⟩, ⟨w3g13_⟩, ⟨w1g13_⟩, ⟨w2g13_⟩, ⟨w4g13_⟩⟩
     case round =>
      clear H'
      try clear c2
      try clear c9
      try clear c9b0
      try clear c12
      try clear c13
      try clear c32
      try clear c32b0
      try clear c48
      try clear c67
      try clear c67b0
      try clear c67b1
      try clear hcz15_0
      try clear hcz15_1
      try clear hcz15_2
      try clear hcz15_3
      try clear hcz20_0
      try clear hcz20_1
      try clear hcz21_0
      try clear hcz21_1
      try clear hcz21_2
      try clear hcz21_3
      try clear hcz27_0
      try clear hcz27_1
      try clear hcz27_2
      try clear hcz27_3
      try clear hcz28_0
      try clear hcz28_1
      try clear hcz28_2
      try clear hcz28_3
      try clear hcz29_0
      try clear hcz29_1
      try clear hcz34_0
      try clear hcz34_1
      try clear hcz34_2
      try clear hcz34_3
      try clear hcz39_0
      try clear hcz39_1
      try clear hcz40_0
      try clear hcz40_1
      try clear hcz40_2
      try clear hcz40_3
      try clear hcz46_0
      try clear hcz46_1
      try clear hcz46_2
      try clear hcz46_3
      try clear hcz50_0
      try clear hcz50_1
      try clear hcz50_2
      try clear hcz50_3
      try clear hcz55_0
      try clear hcz55_1
      try clear hcz56_0
      try clear hcz56_1
      try clear hcz56_2
      try clear hcz56_3
      try clear hcz62_0
      try clear hcz62_1
      try clear hcz62_2
      try clear hcz62_3
      try clear hcz64_0
      try clear hcz64_1
      try clear hcz7_0
      try clear hcz7_1
      try clear hcz7_2
      try clear hcz7_3
      try clear hfz15_0
      try clear hfz15_1
      try clear hfz15_2
      try clear hfz15_3
      try clear hfz20_0
      try clear hfz20_1
      try clear hfz21_0
      try clear hfz21_1
      try clear hfz21_2
      try clear hfz21_3
      try clear hfz27_0
      try clear hfz27_1
      try clear hfz27_2
      try clear hfz27_3
      try clear hfz28_0
      try clear hfz28_1
      try clear hfz28_2
      try clear hfz28_3
      try clear hfz29_0
      try clear hfz29_1
      try clear hfz34_0
      try clear hfz34_1
      try clear hfz34_2
      try clear hfz34_3
      try clear hfz39_0
      try clear hfz39_1
      try clear hfz40_0
      try clear hfz40_1
      try clear hfz40_2
      try clear hfz40_3
      try clear hfz46_0
      try clear hfz46_1
      try clear hfz46_2
      try clear hfz46_3
      try clear hfz50_0
      try clear hfz50_1
      try clear hfz50_2
      try clear hfz50_3
      try clear hfz55_0
      try clear hfz55_1
      try clear hfz56_0
      try clear hfz56_1
      try clear hfz56_2
      try clear hfz56_3
      try clear hfz62_0
      try clear hfz62_1
      try clear hfz62_2
      try clear hfz62_3
      try clear hfz64_0
      try clear hfz64_1
      try clear hfz7_0
      try clear hfz7_1
      try clear hfz7_2
      try clear hfz7_3
      obtain ⟨x3_2, x9_2, rfl, HA, HK2, HO_3, BK304, HI0, HK, HB⟩ := hrel
      cases gk with
      | zero => exact absurd HA.out (by simp [spec_l29Draw.l1])
      | succ k2 =>
       have H := HA.out; clear HA
       simp only [spec_l29Draw.l1] at H
       by_cases c73 : x9_2 > 0
       ·
        rw [if_pos c73] at H
        have c73b0 : decide (0 < x9_2) = true := decide_eq_true c73; clear c73
        by_cases c74 : x3_2.length < 8796093022208
        ·
         rw [if_pos c74] at H
         have LMc74 := ag13_ c74; clear c74; obtain ⟨y337, hy337⟩ : ∃ y_ : List (S70), y_ = (x3_2 ++ [(⟨2, x9_2⟩ : S70)]) := ⟨_, rfl⟩
         replace H : (spec_l29Draw.l1 k2 y337 (wrap64 (x9_2 - 1)) s0_0 t335 t336) = some (r1, r2, r3) := by first | (rw [hy337]; with_reducible exact H) | (have H2_ := (Option.bind_some _ _).symm.trans H; rw [hy337]; with_reducible exact H2_) | (have H2_ := (Option.bind_some _ _).symm.trans H; with_reducible exact H2_) | with_reducible exact H | (rw [hy337]; exact H) | exact H
         have Ny337 := ag13_ hy337; clear hy337; have H' := ag13_ H; clear H
         go_wp2_with (first | ((with_reducible refine gate_builtin (b := .append) (xs := #[.tmp 48, .tmp 51]) rfl ?_); at_builtin; refine Kd.R_append k70 w.heap.size rfl (.tmp 48) (.tmp 51) 22 70 (.agg #[(.int .i64 0), (.int .i64 0)]) 16 rfl Tryd.underlying22 info70 rfl (by decide) (by omega) u3 x3_2 (⟨2, x9_2⟩ : S70) [.int .i64 2, .int .i64 x9_2] (fun _ => True) (fun _ => False) rfl rfl ?aP (fun _ hk => hk.elim) ?aF ?aO (Below.refl _ _) ?aS ?aL ?_; (case aP => exact k70_mkM _ _ _ (⟨2, x9_2⟩ : S70)); (case aF => exact (fun _ _ => trivial)); (case aO => exact w10g13_); (case aS => exact (keep_size (w := w) (g := g) (row := none) w2g13_)); (case aL => have := LMc74.out; omega); intro v338 w75 ho hb hg hat; rw [← Ny337.out] at ho; have n0_ := ag13_ (blk_grown (g := gb304) (o := .cells #[.int .i64 x305000_1, .int .i64 x305001_1, .int .i64 x305002_1, .int .i64 x305003_1] 68 (0, 0)) w3g13_ hg (Kd.R_ne HO_3.out BK304.out (by decide))); have n1_ := ag13_ (IsS200.grown w1g13_ hg (IsS200.own_ne HI0.out HO_3.out (by decide))); have n2_ := ag13_ (below_weaken w4g13_ HL.out hb); have n3_ := ag13_ (KeepBut.trans w2g13_ (KeepBut.of_grown hg g) (Kd.R_base2 HO_3.out)); have n4_ := ag13_ (ho); clear BK304; clear HI0; clear HB; clear HK; clear HO_3; have BK304 := n0_; have HI0 := n1_; have HB := n2_; have HK := n3_; have HO339 := n4_; clear n0_ n1_ n2_ n3_ n4_; clear ho hb hg hat))
         go_roundg k2
         case measure => have := HK1.out; have := HK2.out; omega
         case rel => exact ⟨(y337), (wrap64 (x9_2 - 1)), w24g13_, H', ⟨(by have := HK1.out; have := HK2.out; omega)⟩, ⟨(by (with_reducible repeat (first | apply Kd.R_alloc | apply Kd.R_drewN | apply Kd.R_drew)); exact HO339.out)⟩, ⟨w3g13_⟩, ⟨w1g13_⟩, ⟨w2g13_⟩, ⟨w4g13_⟩⟩
        ·
         rw [if_neg c74] at H
         exact absurd H (by simp)
       ·
        rw [if_neg c73] at H
        have c73b0 : decide (0 < x9_2) = false := decide_eq_false c73; clear c73
        simp only [Option.some.injEq, Prod.mk.injEq] at H
        obtain ⟨rfl, rfl, rfl⟩ := H
        go_wp2
        go_ret
        exact ⟨_, (by first | rfl | (simp [errW_none, errW_some] <;> rfl) | (simp [*, errW_none, errW_some] <;> rfl)), w10g13_, w1g13_, w4g13_, w2g13_⟩
    ·
     rw [if_neg c67] at H
     have c67b0 : (t328 == 0) = false := beq_eq_false_iff_ne.mpr c67; have c67b1 : (t328 != 0) = true := bne_iff_ne.mpr c67
     simp only [Option.some.injEq, Prod.mk.injEq] at H
     obtain ⟨rfl, rfl, rfl⟩ := H
     go_wp2_with (first | ((with_reducible refine gate_callee (f := 102) rfl ?_); refine goesL_ (some 37) rfl rfl Tryd.func102 (by kernel_rfl) rfl #[.pointer (some ⟨g, 0, none⟩), .int .i64 50] rfl w11g13_ ?_; (with_reducible refine (spec_l01Next.calls g s0_0 x1001_1 x1002_1 50 t328 t329 t330 w0 _ ?side1 ?side2 A66.out).mono ?_); (case side1 => exact w1g13_); (case side2 => exact w4g13_); rintro e w76 ⟨rfl, hi, hb, hk⟩; refine ⟨_, rfl, ?_⟩; replace HO_3 := ag13_ (Kd.R_mono (Kd.R_keep (IsS200.apart (show IsS200 w0 _ g s0_0 x1001_1 x1002_1 from w1g13_) w10g13_ (by decide)) hk (fun _ h => h.2)) (fun _ h => h.1)); replace BK304 := ag13_ (KeepBut.blk hk (g' := gb304) (o := .cells #[.int .i64 x305000_1, .int .i64 x305001_1, .int .i64 x305002_1, .int .i64 x305003_1] 68 (0, 0)) w3g13_ NB304_0.out (by simp)); replace HK := ag13_ (KeepBut.trans w2g13_ hk (.inl rfl)); replace HB := ag13_ (hb); replace HI0 := ag13_ (hi); clear hb hk hi))
     go_ret
     exact ⟨_, (by first | rfl | (simp [errW_none, errW_some] <;> rfl) | (simp [*, errW_none, errW_some] <;> rfl)), w10g13_, w1g13_, w4g13_, w2g13_⟩
end Go.Proofs.YtoiioapkebglgaaDoor.PG
end
section
namespace Go.Proofs.YtoiioapkebglgaaDoor.PG
open Go.RowKit Go.Proofs.YtoiioapkebglgaaDoorW.PrintWords Go.Proofs.YtoiioapkebglgaaDoorW.PrintLast Go.Proofs.YtoiioapkebglgaaDoorW.PrintMore
attribute [local go_sem] max2_int min2_int max_two min_two max_three min_three max_four min_four   -- for this text's walks alone
set_option linter.unusedVariables false
set_option linter.unusedSimpArgs false
def spec_RecoverJournal.f (k : Nat) (a0 : ByteArray) : Option ((List (S70)) × Int) := if (a0.size : Int) > 8000 then (some (([] : List (S70)), 3)) else ((spec_l29Recover.f k a0).bind fun t544 => (some (t544, 0)))
set_option maxHeartbeats 8000000 in
set_option maxRecDepth 100000 in
theorem spec_RecoverJournal.calls (k : Nat) (a0 : ByteArray) (r1 : List (S70)) (r2 : Int) (w : World) (h : spec_RecoverJournal.f k a0 = some (r1, r2)) :
    Calls Tryd.prog 11 #[.string a0] w fun e w' => ∃ v0_ : Value, e = .returned (.tuple #[v0_, .int .i64 r2]) ∧ Kd.R k70 70 w' w.heap.size (fun _ => True) v0_ r1 ∧ Below w.heap.size w w' := by
  have HB := Aside0.mk (Below.refl w.heap.size w)
  have H : (if (a0.size : Int) > 8000 then (some (([] : List (S70)), 3)) else ((spec_l29Recover.f k a0).bind fun t544 => (some (t544, 0)))) = some (r1, r2) := h
  clear h
  by_cases c2 : (a0.size : Int) > 8000
  · rw [if_pos c2] at H
    have c2b0 : decide (8000 < (a0.size : Int)) = true := decide_eq_true c2
    have c2b1 : decide (8000 < a0.size) = true := decide_eq_true (by omega)
    clear c2
    simp only [Option.some.injEq, Prod.mk.injEq] at H
    obtain ⟨rfl, rfl⟩ := H
    go_enter Tryd.func11, Tryd.ntmps11
    go_wp2
    go_ret2
    exact ⟨_, (by first | rfl | (simp [errW_none, errW_some] <;> rfl) | (simp [*, errW_none, errW_some] <;> rfl)), (by first | exact Kd.R_nil _ _ _ _ _ | exact Kd.N_nil _ _ _ _ _ | exact Kd.V_nil _ _ _ _ _ | exact Kd.Q_nil _ _ _ _ _ | exact Kd.S_nil _ _ _ _ _), (by repeat (first | (with_reducible first | exact HB.out | apply below_alloc | apply pw_below_drewN | apply below_drew1) | exact HB.out))⟩
  · rw [if_neg c2] at H
    have c2b0 : decide (8000 < (a0.size : Int)) = false := decide_eq_false c2
    have c2b1 : decide (8000 < a0.size) = false := decide_eq_false (by omega)
    clear c2
    replace H := Option.bind_eq_some_iff.mp H
    obtain ⟨t544, A30, H⟩ := H
    try dsimp only at H
    have A3 := Aside0.mk A30
    clear A30
    simp only [Option.some.injEq, Prod.mk.injEq] at H
    obtain ⟨rfl, rfl⟩ := H
    go_enter Tryd.func11, Tryd.ntmps11
    go_wp2_with (first | ((with_reducible refine gate_callee (f := 53) rfl ?_); refine goesL_ (some 8) rfl rfl Tryd.func53 (by kernel_rfl) rfl #[.string a0] rfl (by (try simp only [List.map_toArray, List.map_cons, List.map_nil]); first | done | rfl | (simp only [List.length_drop, List.length_take]; rfl)) ?_; (with_reducible refine (spec_l29Recover.calls k a0 t544 _ A3.out).mono ?_); rintro e w4 ⟨v545, rfl, ho0, hb⟩; refine ⟨_, rfl, ?_⟩; have n0_ := Aside0.mk (Kd.R_lower ho0 (below_size (by repeat (first | (with_reducible first | exact HB.out | apply below_alloc | apply pw_below_drewN | apply below_drew1) | exact HB.out)))); have n1_ := Aside0.mk (below_step (by repeat (first | (with_reducible first | exact HB.out | apply below_alloc | apply pw_below_drewN | apply below_drew1) | exact HB.out)) hb); clear HB; have HO546 := n0_; have HB := n1_; clear n0_ n1_; (try clear hb); (try clear hb2); (try clear hk); (try clear hi); (try clear ho0)))
    go_ret2
    exact ⟨_, (by first | rfl | (simp [errW_none, errW_some] <;> rfl) | (simp [*, errW_none, errW_some] <;> rfl)), (by (with_reducible repeat (first | apply Kd.R_alloc | apply Kd.R_drewN | apply Kd.R_drew)); exact HO546.out), (by repeat (first | (with_reducible first | exact HB.out | apply below_alloc | apply pw_below_drewN | apply below_drew1) | exact HB.out))⟩
def spec_DrawJournalText.f (k : Nat) (l0 : List Int) : Option ((List (S70))) := (spec_l01From.f k l0).bind fun bt547 => ((spec_l29Draw.f k bt547.1 bt547.2.1 bt547.2.2).bind fun bt551 => (some bt551.1))
set_option maxHeartbeats 8000000 in
set_option maxRecDepth 100000 in
theorem spec_DrawJournalText.calls (k : Nat) (A0 : Option Addr) (c0 : Nat) (l0 : List Int) (r : List (S70)) (w : World) (hr0 : Kd.C (Kd.int .u8) w A0 l0.length l0) (hc0 : l0.length ≤ c0) (h : spec_DrawJournalText.f k l0 = some r) :
    Calls Tryd.prog 41 #[.slice A0 l0.length c0] w fun e w' => ∃ v0_ : Value, e = .returned (v0_) ∧ Kd.R k70 70 w' w.heap.size (fun _ => True) v0_ r ∧ Below w.heap.size w w' := by
  have HR0 := Aside0.mk hr0
  have HC0 := Aside0.mk hc0
  clear hr0 hc0
  have HB := Aside0.mk (Below.refl w.heap.size w)
  have H : ((spec_l01From.f k l0).bind fun bt547 => ((spec_l29Draw.f k bt547.1 bt547.2.1 bt547.2.2).bind fun bt551 => (some bt551.1))) = some r := h
  clear h
  replace H := Option.bind_eq_some_iff.mp H
  obtain ⟨⟨t547, t548, t549⟩, A20, H⟩ := H
  try dsimp only at H
  have A2 := Aside0.mk A20
  clear A20
  replace H := Option.bind_eq_some_iff.mp H
  obtain ⟨⟨t551, t554, t555⟩, A30, H⟩ := H
  try dsimp only at H
  have A3 := Aside0.mk A30
  clear A30
  obtain rfl := Option.some.inj H
  go_enter Tryd.func41, Tryd.ntmps41
  go_wp2_with (first | ((with_reducible refine gate_callee (f := 99) rfl ?_); refine goesL_ (some 4) rfl rfl Tryd.func99 (by kernel_rfl) rfl #[.slice A0 l0.length c0] rfl (by (try simp only [List.map_toArray, List.map_cons, List.map_nil]); first | done | rfl | (simp only [List.length_drop, List.length_take]; rfl)) ?_; (with_reducible refine (spec_l01From.calls k _ _ l0 t547 t548 t549 w _ ?side1 ?side2 ?side3 A2.out).mono ?_); (case side1 => repeat (first | (with_reducible first | exact HB.out | apply below_alloc | apply pw_below_drewN | apply below_drew1) | exact HB.out)); (case side2 => exact HR0.out); (case side3 => exact HC0.out); rintro e w4 ⟨g550, rfl, hi, hb, hb2⟩; refine ⟨_, rfl, ?_⟩; have n0_ := Aside0.mk (hb); have n1_ := Aside0.mk (hi); clear HB; have HB := n0_; have HI550 := n1_; clear n0_ n1_; (try clear hb); (try clear hb2); (try clear hk); (try clear hi)) | ((with_reducible refine gate_callee (f := 109) rfl ?_); refine goesL_ (some 5) rfl rfl Tryd.func109 (by kernel_rfl) rfl #[.pointer (some ⟨g550, 0, none⟩)] rfl (by (try simp only [List.map_toArray, List.map_cons, List.map_nil]); first | done | rfl | (simp only [List.length_drop, List.length_take]; rfl)) ?_; (with_reducible refine (spec_l29Draw.calls k g550 t547 t548 t549 t551 t554 t555 w _ ?side1 ?side2 A3.out).mono ?_); (case side1 => repeat (first | (with_reducible first | exact HI550.out | apply IsS200.alloc | apply IsS200.drewN | apply IsS200.drew | apply IsS200.set_1 | apply IsS200.set_2) | exact HI550.out)); (case side2 => repeat (first | (with_reducible first | exact HB.out | apply below_alloc | apply pw_below_drewN | apply below_drew1 | refine below_set ?_ (IsS200.ge HI550.out)) | exact HB.out)); rintro e w5 ⟨v552, rfl, ho0, hi, hb, hk⟩; refine ⟨_, rfl, ?_⟩; have n0_ := Aside0.mk (Kd.R_lower ho0 (below_size (by repeat (first | (with_reducible first | exact HB.out | apply below_alloc | apply pw_below_drewN | apply below_drew1 | refine below_set ?_ (IsS200.ge HI550.out)) | exact HB.out)))); have n1_ := Aside0.mk (hb); have n2_ := Aside0.mk (hi); clear HB; clear HI550; have HO553 := n0_; have HB := n1_; have HI550 := n2_; clear n0_ n1_ n2_; (try clear hb); (try clear hb2); (try clear hk); (try clear hi); (try clear ho0)))
  go_ret
  exact ⟨_, (by first | rfl | (simp [errW_none, errW_some] <;> rfl) | (simp [*, errW_none, errW_some] <;> rfl)), (by (with_reducible repeat (first | apply Kd.R_alloc | apply Kd.R_drewN | apply Kd.R_drew)); exact HO553.out), (by repeat (first | (with_reducible first | exact HB.out | apply below_alloc | apply pw_below_drewN | apply below_drew1 | refine below_set ?_ (IsS200.ge HI550.out)) | exact HB.out))⟩
end Go.Proofs.YtoiioapkebglgaaDoor.PG
end
