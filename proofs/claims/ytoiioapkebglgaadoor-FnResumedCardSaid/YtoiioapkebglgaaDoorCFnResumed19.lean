-- Gathered by this session's program wip/tool/shake.py out of its own texts and of what the kit's print and the session's patches of it wrote for this claim.
import Derived.Test.YtoiioapkebglgaaDoorCFnResumed3
import Derived.Test.YtoiioapkebglgaaDoorCFnResumed9
import Derived.Test.YtoiioapkebglgaaDoorCFnResumed16
import Derived.Test.YtoiioapkebglgaaDoorCFnResumed17
section
namespace Go.Proofs.YtoiioapkebglgaaDoor.PG
open Go.RowKit Go.Proofs.YtoiioapkebglgaaDoorW.PrintWords Go.Proofs.YtoiioapkebglgaaDoorW.PrintLast Go.Proofs.YtoiioapkebglgaaDoorW.PrintMore
attribute [local go_sem] max2_int min2_int max_two min_two max_three min_three max_four min_four   -- for this text's walks alone
set_option linter.unusedVariables false
set_option linter.unusedSimpArgs false
/-- A state of type 200 at block g of W; what its slices lead to came in by w0. -/
def IsS200 (w0 W : World) (g : Nat) (f0 : List Int) (f1 : Int) (f2 : Int) : Prop := ∃ A0 c0, W.heap[g]? = some (.cells #[.slice A0 f0.length c0, .int .i64 f1, .int .i64 f2] 200 (0, 0)) ∧ w0.heap.size ≤ g ∧ Kd.C (Kd.int .u8) w0 A0 f0.length f0
theorem IsS200.grown {w0 W : World} {g : Nat} {f0 : List Int} {f1 : Int} {f2 : Int} {W1 : World} {row : Option Nat} (h : IsS200 w0 W g f0 f1 f2) (hw : W.grownBy W1 row) (hne : some g ≠ row) : IsS200 w0 W1 g f0 f1 f2 := by
  obtain ⟨A0, c0, hb, hg, hr0⟩ := h
  exact ⟨A0, c0, blk_grown hb hw hne, hg, hr0⟩
theorem IsS200.fresh {w0 W : World} {g : Nat} {f0 : List Int} {f1 : Int} {f2 : Int} (h : IsS200 w0 W g f0 f1 f2) : ∀ k, W.heap.size ≤ k → k ≠ g := by
  obtain ⟨A0, c0, hb, hg, hr0⟩ := h
  exact Kd.freshB hb
theorem IsS200.kept {w0 W : World} {g : Nat} {f0 : List Int} {f1 : Int} {f2 : Int} {W1 : World} {S : Nat → Prop} (h : IsS200 w0 W g f0 f1 f2) (hk : Kept W W1 S) (hne : ¬ S g) : IsS200 w0 W1 g f0 f1 f2 := by
  obtain ⟨A0, c0, hb, hg, hr0⟩ := h
  exact ⟨A0, c0, blk_kept hb hk hne, hg, hr0⟩
theorem IsS200.below {w0 W : World} {g : Nat} {f0 : List Int} {f1 : Int} {f2 : Int} {W1 : World} (h : IsS200 w0 W g f0 f1 f2) (hw : Below W.heap.size W W1) : IsS200 w0 W1 g f0 f1 f2 := h.grown (grown_of_below hw none) (by simp)
theorem IsS200.alloc {w0 W : World} {g : Nat} {f0 : List Int} {f1 : Int} {f2 : Int} (h : IsS200 w0 W g f0 f1 f2) (o : Obj) : IsS200 w0 (W.alloc o) g f0 f1 f2 := h.below (below_alloc (Below.refl _ _) o)
theorem IsS200.drewN {w0 W : World} {g : Nat} {f0 : List Int} {f1 : Int} {f2 : Int} (h : IsS200 w0 W g f0 f1 f2) (m : Nat) : IsS200 w0 (W.drewN m) g f0 f1 f2 := h
theorem IsS200.drew {w0 W : World} {g : Nat} {f0 : List Int} {f1 : Int} {f2 : Int} (h : IsS200 w0 W g f0 f1 f2) : IsS200 w0 W.drew g f0 f1 f2 := h
theorem IsS200.at_ {w0 W : World} {g : Nat} {f0 : List Int} {f1 : Int} {f2 : Int} {w' : World} {m : Nat} (hq : W.drewN m = w') (h : IsS200 w0 W g f0 f1 f2) : IsS200 w0 w' g f0 f1 f2 := by subst hq; exact IsS200.drewN h m
theorem IsS200.apart {w0 W : World} {g : Nat} {f0 : List Int} {f1 : Int} {f2 : Int} {α : Type} {d : Kd α} {e : Nat} {base : Nat} {ok : Nat → Prop} {v : Value} {xs : List α} (h : IsS200 w0 W g f0 f1 f2) (ho : d.R e W base ok v xs) (ht : ∀ q, q ∈ e :: d.E → q ≠ 200) : d.R e W base (fun k => ok k ∧ k ≠ g) v xs := by
  obtain ⟨A0, c0, hb, hg, hr0⟩ := h
  exact Kd.R_types ho hb ht
theorem IsS200.own_ne {w0 W : World} {g : Nat} {f0 : List Int} {f1 : Int} {f2 : Int} {α : Type} {d : Kd α} {e : Nat} {base : Nat} {ok : Nat → Prop} {v : Value} {xs : List α} (h : IsS200 w0 W g f0 f1 f2) (ho : d.R e W base ok v xs) (ht : e ≠ 200) : some g ≠ v.ownBlock := by
  obtain ⟨A0, c0, hb, hg, hr0⟩ := h
  exact Kd.R_ne ho hb ht
theorem IsS200.lt {w0 W : World} {g : Nat} {f0 : List Int} {f1 : Int} {f2 : Int} (h : IsS200 w0 W g f0 f1 f2) : g < W.heap.size := by
  obtain ⟨A0, c0, hb, hg, hr0⟩ := h
  exact blk_lt hb
theorem IsS200.ge {w0 W : World} {g : Nat} {f0 : List Int} {f1 : Int} {f2 : Int} (h : IsS200 w0 W g f0 f1 f2) : w0.heap.size ≤ g := by
  obtain ⟨A0, c0, hb, hg, hr0⟩ := h
  exact hg
theorem IsS200.ne_blk {w0 W : World} {g : Nat} {f0 : List Int} {f1 : Int} {f2 : Int} {a : Nat} {cs : Array Value} {t : TypeId} {fr : Nat × Nat} (h : IsS200 w0 W g f0 f1 f2) (hb2 : W.heap[a]? = some (.cells cs t fr)) (ht : t ≠ 200) : g ≠ a := by
  obtain ⟨A0, c0, hb, hg, hr0⟩ := h
  rintro rfl
  rw [hb] at hb2
  injection hb2 with hb2
  injection hb2 with _ ht2
  exact ht ht2.symm
theorem IsS200.far {w0 W : World} {g : Nat} {f0 : List Int} {f1 : Int} {f2 : Int} {p : Addr} (h : IsS200 w0 W g f0 f1 f2) (hne : g ≠ p.block) (u : Value) : IsS200 w0 (W.setCell p u) g f0 f1 f2 := by
  obtain ⟨A0, c0, hb, hg, hr0⟩ := h
  exact ⟨A0, c0, blk_far hb hne u, hg, hr0⟩
theorem cellS200_0 {W : World} {g : Nat} {A0 : Option Addr} {c0 : Nat} {f0 : List Int} {f1 : Int} {f2 : Int} (h : W.heap[g]? = some (.cells #[.slice A0 f0.length c0, .int .i64 f1, .int .i64 f2] 200 (0, 0))) : W.cell? ⟨g, 0, none⟩ = some (.slice A0 f0.length c0) := (blk_cell h 0).trans rfl
theorem cellS200_1 {W : World} {g : Nat} {A0 : Option Addr} {c0 : Nat} {f0 : List Int} {f1 : Int} {f2 : Int} (h : W.heap[g]? = some (.cells #[.slice A0 f0.length c0, .int .i64 f1, .int .i64 f2] 200 (0, 0))) : W.cell? ⟨g, 1, none⟩ = some (.int .i64 f1) := (blk_cell h 1).trans rfl
theorem IsS200.set_1 {w0 W : World} {g : Nat} {f0 : List Int} {f1 : Int} {f2 : Int} (h : IsS200 w0 W g f0 f1 f2) (x : Int) : IsS200 w0 (W.setCell ⟨g, 1, none⟩ (.int .i64 x)) g f0 x f2 := by
  obtain ⟨A0, c0, hb, hg, hr0⟩ := h
  exact ⟨A0, c0, (by simpa using blk_set hb 1 (.int .i64 x)), hg, hr0⟩
theorem cellS200_2 {W : World} {g : Nat} {A0 : Option Addr} {c0 : Nat} {f0 : List Int} {f1 : Int} {f2 : Int} (h : W.heap[g]? = some (.cells #[.slice A0 f0.length c0, .int .i64 f1, .int .i64 f2] 200 (0, 0))) : W.cell? ⟨g, 2, none⟩ = some (.int .i64 f2) := (blk_cell h 2).trans rfl
theorem IsS200.set_2 {w0 W : World} {g : Nat} {f0 : List Int} {f1 : Int} {f2 : Int} (h : IsS200 w0 W g f0 f1 f2) (x : Int) : IsS200 w0 (W.setCell ⟨g, 2, none⟩ (.int .i64 x)) g f0 f1 x := by
  obtain ⟨A0, c0, hb, hg, hr0⟩ := h
  exact ⟨A0, c0, (by simpa using blk_set hb 2 (.int .i64 x)), hg, hr0⟩
def spec_l01From.l0 : Nat → List Int → Int → List Int → Int → Int → Option (List Int × Int × Int)
  | 0, _, _, _, _, _ => none
  | k + 1, x0, x4, x254000, x254001, x254002 => if x4 < (x0.length : Int) then (if x4 < 64 then (if 0 ≤ x4 then (spec_l01From.l0 k x0 (wrap64 (x4 + 1)) x254000 x254001 (Int.tmod (wrap64 ((wrap64 (x254002 * 71)) + (wrap64 (rd x0 x4)))) 2147483647)) else (none)) else (some (x254000, x254001, x254002))) else (some (x254000, x254001, x254002))
def spec_l01From.f (k : Nat) (l0 : List Int) : Option (List Int × Int × Int) := spec_l01From.l0 k l0 0 l0 0 88007
def spec_l01From.T5 : Bool × List (List Nat × List Nat) := (true, [([], []), ([], []), ([1], [1]), ([2], [2]), ([3], [3]), ([4], [4]), ([], []), ([], []), ([6, 7], [6, 7]), ([8], [8]), ([9], [9]), ([5, 10], [5, 10]), ([11], [11]), ([0, 0, 1, 2, 3, 4, 5, 6, 7, 8, 9, 10, 11, 12], [0]), ([13, 0, 1, 2, 3, 4, 5, 6, 7, 8, 9, 10, 11, 12], [13]), ([14, 12, 0, 1, 2, 3, 4, 5, 6, 7, 8, 9, 10, 11, 12], [12, 14])])
def spec_l01From.B5 : List Nat := [0, 0, 2, 6, 14, 30, 0, 0, 192, 448, 960, 2046, 4094, 8191, 16383, 32767]
theorem spec_l01From.tab5 : rtab .any (opsOf Tryd.f99 5) = spec_l01From.T5 := by kernel_rfl
theorem spec_l01From.bits5 : waitsOk spec_l01From.T5.2 spec_l01From.B5 = true := by kernel_rfl
theorem ag9_ {p : Prop} (h : p) : Aside0 p := ⟨h⟩
theorem w1g9_ {p : Prop} (h : p := by repeat (first | (with_reducible first | exact HBW.out | apply below_alloc | apply pw_below_drewN | apply below_drew1 | refine below_set ?_ GW253.out) | exact HBW.out)) : p := h
theorem w2g9_ {p : Prop} (h : p := by repeat (first | (with_reducible first | exact HB.out | apply below_alloc | apply pw_below_drewN | apply below_drew1 | refine below_set ?_ GE253.out) | exact HB.out)) : p := h
theorem w3g9_ {p : Prop} (h : p := by (with_reducible repeat (first | refine blk_drewN ?_ _ | refine blk_drew ?_ | refine blk_alloc ?_ _)); exact BK253.out) : p := h
theorem w4g9_ {p : Prop} (h : p := by repeat (first | (with_reducible first | exact HBW.out | apply below_alloc | apply pw_below_drewN | apply below_drew1) | exact HBW.out)) : p := h
set_option maxHeartbeats 8000000 in
set_option maxRecDepth 100000 in
theorem spec_l01From.calls (k : Nat) (A0 : Option Addr) (c0 : Nat) (l0 : List Int) (r1 : List Int) (r2 : Int) (r3 : Int) (w0 w : World) (hB : Below w0.heap.size w0 w) (hr0 : Kd.C (Kd.int .u8) w0 A0 l0.length l0) (hc0 : l0.length ≤ c0) (h : spec_l01From.f k l0 = some (r1, r2, r3)) :
 Calls Tryd.prog 99 #[.slice A0 l0.length c0] w fun e w' => ∃ g_ : Nat, e = .returned (.pointer (some ⟨g_, 0, none⟩)) ∧ IsS200 w0 w' g_ r1 r2 r3 ∧ Below w0.heap.size w0 w' ∧ Below w.heap.size w w' := by
 have hu200 := Tryd.underlying200; have HR0 := ag9_ hr0; have HC0 := ag9_ hc0; clear hr0 hc0; have HBW := ag9_ (Below.refl w.heap.size w); have HW0 := ag9_ hB.size; have HB := ag9_ hB; clear hB; have H : (spec_l01From.l0 k l0 0 l0 0 88007) = some (r1, r2, r3) := h; clear h; have H' := ag9_ H; clear H
 go_enter Tryd.func99, Tryd.ntmps99
 go_wp2_with (first | ((with_reducible refine gate_dst (N := 7) rfl ?_); refine be_ (N := 7) (cs := #[.slice A0 l0.length c0, .int .i64 0, .int .i64 88007]) (t := 200) ?_; intro gb253 hg w2 hbox hb; have BK253 := ag9_ (hbox); have GW253 := gw_ (w := w) hg w4g9_; have GE253 := ag9_ ((Nat.le_trans HW0.out (by rw [hg]; exact (below_size w4g9_) : w.heap.size ≤ gb253) : w0.heap.size ≤ gb253)); replace HBW := ag9_ (below_step HBW.out hb); replace HB := ag9_ (below_step (by repeat (first | (with_reducible first | exact HB.out | apply below_alloc | apply pw_below_drewN | apply below_drew1) | exact HB.out)) hb); clear hb hbox hg))
 go_loopg [4] k (fun kq v4 w' => ∃ (x4_1 : Int) (x254002_1 : Int), v4 = .int .i64 x4_1 ∧ Aside0 (spec_l01From.l0 kq l0 x4_1 l0 0 x254002_1 = some (r1, r2, r3)) ∧ Aside0 (kq ≤ k) ∧ Aside0 (w'.heap[gb253]? = some (.cells #[(.slice A0 l0.length c0), .int .i64 0, .int .i64 x254002_1] 200 (0, 0))) ∧ Aside0 (Below w0.heap.size w0 w') ∧ Aside0 (Below w.heap.size w w'))
 case atStart => exact ⟨(0), (88007), (by first | rfl | (simp; done) | (simp [*]; done)), H', ⟨Nat.le_refl _⟩, ⟨w3g9_⟩, ⟨w2g9_⟩, ⟨w1g9_⟩⟩
 case round =>
  clear H'; obtain ⟨x4_1, x254002_1, rfl, HA, HK1, BK253, HB, HBW⟩ := hrel
  cases gk with
  | zero => exact absurd HA.out (by simp [spec_l01From.l0])
  | succ k1 =>
   have H := HA.out; clear HA
   simp only [spec_l01From.l0] at H
   by_cases c3 : x4_1 < (l0.length : Int)
   ·
    rw [if_pos c3] at H
    have c3b0 : decide (x4_1 < (l0.length : Int)) = true := decide_eq_true c3; clear c3
    by_cases c4 : x4_1 < 64
    ·
     rw [if_pos c4] at H
     have c4b0 : decide (x4_1 < 64) = true := decide_eq_true c4; clear c4
     by_cases c5 : 0 ≤ x4_1
     ·
      rw [if_pos c5] at H
      have c5b0 : decide (0 ≤ x4_1) = true := decide_eq_true c5; clear c5; have H' := ag9_ H; clear H
      try go_wp2
      have n0_ := ag9_ (blk_drew BK253.out); have n1_ := ag9_ (below_drew1 HB.out)
      replace HBW := ag9_ (below_drew1 HBW.out)
      clear BK253 HB; have BK253 := n0_; have HB := n1_; clear n0_ n1_
      have p254 : 0 ≤ (x4_1 : Int) := of_decide_eq_true (by first | (with_reducible assumption) | assumption)
      have q254 : x4_1 < (l0.length : Int) := of_decide_eq_true (by first | (with_reducible assumption) | assumption)
      obtain ⟨ad254, e254, hx254_0⟩ := Kd.at_int HR0.out x4_1 p254 q254; have hw254_0 := hx254_0
      cases e254
      replace hx254_0 := pw_cell_below HB.out hx254_0
      replace p254 := eq_true p254
      replace q254 := eq_true q254
      refine start_ (n := 16) (S := fun w' => w'.cell? ⟨gb253, 0, none⟩ = some (.slice (some ad254) l0.length c0) ∧ w'.cell? ⟨gb253, 1, none⟩ = some (.int .i64 0) ∧ w'.cell? ⟨gb253, 2, none⟩ = some (.int .i64 x254002_1) ∧ w'.cell? (ad254.add (x4_1).toNat) = some (.int .u8 (rd l0 x4_1))) (ds := [15]) #[false, false, false, false, false, false, false, false, false, false, false, false, false, false, false, false] (by kernel_rfl) rfl rfl ⟨(blk_cell BK253.out 0).trans rfl, (blk_cell BK253.out 1).trans rfl, (blk_cell BK253.out 2).trans rfl, ((HB.out.cell (World.block_lt_of_cell? _ _ hw254_0)).trans hw254_0)⟩ (fun hHeld => ?_); refine with_tabW spec_l01From.tab5 spec_l01From.bits5 (fun HT_ HW_ => ?_)
      generalize wr.drew = w6 at BK253 HB HBW hx254_0 hHeld ⊢
      refine pd_ (i := 0) (N := some 18) #[true, false, false, false, false, false, false, false, false, false, false, false, false, false, false, false] rfl rfl ?_
      refine pd_ (i := 1) (N := some 19) #[true, true, false, false, false, false, false, false, false, false, false, false, false, false, false, false] rfl rfl ?_
      refine pd_ (i := 2) (N := some 20) #[true, true, true, false, false, false, false, false, false, false, false, false, false, false, false, false] rfl rfl ?_
      refine pd_ (i := 3) (N := some 21) #[true, true, true, true, false, false, false, false, false, false, false, false, false, false, false, false] rfl rfl ?_
      refine pd_ (i := 6) (N := some 24) #[true, true, true, true, false, false, true, false, false, false, false, false, false, false, false, false] rfl rfl ?_
      refine pd_ (i := 7) (N := some 25) #[true, true, true, true, false, false, true, true, false, false, false, false, false, false, false, false] rfl rfl ?_
      refine pd_ (i := 8) (N := some 26) #[true, true, true, true, false, false, true, true, true, false, false, false, false, false, false, false] rfl rfl ?_
      refine td4_ (i := 4) (N := some 22) #[true, true, true, true, true, false, true, true, true, false, false, false, false, false, false, false] rfl rfl hHeld ?_
      refine pd_ (i := 5) (N := some 23) #[true, true, true, true, true, true, true, true, true, false, false, false, false, false, false, false] rfl rfl ?_
      refine td4_ (i := 9) (N := some 27) #[true, true, true, true, true, true, true, true, true, true, false, false, false, false, false, false] rfl rfl hHeld ?_
      refine pd_ (i := 10) (N := some 28) #[true, true, true, true, true, true, true, true, true, true, true, false, false, false, false, false] rfl rfl ?_
      refine pd_ (i := 11) (N := some 29) #[true, true, true, true, true, true, true, true, true, true, true, true, false, false, false, false] rfl rfl ?_
      refine pd_ (i := 12) (N := some 30) #[true, true, true, true, true, true, true, true, true, true, true, true, true, false, false, false] rfl rfl ?_
      refine pd_ (i := 13) (N := some 31) #[true, true, true, true, true, true, true, true, true, true, true, true, true, true, false, false] rfl rfl ?_
      refine pd_ (i := 14) (N := some 32) #[true, true, true, true, true, true, true, true, true, true, true, true, true, true, true, false] rfl rfl ?_
      refine last_ (i := 15) (N := none) #[true, true, true, true, true, true, true, true, true, true, true, true, true, true, true, true] rfl rfl (one_of HT_.out (by kernel_rfl)) (by decide) (fun K hK => ?_)
      have hs7 : w6.cell? ⟨gb253, 2, none⟩ = some (.int .i64 x254002_1) := (blk_cell BK253.out 2).trans rfl; have hfs7 := blk_frozen BK253.out 2
      refine skip_ (w1 := ?_) (by rfl) rfl ?_ ?_
      rotate_left
      ·
       go_simp
       rfl
      refine hK.out _ _ ?_; clear hK K
      refine done_ (done_of HT_.out (by kernel_rfl)) ?_
      try go_wp2
      go_roundg k1
      case measure => have := HK1.out; omega
      case rel => exact ⟨(wrap64 (x4_1 + 1)), (Int.tmod (wrap64 ((wrap64 (x254002_1 * 71)) + (wrap64 (rd l0 x4_1)))) 2147483647), (by first | rfl | (simp; done) | (simp [*]; done)), H', ⟨(by have := HK1.out; omega)⟩, ⟨(by (with_reducible repeat (first | refine blk_drewN ?_ _ | refine blk_drew ?_ | refine blk_alloc ?_ _)); refine blk_put (cs := #[.slice (some ad254) l0.length c0, .int .i64 0, .int .i64 x254002_1]) ?_ 2 _ rfl; (with_reducible repeat (first | refine blk_drewN ?_ _ | refine blk_drew ?_ | refine blk_alloc ?_ _)); exact BK253.out)⟩, ⟨w2g9_⟩, ⟨w1g9_⟩⟩
     ·
      rw [if_neg c5] at H
      exact absurd H (by simp)
    ·
     rw [if_neg c4] at H
     have c4b0 : decide (x4_1 < 64) = false := decide_eq_false c4; clear c4
     simp only [Option.some.injEq, Prod.mk.injEq] at H
     obtain ⟨rfl, rfl, rfl⟩ := H
     go_wp2
     go_ret
     exact ⟨_, rfl, (show IsS200 w0 _ gb253 l0 0 x254002_1 from ⟨_, _, w3g9_, GE253.out, HR0.out⟩), w2g9_, w1g9_⟩
   ·
    rw [if_neg c3] at H
    have c3b0 : decide (x4_1 < (l0.length : Int)) = false := decide_eq_false c3; clear c3
    simp only [Option.some.injEq, Prod.mk.injEq] at H
    obtain ⟨rfl, rfl, rfl⟩ := H
    go_wp2
    go_ret
    exact ⟨_, rfl, (show IsS200 w0 _ gb253 l0 0 x254002_1 from ⟨_, _, w3g9_, GE253.out, HR0.out⟩), w2g9_, w1g9_⟩
end Go.Proofs.YtoiioapkebglgaaDoor.PG
end
section
namespace Go.Proofs.YtoiioapkebglgaaDoor.PG
open Go.RowKit Go.Proofs.YtoiioapkebglgaaDoorW.PrintWords Go.Proofs.YtoiioapkebglgaaDoorW.PrintLast Go.Proofs.YtoiioapkebglgaaDoorW.PrintMore
attribute [local go_sem] max2_int min2_int max_two min_two max_three min_three max_four min_four   -- for this text's walks alone
set_option linter.unusedVariables false
set_option linter.unusedSimpArgs false
def spec_l01Next.f (s0_0 : List Int) (s0_1 : Int) (s0_2 : Int) (a1 : Int) : Option (Int × Int × Int) := if a1 ≤ 1 then (some (0, s0_1, s0_2)) else (if s0_1 < (s0_0.length : Int) then (if 0 ≤ s0_1 then (if a1 ≤ 256 then (if (Int.tmod (wrap64 (s0_1 + 1)) 2) = 0 then (if 0 ≤ (wrap64 ((wrap64 (s0_1 + 1)) - 1)) then (if (wrap64 ((wrap64 (s0_1 + 1)) - 1)) < (s0_0.length : Int) then (if a1 = 0 then (none) else (some (Int.tmod (wrap64 (rd s0_0 (wrap64 ((wrap64 (s0_1 + 1)) - 1)))) a1, wrap64 (s0_1 + 1), Int.tmod (wrap64 ((wrap64 (s0_2 * 48271)) + 61)) 2147483647))) else (none)) else (none)) else (if a1 = 0 then (none) else (some (Int.tmod (wrap64 ((wrap64 (Int.tdiv (Int.tmod (wrap64 ((wrap64 (s0_2 * 48271)) + 61)) 2147483647) 31)) + (wrap64 (rd s0_0 s0_1)))) a1, wrap64 (s0_1 + 1), Int.tmod (wrap64 ((wrap64 (s0_2 * 48271)) + 61)) 2147483647)))) else (if a1 = 0 then (none) else (some (Int.tmod (wrap64 ((wrap64 (Int.tdiv (Int.tmod (wrap64 ((wrap64 (s0_2 * 48271)) + 61)) 2147483647) 31)) + (wrap64 (rd s0_0 s0_1)))) a1, wrap64 (s0_1 + 1), Int.tmod (wrap64 ((wrap64 (s0_2 * 48271)) + 61)) 2147483647)))) else (none)) else (if a1 = 0 then (none) else (some (Int.tmod (wrap64 (Int.tdiv (Int.tmod (wrap64 ((wrap64 (s0_2 * 48271)) + 61)) 2147483647) 31)) a1, s0_1, Int.tmod (wrap64 ((wrap64 (s0_2 * 48271)) + 61)) 2147483647))))
theorem ag11_ {p : Prop} (h : p) : Aside0 p := ⟨h⟩
theorem w1g11_ {p : Prop} (h : p := by repeat (first | (with_reducible first | exact HI0.out | apply IsS200.alloc | apply IsS200.drewN | apply IsS200.drew | apply IsS200.set_1 | apply IsS200.set_2) | exact HI0.out)) : p := h
theorem w2g11_ {p : Prop} (h : p := by repeat (first | (with_reducible first | exact HB.out | apply below_alloc | apply pw_below_drewN | apply below_drew1 | refine below_set ?_ (IsS200.ge HI0.out)) | exact HB.out)) : p := h
theorem w3g11_ {p : Prop} (h : p := by repeat (first | (with_reducible first | exact HK.out | apply KeepBut.set_ | apply keep_drewN | apply keep_drew | apply keep_alloc) | exact HK.out)) : p := h
theorem w4g11_ {p : Prop} (h : p := by first | (with_reducible assumption) | assumption) : p := h
theorem w5g11_ {p : Prop} (h : p := by first | rfl | (simp [errW_none, errW_some] <;> rfl) | (simp [*, errW_none, errW_some] <;> rfl)) : p := h
theorem w6g11_ {p : Prop} (h : p := by first | (rw [add_block]; exact hn269_0) | (show (Addr.add _ _).block ≠ _; rw [add_block]; exact hn269_0) | exact hn269_0) : p := h
theorem w7g11_ {p : Prop} (h : p := by have := World.block_lt_of_cell? _ _ hx269_0; first | rwa [add_block] at this | exact this) : p := h
set_option maxHeartbeats 8000000 in
set_option maxRecDepth 100000 in
theorem spec_l01Next.calls (g : Nat) (s0_0 : List Int) (s0_1 : Int) (s0_2 : Int) (a1 : Int) (r1 : Int) (r2 : Int) (r3 : Int) (w0 w : World) (hI : IsS200 w0 w g s0_0 s0_1 s0_2) (hB : Below w0.heap.size w0 w) (h : spec_l01Next.f s0_0 s0_1 s0_2 a1 = some (r1, r2, r3)) :
 Calls Tryd.prog 102 #[.pointer (some ⟨g, 0, none⟩), .int .i64 a1] w fun e w' => e = .returned (.int .i64 r1) ∧ IsS200 w0 w' g s0_0 r2 r3 ∧ Below w0.heap.size w0 w' ∧ KeepBut w w' g none := by
 have HI0 := ag11_ hI; have HK := ag11_ (KeepBut.refl w g none); have HL := ag11_ hB.size; clear hI; have HW0 := ag11_ hB.size; have HB := ag11_ hB; clear hB; have H : (if a1 ≤ 1 then (some (0, s0_1, s0_2)) else (if s0_1 < (s0_0.length : Int) then (if 0 ≤ s0_1 then (if a1 ≤ 256 then (if (Int.tmod (wrap64 (s0_1 + 1)) 2) = 0 then (if 0 ≤ (wrap64 ((wrap64 (s0_1 + 1)) - 1)) then (if (wrap64 ((wrap64 (s0_1 + 1)) - 1)) < (s0_0.length : Int) then (if a1 = 0 then (none) else (some (Int.tmod (wrap64 (rd s0_0 (wrap64 ((wrap64 (s0_1 + 1)) - 1)))) a1, wrap64 (s0_1 + 1), Int.tmod (wrap64 ((wrap64 (s0_2 * 48271)) + 61)) 2147483647))) else (none)) else (none)) else (if a1 = 0 then (none) else (some (Int.tmod (wrap64 ((wrap64 (Int.tdiv (Int.tmod (wrap64 ((wrap64 (s0_2 * 48271)) + 61)) 2147483647) 31)) + (wrap64 (rd s0_0 s0_1)))) a1, wrap64 (s0_1 + 1), Int.tmod (wrap64 ((wrap64 (s0_2 * 48271)) + 61)) 2147483647)))) else (if a1 = 0 then (none) else (some (Int.tmod (wrap64 ((wrap64 (Int.tdiv (Int.tmod (wrap64 ((wrap64 (s0_2 * 48271)) + 61)) 2147483647) 31)) + (wrap64 (rd s0_0 s0_1)))) a1, wrap64 (s0_1 + 1), Int.tmod (wrap64 ((wrap64 (s0_2 * 48271)) + 61)) 2147483647)))) else (none)) else (if a1 = 0 then (none) else (some (Int.tmod (wrap64 (Int.tdiv (Int.tmod (wrap64 ((wrap64 (s0_2 * 48271)) + 61)) 2147483647) 31)) a1, s0_1, Int.tmod (wrap64 ((wrap64 (s0_2 * 48271)) + 61)) 2147483647))))) = some (r1, r2, r3) := h; clear h
 by_cases c3 : a1 ≤ 1
 ·
  rw [if_pos c3] at H
  have c3b0 : decide (a1 ≤ 1) = true := decide_eq_true c3; clear c3
  simp only [Option.some.injEq, Prod.mk.injEq] at H
  obtain ⟨rfl, rfl, rfl⟩ := H
  go_enter Tryd.func102, Tryd.ntmps102
  go_wp2
  repeat (go_quiet (fail); try go_wp2)
  go_ret
  exact ⟨w5g11_, w1g11_, w2g11_, w3g11_⟩
 ·
  rw [if_neg c3] at H
  have c3b0 : decide (a1 ≤ 1) = false := decide_eq_false c3; clear c3
  by_cases c4 : s0_1 < (s0_0.length : Int)
  ·
   rw [if_pos c4] at H
   have c4b0 : decide (s0_1 < (s0_0.length : Int)) = true := decide_eq_true c4; clear c4
   by_cases c5 : 0 ≤ s0_1
   ·
    rw [if_pos c5] at H
    have c5b0 : decide (0 ≤ s0_1) = true := decide_eq_true c5; clear c5
    by_cases c6 : a1 ≤ 256
    ·
     rw [if_pos c6] at H
     have c6b0 : decide (a1 ≤ 256) = true := decide_eq_true c6; clear c6
     by_cases c7 : (Int.tmod (wrap64 (s0_1 + 1)) 2) = 0
     ·
      rw [if_pos c7] at H
      have c7b0 : ((Int.tmod (wrap64 (s0_1 + 1)) 2) == 0) = true := beq_iff_eq.mpr c7; have c7b1 : ((Int.tmod (wrap64 (s0_1 + 1)) 2) != 0) = false := bne_eq_false_iff_eq.mpr c7; clear c7; obtain ⟨ji8, hji8⟩ : ∃ j_ : Int, (wrap64 ((wrap64 (s0_1 + 1)) - 1)) = j_ := ⟨_, rfl⟩
      replace H : (if 0 ≤ (ji8) then (if (ji8) < (s0_0.length : Int) then (if a1 = 0 then (none) else (some (Int.tmod (wrap64 (rd s0_0 (ji8))) a1, wrap64 (s0_1 + 1), Int.tmod (wrap64 ((wrap64 (s0_2 * 48271)) + 61)) 2147483647))) else (none)) else (none)) = some (r1, r2, r3) := by first | (rw [hji8] at H; exact H) | (simp only [hji8] at H ⊢; exact H)
      have hji8w : (IntKind.i64.wrap ((wrap64 (s0_1 + 1)) - 1)) = ji8 := (i64_w _).trans hji8
      by_cases c9 : 0 ≤ (ji8)
      ·
       rw [if_pos c9] at H
       have c9b0 : decide (0 ≤ (ji8)) = true := decide_eq_true c9; clear c9
       by_cases c10 : (ji8) < (s0_0.length : Int)
       ·
        rw [if_pos c10] at H
        have c10b0 : decide ((ji8) < (s0_0.length : Int)) = true := decide_eq_true c10; clear c10
        by_cases c11 : a1 = 0
        ·
         rw [if_pos c11] at H
         exact absurd H (by simp)
        ·
         rw [if_neg c11] at H
         have c11b0 : (a1 == 0) = false := beq_eq_false_iff_ne.mpr c11; have c11b1 : (a1 != 0) = true := bne_iff_ne.mpr c11
         simp only [Option.some.injEq, Prod.mk.injEq] at H
         obtain ⟨rfl, rfl, rfl⟩ := H; obtain ⟨ASz12_0, cSz12_0, HGz12, hgz12, HSz12_0⟩ := HI0.out; have hcz12_0 := cellS200_0 HGz12; have hcz12_1 := cellS200_1 HGz12; have hcz12_2 := cellS200_2 HGz12; have hfz12_1 := blk_frozen HGz12 1; have hfz12_2 := blk_frozen HGz12 2; clear HGz12 hgz12
         have p269 : 0 ≤ (s0_1 : Int) := of_decide_eq_true w4g11_
         have q269 : s0_1 < (s0_0.length : Int) := of_decide_eq_true w4g11_
         obtain ⟨ad269, e269, hx269_0⟩ := Kd.at_int HSz12_0 s0_1 p269 q269
         cases e269
         have hn269_0 : ad269.block ≠ g := Nat.ne_of_lt (Nat.lt_of_lt_of_le w7g11_ (IsS200.ge HI0.out))
         replace hx269_0 := pw_cell_below HB.out hx269_0
         replace hx269_0 := (cell_far (p := ⟨g, 2, none⟩) w6g11_ (.int .i64 (Int.tmod (wrap64 ((wrap64 (s0_2 * 48271)) + 61)) 2147483647))).trans hx269_0
         (try have hy269_0 := fun (n_ : Nat) => (show (((w.drewN n_).setCell ⟨g, 2, none⟩ (.int .i64 (Int.tmod (wrap64 ((wrap64 (s0_2 * 48271)) + 61)) 2147483647)))).cell? _ = some _ from hx269_0))
         clear hn269_0
         replace p269 := eq_true p269
         replace q269 := eq_true q269
         have p270 : 0 ≤ ((ji8) : Int) := of_decide_eq_true w4g11_
         have q270 : (ji8) < (s0_0.length : Int) := of_decide_eq_true w4g11_
         obtain ⟨ad270, e270, hx270_0⟩ := Kd.at_int HSz12_0 (ji8) p270 q270; obtain rfl : ad269 = ad270 := (by injection e270); have hn270_0 : ad269.block ≠ g := Nat.ne_of_lt (Nat.lt_of_lt_of_le (by have := World.block_lt_of_cell? _ _ hx270_0; first | rwa [add_block] at this | exact this) (IsS200.ge HI0.out)); have hn270_1 : ad269.block ≠ g := Nat.ne_of_lt (Nat.lt_of_lt_of_le (by have := World.block_lt_of_cell? _ _ hx270_0; first | rwa [add_block] at this | exact this) (IsS200.ge HI0.out))
         replace hx270_0 := pw_cell_below HB.out hx270_0
         replace hx270_0 := (cell_far (p := ⟨g, 2, none⟩) (by first | (rw [add_block]; exact hn270_0) | (show (Addr.add _ _).block ≠ _; rw [add_block]; exact hn270_0) | exact hn270_0) (.int .i64 (Int.tmod (wrap64 ((wrap64 (s0_2 * 48271)) + 61)) 2147483647))).trans hx270_0
         replace hx270_0 := (cell_far (p := ⟨g, 1, none⟩) (by first | (rw [add_block]; exact hn270_1) | (show (Addr.add _ _).block ≠ _; rw [add_block]; exact hn270_1) | exact hn270_1) (.int .i64 (wrap64 (s0_1 + 1)))).trans hx270_0
         (try have hy270_0 := fun (n_ : Nat) => (show ((((w.drewN n_).setCell ⟨g, 2, none⟩ (.int .i64 (Int.tmod (wrap64 ((wrap64 (s0_2 * 48271)) + 61)) 2147483647))).setCell ⟨g, 1, none⟩ (.int .i64 (wrap64 (s0_1 + 1))))).cell? _ = some _ from hx270_0))
         (try have hz270_0_1 := fun (n_ : Nat) => (show ((((w.setCell ⟨g, 2, none⟩ (.int .i64 (Int.tmod (wrap64 ((wrap64 (s0_2 * 48271)) + 61)) 2147483647))).drewN n_).setCell ⟨g, 1, none⟩ (.int .i64 (wrap64 (s0_1 + 1))))).cell? _ = some _ from hx270_0))
         (try have hz270_0_1b := fun (m_ n_ : Nat) => (show (((((w.drewN m_).setCell ⟨g, 2, none⟩ (.int .i64 (Int.tmod (wrap64 ((wrap64 (s0_2 * 48271)) + 61)) 2147483647))).drewN n_).setCell ⟨g, 1, none⟩ (.int .i64 (wrap64 (s0_1 + 1))))).cell? _ = some _ from hx270_0))
         clear hn270_0 hn270_1
         replace p270 := eq_true p270
         replace q270 := eq_true q270
         go_enter Tryd.func102, Tryd.ntmps102
         go_wp2
         repeat (go_quiet (fail); try go_wp2)
         go_ret
         exact ⟨(by first | rfl | (simp [errW_none, errW_some] <;> rfl) | (simp only [← hji8]; first | rfl | (simp [errW_none, errW_some] <;> rfl)) | (simp [*, errW_none, errW_some] <;> rfl)), w1g11_, w2g11_, w3g11_⟩
       ·
        rw [if_neg c10] at H
        exact absurd H (by simp)
      ·
       rw [if_neg c9] at H
       exact absurd H (by simp)
     ·
      rw [if_neg c7] at H
      have c7b0 : ((Int.tmod (wrap64 (s0_1 + 1)) 2) == 0) = false := beq_eq_false_iff_ne.mpr c7; have c7b1 : ((Int.tmod (wrap64 (s0_1 + 1)) 2) != 0) = true := bne_iff_ne.mpr c7
      by_cases c13 : a1 = 0
      ·
       rw [if_pos c13] at H
       exact absurd H (by simp)
      ·
       rw [if_neg c13] at H
       have c13b0 : (a1 == 0) = false := beq_eq_false_iff_ne.mpr c13; have c13b1 : (a1 != 0) = true := bne_iff_ne.mpr c13
       simp only [Option.some.injEq, Prod.mk.injEq] at H
       obtain ⟨rfl, rfl, rfl⟩ := H; obtain ⟨ASz14_0, cSz14_0, HGz14, hgz14, HSz14_0⟩ := HI0.out; have hcz14_0 := cellS200_0 HGz14; have hcz14_1 := cellS200_1 HGz14; have hcz14_2 := cellS200_2 HGz14; have hfz14_1 := blk_frozen HGz14 1; have hfz14_2 := blk_frozen HGz14 2; clear HGz14 hgz14
       have p269 : 0 ≤ (s0_1 : Int) := of_decide_eq_true w4g11_
       have q269 : s0_1 < (s0_0.length : Int) := of_decide_eq_true w4g11_
       obtain ⟨ad269, e269, hx269_0⟩ := Kd.at_int HSz14_0 s0_1 p269 q269
       cases e269
       have hn269_0 : ad269.block ≠ g := Nat.ne_of_lt (Nat.lt_of_lt_of_le w7g11_ (IsS200.ge HI0.out))
       replace hx269_0 := pw_cell_below HB.out hx269_0
       replace hx269_0 := (cell_far (p := ⟨g, 2, none⟩) w6g11_ (.int .i64 (Int.tmod (wrap64 ((wrap64 (s0_2 * 48271)) + 61)) 2147483647))).trans hx269_0
       (try have hy269_0 := fun (n_ : Nat) => (show (((w.drewN n_).setCell ⟨g, 2, none⟩ (.int .i64 (Int.tmod (wrap64 ((wrap64 (s0_2 * 48271)) + 61)) 2147483647)))).cell? _ = some _ from hx269_0))
       clear hn269_0
       replace p269 := eq_true p269
       replace q269 := eq_true q269
       go_enter Tryd.func102, Tryd.ntmps102
       go_wp2
       repeat (go_quiet (fail); try go_wp2)
       go_ret
       exact ⟨w5g11_, w1g11_, w2g11_, w3g11_⟩
    ·
     rw [if_neg c6] at H
     have c6b0 : decide (a1 ≤ 256) = false := decide_eq_false c6; clear c6
     by_cases c15 : a1 = 0
     ·
      rw [if_pos c15] at H
      exact absurd H (by simp)
     ·
      rw [if_neg c15] at H
      have c15b0 : (a1 == 0) = false := beq_eq_false_iff_ne.mpr c15; have c15b1 : (a1 != 0) = true := bne_iff_ne.mpr c15
      simp only [Option.some.injEq, Prod.mk.injEq] at H
      obtain ⟨rfl, rfl, rfl⟩ := H; obtain ⟨ASz16_0, cSz16_0, HGz16, hgz16, HSz16_0⟩ := HI0.out; have hcz16_0 := cellS200_0 HGz16; have hcz16_1 := cellS200_1 HGz16; have hcz16_2 := cellS200_2 HGz16; have hfz16_1 := blk_frozen HGz16 1; have hfz16_2 := blk_frozen HGz16 2; clear HGz16 hgz16
      have p269 : 0 ≤ (s0_1 : Int) := of_decide_eq_true w4g11_
      have q269 : s0_1 < (s0_0.length : Int) := of_decide_eq_true w4g11_
      obtain ⟨ad269, e269, hx269_0⟩ := Kd.at_int HSz16_0 s0_1 p269 q269
      cases e269
      have hn269_0 : ad269.block ≠ g := Nat.ne_of_lt (Nat.lt_of_lt_of_le w7g11_ (IsS200.ge HI0.out))
      replace hx269_0 := pw_cell_below HB.out hx269_0
      replace hx269_0 := (cell_far (p := ⟨g, 2, none⟩) w6g11_ (.int .i64 (Int.tmod (wrap64 ((wrap64 (s0_2 * 48271)) + 61)) 2147483647))).trans hx269_0
      (try have hy269_0 := fun (n_ : Nat) => (show (((w.drewN n_).setCell ⟨g, 2, none⟩ (.int .i64 (Int.tmod (wrap64 ((wrap64 (s0_2 * 48271)) + 61)) 2147483647)))).cell? _ = some _ from hx269_0))
      clear hn269_0
      replace p269 := eq_true p269
      replace q269 := eq_true q269
      go_enter Tryd.func102, Tryd.ntmps102
      go_wp2
      repeat (go_quiet (fail); try go_wp2)
      go_ret
      exact ⟨w5g11_, w1g11_, w2g11_, w3g11_⟩
   ·
    rw [if_neg c5] at H
    exact absurd H (by simp)
  ·
   rw [if_neg c4] at H
   have c4b0 : decide (s0_1 < (s0_0.length : Int)) = false := decide_eq_false c4; clear c4
   by_cases c17 : a1 = 0
   ·
    rw [if_pos c17] at H
    exact absurd H (by simp)
   ·
    rw [if_neg c17] at H
    have c17b0 : (a1 == 0) = false := beq_eq_false_iff_ne.mpr c17; have c17b1 : (a1 != 0) = true := bne_iff_ne.mpr c17
    simp only [Option.some.injEq, Prod.mk.injEq] at H
    obtain ⟨rfl, rfl, rfl⟩ := H; obtain ⟨ASz18_0, cSz18_0, HGz18, hgz18, HSz18_0⟩ := HI0.out; have hcz18_0 := cellS200_0 HGz18; have hcz18_1 := cellS200_1 HGz18; have hcz18_2 := cellS200_2 HGz18; have hfz18_1 := blk_frozen HGz18 1; have hfz18_2 := blk_frozen HGz18 2; clear HGz18 hgz18
    go_enter Tryd.func102, Tryd.ntmps102
    go_wp2
    repeat (go_quiet (fail); try go_wp2)
    go_ret
    exact ⟨w5g11_, w1g11_, w2g11_, w3g11_⟩
end Go.Proofs.YtoiioapkebglgaaDoor.PG
end
section
namespace Go.Proofs.YtoiioapkebglgaaDoor.PG
open Go.RowKit Go.Proofs.YtoiioapkebglgaaDoorW.PrintWords Go.Proofs.YtoiioapkebglgaaDoorW.PrintLast Go.Proofs.YtoiioapkebglgaaDoorW.PrintMore
attribute [local go_sem] max2_int min2_int max_two min_two max_three min_three max_four min_four   -- for this text's walks alone
set_option linter.unusedVariables false
set_option linter.unusedSimpArgs false
def spec_l01Pick.f (s0_0 : List Int) (s0_1 : Int) (s0_2 : Int) (l1 : List Int) : Option (Int × Int × Int) := (spec_l01Next.f s0_0 s0_1 s0_2 (l1.length : Int)).bind fun bt271 => (if 0 ≤ bt271.1 then (if bt271.1 < (l1.length : Int) then (some (rd l1 bt271.1, bt271.2.1, bt271.2.2)) else (none)) else (none))
set_option maxHeartbeats 8000000 in
set_option maxRecDepth 100000 in
theorem spec_l01Pick.calls (g : Nat) (s0_0 : List Int) (s0_1 : Int) (s0_2 : Int) (A1 : Option Addr) (c1 : Nat) (l1 : List Int) (r1 : Int) (r2 : Int) (r3 : Int) (w0 w : World) (hI : IsS200 w0 w g s0_0 s0_1 s0_2) (hB : Below w0.heap.size w0 w) (hr1 : Kd.C (Kd.int .i64) w A1 l1.length l1) (hc1 : l1.length ≤ c1) (hf1 : ∀ ad, A1 = some ad → 0 < l1.length → ad.block ≠ g) (h : spec_l01Pick.f s0_0 s0_1 s0_2 l1 = some (r1, r2, r3)) :
    Calls Tryd.prog 101 #[.pointer (some ⟨g, 0, none⟩), .slice A1 l1.length c1] w fun e w' => e = .returned (.int .i64 r1) ∧ IsS200 w0 w' g s0_0 r2 r3 ∧ Below w0.heap.size w0 w' ∧ KeepBut w w' g none := by
  have HR1 := Aside0.mk hr1
  have HC1 := Aside0.mk hc1
  clear hr1 hc1
  have HI0 := Aside0.mk hI
  have HK := Aside0.mk (KeepBut.refl w g none)
  have HL := Aside0.mk hB.size
  clear hI
  have HW0 := Aside0.mk hB.size
  have HB := Aside0.mk hB
  clear hB
  have H : ((spec_l01Next.f s0_0 s0_1 s0_2 (l1.length : Int)).bind fun bt271 => (if 0 ≤ bt271.1 then (if bt271.1 < (l1.length : Int) then (some (rd l1 bt271.1, bt271.2.1, bt271.2.2)) else (none)) else (none))) = some (r1, r2, r3) := h
  clear h
  replace H := Option.bind_eq_some_iff.mp H
  obtain ⟨⟨t271, t272, t273⟩, A30, H⟩ := H
  replace H : (if 0 ≤ t271 then (if t271 < (l1.length : Int) then (some (rd l1 t271, t272, t273)) else (none)) else (none)) = some (r1, r2, r3) := H
  have A3 := Aside0.mk A30
  clear A30
  by_cases c4 : 0 ≤ t271
  · rw [if_pos c4] at H
    have c4b0 : decide (0 ≤ t271) = true := decide_eq_true c4
    clear c4
    by_cases c5 : t271 < (l1.length : Int)
    · rw [if_pos c5] at H
      have c5b0 : decide (t271 < (l1.length : Int)) = true := decide_eq_true c5
      clear c5
      simp only [Option.some.injEq, Prod.mk.injEq] at H
      obtain ⟨rfl, rfl, rfl⟩ := H
      go_enter Tryd.func101, Tryd.ntmps101
      go_wp2_with (first | ((with_reducible refine gate_callee (f := 102) rfl ?_); refine goesL_ (some 9) rfl rfl Tryd.func102 (by kernel_rfl) rfl #[.pointer (some ⟨g, 0, none⟩), .int .i64 (l1.length : Int)] rfl (by (try simp only [List.map_toArray, List.map_cons, List.map_nil]); first | done | rfl | (simp only [List.length_drop, List.length_take]; rfl)) ?_; (with_reducible refine (spec_l01Next.calls g s0_0 s0_1 s0_2 (l1.length : Int) t271 t272 t273 w0 _ ?side1 ?side2 A3.out).mono ?_); (case side1 => repeat (first | (with_reducible first | exact HI0.out | apply IsS200.alloc | apply IsS200.drewN | apply IsS200.drew | apply IsS200.set_1 | apply IsS200.set_2) | exact HI0.out)); (case side2 => repeat (first | (with_reducible first | exact HB.out | apply below_alloc | apply pw_below_drewN | apply below_drew1 | refine below_set ?_ (IsS200.ge HI0.out)) | exact HB.out)); rintro e w6 ⟨rfl, hi, hb, hk⟩; refine ⟨_, rfl, ?_⟩; have n0_ := Aside0.mk (KeepBut.trans (by repeat (first | (with_reducible first | exact HK.out | apply KeepBut.set_ | apply keep_drewN | apply keep_drew | apply keep_alloc) | exact HK.out)) hk (.inl rfl)); have n1_ := Aside0.mk (hb); have n2_ := Aside0.mk (hi); clear HK; clear HB; clear HI0; have HK := n0_; have HB := n1_; have HI0 := n2_; clear n0_ n1_ n2_; (try clear hb); (try clear hb2); (try clear hk); (try clear hi); have p274 : 0 ≤ (t271 : Int) := of_decide_eq_true (by first | (with_reducible assumption) | assumption); have q274 : t271 < (l1.length : Int) := of_decide_eq_true (by first | (with_reducible assumption) | assumption); obtain ⟨ad274, e274, hx274_0⟩ := Kd.at_int HR1.out t271 p274 q274; cases e274; replace hx274_0 := keep_cell HK.out hx274_0 (by first | (rw [add_block]; exact hf1 _ rfl (by omega)) | exact hf1 _ rfl (by omega) | exact hf1 ad274 rfl (by omega)); replace p274 := eq_true p274; replace q274 := eq_true q274))
      go_ret
      exact ⟨(by first | rfl | (simp [errW_none, errW_some] <;> rfl) | (simp [*, errW_none, errW_some] <;> rfl)), (by repeat (first | (with_reducible first | exact HI0.out | apply IsS200.alloc | apply IsS200.drewN | apply IsS200.drew | apply IsS200.set_1 | apply IsS200.set_2) | exact HI0.out)), (by repeat (first | (with_reducible first | exact HB.out | apply below_alloc | apply pw_below_drewN | apply below_drew1 | refine below_set ?_ (IsS200.ge HI0.out)) | exact HB.out)), (by repeat (first | (with_reducible first | exact HK.out | apply KeepBut.set_ | apply keep_drewN | apply keep_drew | apply keep_alloc) | exact HK.out))⟩
    · rw [if_neg c5] at H
      exact absurd H (by simp)
  · rw [if_neg c4] at H
    exact absurd H (by simp)
end Go.Proofs.YtoiioapkebglgaaDoor.PG
end
section
namespace Go.Proofs.YtoiioapkebglgaaDoor.PG
open Go.RowKit Go.Proofs.YtoiioapkebglgaaDoorW.PrintWords Go.Proofs.YtoiioapkebglgaaDoorW.PrintLast Go.Proofs.YtoiioapkebglgaaDoorW.PrintMore
attribute [local go_sem] max2_int min2_int max_two min_two max_three min_three max_four min_four   -- for this text's walks alone
set_option linter.unusedVariables false
set_option linter.unusedSimpArgs false
def spec_JournalText.l0 : Nat → List (S70) → List Int → Int → Option (ByteArray × Int)
  | 0, _, _, _ => none
  | k + 1, x0, x6, x7 => if x7 < (x0.length : Int) then (if 0 ≤ x7 then ((spec_l29Line.f k ((rd_T70 x0 x7).f0) ((rd_T70 x0 x7).f1) x7).bind fun t265 => (if t265.size + 1 ≤ 9223372036854775807 then (if x6.length + (t265 ++ (⟨#[10]⟩ : ByteArray)).size < 140737488355328 then (spec_JournalText.l0 k x0 (x6 ++ bytesOf (t265 ++ (⟨#[10]⟩ : ByteArray))) (wrap64 (x7 + 1))) else (none)) else (none))) else (none)) else (some (strOfNums x6, 0))
def spec_JournalText.f (k : Nat) (l0 : List (S70)) : Option (ByteArray × Int) := (spec_l29Run.f k l0).bind fun bt255 => (if bt255.2.2.2.2 = true then (spec_JournalText.l0 k l0 (([] : List Int)) 0) else (some ((⟨#[]⟩ : ByteArray), 1)))
theorem ag10_ {p : Prop} (h : p) : Aside0 p := ⟨h⟩
theorem w1g10_ {p : Prop} (h : p := by repeat (first | (with_reducible first | exact HB.out | apply below_alloc | apply pw_below_drewN | apply below_drew1 | refine below_set ?_ GE260.out) | exact HB.out)) : p := h
theorem w2g10_ {p : Prop} (h : p := by repeat (first | (with_reducible first | exact HB.out | apply below_alloc | apply pw_below_drewN | apply below_drew1) | exact HB.out)) : p := h
theorem w3g10_ {p : Prop} (h : p := by (with_reducible repeat (first | refine blk_drewN ?_ _ | refine blk_drew ?_ | refine blk_alloc ?_ _)); exact BK260.out) : p := h
theorem w4g10_ {p : Prop} (h : p := by (try simp only [List.map_toArray, List.map_cons, List.map_nil]); first | done | rfl | (simp only [List.length_drop, List.length_take]; rfl)) : p := h
theorem w5g10_ {p : Prop} (h : p := by repeat (first | exact HR0.out | (with_reducible refine Kd.C_alloc ?_ _) | (with_reducible refine Kd.C_drewN ?_ _) | (with_reducible refine Kd.C_drew ?_))) : p := h
set_option maxHeartbeats 8000000 in
set_option maxRecDepth 100000 in
theorem spec_JournalText.calls (k : Nat) (A0 : Option Addr) (c0 : Nat) (l0 : List (S70)) (r1 : ByteArray) (r2 : Int) (w : World) (hr0 : Kd.C k70 w A0 l0.length l0) (hc0 : l0.length ≤ c0) (h : spec_JournalText.f k l0 = some (r1, r2)) :
 Calls Tryd.prog 43 #[.slice A0 l0.length c0] w fun e w' => e = .returned (.tuple #[.string r1, .int .i64 r2]) ∧ Below w.heap.size w w' := by
 have hu68 := Tryd.underlying68; have hu70 := Tryd.underlying70; have HR0 := ag10_ hr0; have HC0 := ag10_ hc0; clear hr0 hc0; have HB := ag10_ (Below.refl w.heap.size w); have H : ((spec_l29Run.f k l0).bind fun bt255 => (if bt255.2.2.2.2 = true then (spec_JournalText.l0 k l0 (([] : List Int)) 0) else (some ((⟨#[]⟩ : ByteArray), 1)))) = some (r1, r2) := h; clear h
 replace H := Option.bind_eq_some_iff.mp H
 obtain ⟨⟨t255, t256, t257, t258, t259⟩, A20, H⟩ := H
 try dsimp only at H
 have A2 := ag10_ A20; clear A20
 by_cases c3 : t259 = true
 ·
  subst c3
  have H1 : (spec_JournalText.l0 k l0 (([] : List Int)) 0) = some (r1, r2) := by rw [if_pos rfl] at H; exact H
  clear H; have H := H1; clear H1; obtain ⟨y261, hy261⟩ : ∃ y_ : List Int, y_ = (([] : List Int)) := ⟨_, rfl⟩
  replace H : (spec_JournalText.l0 k l0 y261 0) = some (r1, r2) := by first | (rw [hy261]; with_reducible exact H) | (have H2_ := (Option.bind_some _ _).symm.trans H; rw [hy261]; with_reducible exact H2_) | (have H2_ := (Option.bind_some _ _).symm.trans H; with_reducible exact H2_) | with_reducible exact H | (rw [hy261]; exact H) | exact H
  have Ny261 := ag10_ hy261; clear hy261; have H' := ag10_ H; clear H
  go_enter Tryd.func43, Tryd.ntmps43
  go_wp2_with (first | ((with_reducible refine gate_callee (f := 57) rfl ?_); refine goesL_ (some 10) rfl rfl Tryd.func57 (by kernel_rfl) rfl #[.slice A0 l0.length c0] rfl w4g10_ ?_; (with_reducible refine (spec_l29Run.calls k _ _ l0 t255 t256 t257 t258 true _ ?side1 ?side2 A2.out).mono ?_); (case side1 => exact w5g10_); (case side2 => exact HC0.out); rintro e w4 ⟨rfl, hb⟩; refine ⟨_, rfl, ?_⟩; replace HB := ag10_ (below_step w2g10_ hb); clear hb) | ((with_reducible refine gate_dst (N := 4) rfl ?_); refine be_ (N := 4) (cs := #[.int .i64 0, .int .i64 0, .int .i64 0, .int .i64 0]) (t := 68) ?_; intro gb260 hg w5 hbox hb; have BK260 := ag10_ (hbox); have GW260 := gw_ (w := w) hg w2g10_; have GE260 := gw_ (w := w) hg w2g10_; replace HB := ag10_ (below_step w2g10_ hb); clear hb hbox hg; obtain ⟨hcz6_0, hcz6_1, hcz6_2, hcz6_3⟩ := blk4 BK260.out; obtain ⟨hfz6_0, hfz6_1, hfz6_2, hfz6_3⟩ := frz4 BK260.out) | ((with_reducible refine gate_dst (N := 15) rfl ?_); refine Kd.R_lit (Kd.int .u8) _ 5 ?hg (N := 15) ?hd (xs := ([] : List Int)) (inner := []) (ok := fun _ => True) (okp := fun _ => True) ?hr ?hp (fun _ hk => hk) trivial (Below.refl _ _) (Nat.le_refl _) (by simp) ?_; (case hd => rfl); (case hg => rfl); (case hr => first | (go_simp; done) | (go_simp; rfl)); (case hp => exact (Reps.none _ _)); intro v262 w7 ho8 hb hg_ hnew_; clear hg_ hnew_; (first | rw [← Ny261.out] at ho8 | (simp only [Int.reduceToNat] at ho8; rw [← Ny261.out] at ho8)); have n0_ := ag10_ (Kd.R_lower ho8 (below_size w1g10_)); have n1_ := ag10_ (blk_below (g := gb260) (o := .cells #[.int .i64 t255, .int .i64 t256, .int .i64 t257, .int .i64 t258] 68 (0, 0)) (by (with_reducible repeat (first | refine blk_drewN ?_ _ | refine blk_drew ?_ | refine blk_alloc ?_ _)); refine blk_put (cs := #[.int .i64 t255, .int .i64 t256, .int .i64 t257, .int .i64 0]) ?_ 3 _ rfl; (with_reducible repeat (first | refine blk_drewN ?_ _ | refine blk_drew ?_ | refine blk_alloc ?_ _)); refine blk_put (cs := #[.int .i64 t255, .int .i64 t256, .int .i64 0, .int .i64 0]) ?_ 2 _ rfl; (with_reducible repeat (first | refine blk_drewN ?_ _ | refine blk_drew ?_ | refine blk_alloc ?_ _)); refine blk_put (cs := #[.int .i64 t255, .int .i64 0, .int .i64 0, .int .i64 0]) ?_ 1 _ rfl; (with_reducible repeat (first | refine blk_drewN ?_ _ | refine blk_drew ?_ | refine blk_alloc ?_ _)); refine blk_put (cs := #[.int .i64 0, .int .i64 0, .int .i64 0, .int .i64 0]) ?_ 0 _ rfl; (with_reducible repeat (first | refine blk_drewN ?_ _ | refine blk_drew ?_ | refine blk_alloc ?_ _)); exact BK260.out) hb); have n2_ := ag10_ (below_step w1g10_ hb); clear BK260; clear HB; have HO263 := n0_; have BK260 := n1_; have HB := n2_; clear n0_ n1_ n2_; clear hb ho8))
  go_loopg [6, 7] k (fun kq v6 v7 w' => ∃ (x6_1 : List Int) (x7_1 : Int), v7 = .int .i64 x7_1 ∧ Aside0 (spec_JournalText.l0 kq l0 x6_1 x7_1 = some (r1, r2)) ∧ Aside0 (kq ≤ k) ∧ Aside0 (Kd.R (Kd.int .u8) 5 w' w.heap.size (fun _ => True) v6 x6_1) ∧ Aside0 (w'.heap[gb260]? = some (.cells #[.int .i64 t255, .int .i64 t256, .int .i64 t257, .int .i64 t258] 68 (0, 0))) ∧ Aside0 (Below w.heap.size w w'))
  case atStart => exact ⟨(y261), (0), (by first | rfl | (simp; done) | (simp [*]; done)), H', ⟨Nat.le_refl _⟩, ⟨(by (with_reducible repeat (first | apply Kd.R_alloc | apply Kd.R_drewN | apply Kd.R_drew)); exact HO263.out)⟩, ⟨w3g10_⟩, ⟨w1g10_⟩⟩
  case round =>
   clear H'
   try clear c3
   try clear hcz6_0
   try clear hcz6_1
   try clear hcz6_2
   try clear hcz6_3
   try clear hfz6_0
   try clear hfz6_1
   try clear hfz6_2
   try clear hfz6_3
   obtain ⟨x6_1, x7_1, rfl, HA, HK1, HO_6, BK260, HB⟩ := hrel
   cases gk with
   | zero => exact absurd HA.out (by simp [spec_JournalText.l0])
   | succ k1 =>
    have H := HA.out; clear HA
    simp only [spec_JournalText.l0] at H
    by_cases c9 : x7_1 < (l0.length : Int)
    ·
     rw [if_pos c9] at H
     have c9b0 : decide (x7_1 < (l0.length : Int)) = true := decide_eq_true c9; clear c9
     by_cases c10 : 0 ≤ x7_1
     ·
      rw [if_pos c10] at H
      have c10b0 : decide (0 ≤ x7_1) = true := decide_eq_true c10; clear c10
      replace H := Option.bind_eq_some_iff.mp H
      obtain ⟨t265, A110, H⟩ := H
      try dsimp only at H
      have A11 := ag10_ A110; clear A110
      by_cases c12 : t265.size + 1 ≤ 9223372036854775807
      ·
       rw [if_pos c12] at H
       have c12b0 := eq_true c12; have c12b1 : decide (t265.size + 1 ≤ 9223372036854775807) = true := decide_eq_true c12
       try have c12b2 : (9223372036854775807 < t265.size + 1) = False := eq_false (Nat.not_lt.2 c12)
       by_cases c13 : x6_1.length + (t265 ++ (⟨#[10]⟩ : ByteArray)).size < 140737488355328
       ·
        rw [if_pos c13] at H
        have LMc13 := ag10_ c13; clear c13; obtain ⟨y266, hy266⟩ : ∃ y_ : List Int, y_ = (x6_1 ++ bytesOf (t265 ++ (⟨#[10]⟩ : ByteArray))) := ⟨_, rfl⟩
        replace H : (spec_JournalText.l0 k1 l0 y266 (wrap64 (x7_1 + 1))) = some (r1, r2) := by first | (rw [hy266]; with_reducible exact H) | (have H2_ := (Option.bind_some _ _).symm.trans H; rw [hy266]; with_reducible exact H2_) | (have H2_ := (Option.bind_some _ _).symm.trans H; with_reducible exact H2_) | with_reducible exact H | (rw [hy266]; exact H) | exact H
        have Ny266 := ag10_ hy266; clear hy266; have H' := ag10_ H; clear H
        have p264 : 0 ≤ (x7_1 : Int) := of_decide_eq_true (by first | (with_reducible assumption) | assumption)
        have q264 : x7_1 < (l0.length : Int) := of_decide_eq_true (by first | (with_reducible assumption) | assumption)
        obtain ⟨ad264, e264, hx264_0, hx264_1⟩ := at_T70 HR0.out x7_1 p264 q264
        cases e264
        replace hx264_0 := (HB.out.cell (World.block_lt_of_cell? _ _ hx264_0)).trans hx264_0
        replace hx264_1 := (HB.out.cell (World.block_lt_of_cell? _ _ hx264_1)).trans hx264_1
        replace p264 := eq_true p264
        replace q264 := eq_true q264
        go_wp2_with (first | ((with_reducible refine gate_callee (f := 111) rfl ?_); refine goesL_ (some 28) rfl rfl Tryd.func111 (by kernel_rfl) rfl #[.agg #[.int .i64 ((rd_T70 l0 x7_1).f0), .int .i64 ((rd_T70 l0 x7_1).f1)], .int .i64 x7_1] rfl w4g10_ ?_; (with_reducible refine (spec_l29Line.calls k1 ((rd_T70 l0 x7_1).f0) ((rd_T70 l0 x7_1).f1) x7_1 t265 _ A11.out).mono ?_); rintro e w14 ⟨rfl, hb⟩; refine ⟨_, rfl, ?_⟩; have n0_ := ag10_ (Kd.R_below (by (with_reducible repeat (first | apply Kd.R_alloc | apply Kd.R_drewN | apply Kd.R_drew)); exact HO_6.out) hb); have n1_ := ag10_ (blk_below w3g10_ hb); have n2_ := ag10_ (below_step w1g10_ hb); clear HO_6; clear BK260; clear HB; have HO_6 := n0_; have BK260 := n1_; have HB := n2_; clear n0_ n1_ n2_; clear hb) | (at_builtin; refine print_append_str (w0 := w) w.heap.size rfl (.tmp 22) _ 63 9 5 rfl Tryd.underlying63 Tryd.underlying9 info5 u6 x6_1 (t265 ++ (⟨#[10]⟩ : ByteArray)) rfl rfl ?aO ?aB ?aS ?aL ?_; (case aB => exact w1g10_); (case aO => exact (Kd.own_of_R (by (with_reducible repeat (first | apply Kd.R_alloc | apply Kd.R_drewN | apply Kd.R_drew)); exact HO_6.out))); (case aS => exact (below_size w1g10_)); (case aL => have := LMc13.out; omega); intro v267 w15 ho0 hb hg; have ho := Kd.R_of_own (h1 := fun _ => rfl) (ok := fun _ => True) ho0 (fun _ _ => trivial); clear ho0; have hat := True.intro; rw [← Ny266.out] at ho; change Kd.R (Kd.int .u8) 5 w15 w.heap.size (fun _ => True) v267 y266 at ho; have n0_ := ag10_ (blk_grown (g := gb260) (o := .cells #[.int .i64 t255, .int .i64 t256, .int .i64 t257, .int .i64 t258] 68 (0, 0)) w3g10_ hg (Kd.R_ne HO_6.out BK260.out (by decide))); have n1_ := ag10_ (hb); have n2_ := ag10_ (ho); clear BK260; clear HB; clear HO_6; have BK260 := n0_; have HB := n1_; have HO268 := n2_; clear n0_ n1_ n2_; clear ho hb hg hat))
        go_roundg k1
        case measure => have := HK1.out; omega
        case rel => exact ⟨(y266), (wrap64 (x7_1 + 1)), (by first | rfl | (simp; done) | (simp [*]; done)), H', ⟨(by have := HK1.out; omega)⟩, ⟨(by (with_reducible repeat (first | apply Kd.R_alloc | apply Kd.R_drewN | apply Kd.R_drew)); exact HO268.out)⟩, ⟨w3g10_⟩, ⟨w1g10_⟩⟩
       ·
        rw [if_neg c13] at H
        exact absurd H (by simp)
      ·
       rw [if_neg c12] at H
       exact absurd H (by simp)
     ·
      rw [if_neg c10] at H
      exact absurd H (by simp)
    ·
     rw [if_neg c9] at H
     have c9b0 : decide (x7_1 < (l0.length : Int)) = false := decide_eq_false c9; clear c9
     simp only [Option.some.injEq, Prod.mk.injEq] at H
     obtain ⟨rfl, rfl⟩ := H; have hcv16 := own_string (P := Tryd.prog) Tryd.underlying63 Tryd.underlying5 Tryd.underlying9 (Kd.own_of_R HO_6.out)
     go_wp2
     go_ret2
     exact ⟨(by first | rfl | (simp [errW_none, errW_some] <;> rfl) | (simp [*, errW_none, errW_some] <;> rfl)), w1g10_⟩
 ·
  replace c3 := Bool.eq_false_iff.mpr c3
  subst c3
  rw [if_neg (show ¬ (false = true) by decide)] at H
  simp only [Option.some.injEq, Prod.mk.injEq] at H
  obtain ⟨rfl, rfl⟩ := H
  go_enter Tryd.func43, Tryd.ntmps43
  go_wp2_with (first | ((with_reducible refine gate_callee (f := 57) rfl ?_); refine goesL_ (some 10) rfl rfl Tryd.func57 (by kernel_rfl) rfl #[.slice A0 l0.length c0] rfl w4g10_ ?_; (with_reducible refine (spec_l29Run.calls k _ _ l0 t255 t256 t257 t258 false _ ?side1 ?side2 A2.out).mono ?_); (case side1 => exact w5g10_); (case side2 => exact HC0.out); rintro e w17 ⟨rfl, hb⟩; refine ⟨_, rfl, ?_⟩; replace HB := ag10_ (below_step w2g10_ hb); clear hb) | ((with_reducible refine gate_dst (N := 4) rfl ?_); refine be_ (N := 4) (cs := #[.int .i64 0, .int .i64 0, .int .i64 0, .int .i64 0]) (t := 68) ?_; intro gb260 hg w18 hbox hb; have BK260 := ag10_ (hbox); have GW260 := gw_ (w := w) hg w2g10_; have GE260 := gw_ (w := w) hg w2g10_; replace HB := ag10_ (below_step w2g10_ hb); clear hb hbox hg; obtain ⟨hcz19_0, hcz19_1, hcz19_2, hcz19_3⟩ := blk4 BK260.out; obtain ⟨hfz19_0, hfz19_1, hfz19_2, hfz19_3⟩ := frz4 BK260.out))
  go_ret2
  exact ⟨(by first | rfl | (simp [errW_none, errW_some] <;> rfl) | (simp [*, errW_none, errW_some] <;> rfl)), w1g10_⟩
end Go.Proofs.YtoiioapkebglgaaDoor.PG
end
section
namespace Go.Proofs.YtoiioapkebglgaaDoor.PG
open Go.RowKit Go.Proofs.YtoiioapkebglgaaDoorW.PrintWords Go.Proofs.YtoiioapkebglgaaDoorW.PrintLast Go.Proofs.YtoiioapkebglgaaDoorW.PrintMore
attribute [local go_sem] max2_int min2_int max_two min_two max_three min_three max_four min_four   -- for this text's walks alone
set_option linter.unusedVariables false
set_option linter.unusedSimpArgs false
def spec_l29DrawEntry.j0 : Nat → Bool → List Int → Int → Int → Option (Int × Int × Int × Int)
  | 0, _, _, _, _ => none
  | k + 1, x28, x1000, x1001, x1002 => if x28 = true then ((spec_l01Next.f x1000 x1001 x1002 5).bind fun bt295 => (some (3, bt295.1, bt295.2.1, bt295.2.2))) else ((spec_l01Next.f x1000 x1001 x1002 60).bind fun bt298 => (some (2, bt298.1, bt298.2.1, bt298.2.2)))
def spec_l29DrawEntry.f (k : Nat) (s0_0 : List Int) (s0_1 : Int) (s0_2 : Int) (a1_0 : Int) (a1_1 : Int) (a1_2 : Int) (a1_3 : Int) : Option (Int × Int × Int × Int) := (spec_l01Next.f s0_0 s0_1 s0_2 20).bind fun bt277 => (if bt277.1 = 0 then ((spec_l01Next.f s0_0 bt277.2.1 bt277.2.2 6).bind fun bt280 => ((spec_l01Pick.f s0_0 bt280.2.1 bt280.2.2 (([(-1), 0, 12, 1000000000, 1000000001, 1000000] : List Int))).bind fun bt286 => (some (bt280.1, bt286.1, bt286.2.1, bt286.2.2)))) else (if a1_0 = 0 then ((spec_l01Next.f s0_0 bt277.2.1 bt277.2.2 40).bind fun bt289 => (some (1, wrap64 (1 + bt289.1), bt289.2.1, bt289.2.2))) else ((spec_l01Next.f s0_0 bt277.2.1 bt277.2.2 6).bind fun bt292 => (if bt292.1 = 0 then (some (4, a1_1, bt292.2.1, bt292.2.2)) else (if bt292.1 = 1 then (spec_l29DrawEntry.j0 k (bt292.1 == 1) s0_0 bt292.2.1 bt292.2.2) else (spec_l29DrawEntry.j0 k (bt292.1 == 2) s0_0 bt292.2.1 bt292.2.2))))))
theorem ag12_ {p : Prop} (h : p) : Aside0 p := ⟨h⟩
theorem w1g12_ {p : Prop} (h : p := by repeat (first | (with_reducible first | exact HI0.out | apply IsS200.alloc | apply IsS200.drewN | apply IsS200.drew | apply IsS200.set_1 | apply IsS200.set_2 | refine IsS200.far ?_ NB0_275.out _ | refine IsS200.far ?_ NB0_276.out _) | exact HI0.out)) : p := h
theorem w2g12_ {p : Prop} (h : p := by repeat (first | (with_reducible first | exact HB.out | apply below_alloc | apply pw_below_drewN | apply below_drew1 | refine below_set ?_ (IsS200.ge HI0.out) | refine below_set ?_ GE275.out | refine below_set ?_ GE276.out) | exact HB.out)) : p := h
theorem w3g12_ {p : Prop} (h : p := by repeat (first | (with_reducible first | exact HK.out | apply KeepBut.set_ | apply keep_drewN | apply keep_drew | apply keep_alloc | refine keep_far ?_ GW275.out _ | refine keep_far ?_ GW276.out _) | exact HK.out)) : p := h
theorem w4g12_ {p : Prop} (h : p := by (with_reducible repeat (first | refine blk_drewN ?_ _ | refine blk_drew ?_ | refine blk_alloc ?_ _)); exact BK275.out) : p := h
theorem w5g12_ {p : Prop} (h : p := by repeat (first | (with_reducible first | exact HI0.out | apply IsS200.alloc | apply IsS200.drewN | apply IsS200.drew | apply IsS200.set_1 | apply IsS200.set_2 | refine IsS200.far ?_ NB0_275.out _) | exact HI0.out)) : p := h
theorem w6g12_ {p : Prop} (h : p := by repeat (first | (with_reducible first | exact HK.out | apply KeepBut.set_ | apply keep_drewN | apply keep_drew | apply keep_alloc | refine keep_far ?_ GW275.out _) | exact HK.out)) : p := h
theorem w7g12_ {p : Prop} (h : p := by repeat (first | (with_reducible first | exact HI0.out | apply IsS200.alloc | apply IsS200.drewN | apply IsS200.drew | apply IsS200.set_1 | apply IsS200.set_2) | exact HI0.out)) : p := h
theorem w8g12_ {p : Prop} (h : p := by repeat (first | (with_reducible first | exact HK.out | apply KeepBut.set_ | apply keep_drewN | apply keep_drew | apply keep_alloc) | exact HK.out)) : p := h
theorem w9g12_ {p : Prop} (h : p := by (with_reducible repeat (first | refine blk_drewN ?_ _ | refine blk_drew ?_ | refine blk_alloc ?_ _)); exact BK276.out) : p := h
theorem w10g12_ {p : Prop} (h : p := by (try simp only [List.map_toArray, List.map_cons, List.map_nil]); first | done | rfl | (simp only [List.length_drop, List.length_take]; rfl)) : p := h
theorem w11g12_ {p : Prop} (h : p := by repeat (first | (with_reducible first | exact HB.out | apply below_alloc | apply pw_below_drewN | apply below_drew1 | refine below_set ?_ (IsS200.ge HI0.out) | refine below_set ?_ GE275.out) | exact HB.out)) : p := h
theorem w12g12_ {p : Prop} (h : p := by repeat (first | (with_reducible first | exact HB.out | apply below_alloc | apply pw_below_drewN | apply below_drew1 | refine below_set ?_ (IsS200.ge HI0.out)) | exact HB.out)) : p := h
theorem w13g12_ {p : Prop} (h : p := by first | rfl | (simp [errW_none, errW_some] <;> rfl) | (simp [*, errW_none, errW_some] <;> rfl)) : p := h
set_option maxHeartbeats 8000000 in
set_option maxRecDepth 100000 in
theorem spec_l29DrawEntry.calls (k : Nat) (g : Nat) (s0_0 : List Int) (s0_1 : Int) (s0_2 : Int) (a1_0 : Int) (a1_1 : Int) (a1_2 : Int) (a1_3 : Int) (r1 : Int) (r2 : Int) (r3 : Int) (r4 : Int) (w0 w : World) (hI : IsS200 w0 w g s0_0 s0_1 s0_2) (hB : Below w0.heap.size w0 w) (h : spec_l29DrawEntry.f k s0_0 s0_1 s0_2 a1_0 a1_1 a1_2 a1_3 = some (r1, r2, r3, r4)) :
 Calls Tryd.prog 104 #[.pointer (some ⟨g, 0, none⟩), .agg #[.int .i64 a1_0, .int .i64 a1_1, .int .i64 a1_2, .int .i64 a1_3]] w fun e w' => e = .returned (.agg #[.int .i64 r1, .int .i64 r2]) ∧ IsS200 w0 w' g s0_0 r3 r4 ∧ Below w0.heap.size w0 w' ∧ KeepBut w w' g none := by
 have hu68 := Tryd.underlying68; have hu70 := Tryd.underlying70; have HI0 := ag12_ hI; have HK := ag12_ (KeepBut.refl w g none); have HL := ag12_ hB.size; clear hI; have HW0 := ag12_ hB.size; have HB := ag12_ hB; clear hB; have H : ((spec_l01Next.f s0_0 s0_1 s0_2 20).bind fun bt277 => (if bt277.1 = 0 then ((spec_l01Next.f s0_0 bt277.2.1 bt277.2.2 6).bind fun bt280 => ((spec_l01Pick.f s0_0 bt280.2.1 bt280.2.2 (([(-1), 0, 12, 1000000000, 1000000001, 1000000] : List Int))).bind fun bt286 => (some (bt280.1, bt286.1, bt286.2.1, bt286.2.2)))) else (if a1_0 = 0 then ((spec_l01Next.f s0_0 bt277.2.1 bt277.2.2 40).bind fun bt289 => (some (1, wrap64 (1 + bt289.1), bt289.2.1, bt289.2.2))) else ((spec_l01Next.f s0_0 bt277.2.1 bt277.2.2 6).bind fun bt292 => (if bt292.1 = 0 then (some (4, a1_1, bt292.2.1, bt292.2.2)) else (if bt292.1 = 1 then (spec_l29DrawEntry.j0 k (bt292.1 == 1) s0_0 bt292.2.1 bt292.2.2) else (spec_l29DrawEntry.j0 k (bt292.1 == 2) s0_0 bt292.2.1 bt292.2.2))))))) = some (r1, r2, r3, r4) := h; clear h
 replace H := Option.bind_eq_some_iff.mp H
 obtain ⟨⟨t277, t278, t279⟩, A30, H⟩ := H
 try dsimp only at H
 have A3 := ag12_ A30; clear A30
 by_cases c4 : t277 = 0
 ·
  rw [if_pos c4] at H
  have c4b0 : (t277 == 0) = true := beq_iff_eq.mpr c4; have c4b1 : (t277 != 0) = false := bne_eq_false_iff_eq.mpr c4; clear c4
  replace H := Option.bind_eq_some_iff.mp H
  obtain ⟨⟨t280, t281, t282⟩, A50, H⟩ := H
  try dsimp only at H
  have A5 := ag12_ A50; clear A50; obtain ⟨y283, hy283⟩ : ∃ y_ : List Int, y_ = (([(-1), 0, 12, 1000000000, 1000000001, 1000000] : List Int)) := ⟨_, rfl⟩
  replace H : ((spec_l01Pick.f s0_0 t281 t282 y283).bind fun bt286 => (some (t280, bt286.1, bt286.2.1, bt286.2.2))) = some (r1, r2, r3, r4) := by first | (rw [hy283]; with_reducible exact H) | (have H2_ := (Option.bind_some _ _).symm.trans H; rw [hy283]; with_reducible exact H2_) | (have H2_ := (Option.bind_some _ _).symm.trans H; with_reducible exact H2_) | with_reducible exact H | (rw [hy283]; exact H) | exact H
  have Ny283 := ag12_ hy283; clear hy283
  replace H := Option.bind_eq_some_iff.mp H
  obtain ⟨⟨t286, t287, t288⟩, A60, H⟩ := H
  try dsimp only at H
  have A6 := ag12_ A60; clear A60
  simp only [Option.some.injEq, Prod.mk.injEq] at H
  obtain ⟨rfl, rfl, rfl, rfl⟩ := H
  go_enter Tryd.func104, Tryd.ntmps104
  go_wp2_with (first | ((with_reducible refine gate_dst (N := 3) rfl ?_); refine be_ (N := 3) (cs := #[.int .i64 a1_0, .int .i64 a1_1, .int .i64 a1_2, .int .i64 a1_3]) (t := 68) ?_; intro gb275 hg w7 hbox hb; have BK275 := ag12_ (hbox); have GW275 := ag12_ ((by rw [hg]; exact (keep_size (w := w) (g := g) (row := none) w8g12_) : w.heap.size ≤ gb275)); have GE275 := ag12_ ((Nat.le_trans HW0.out (by rw [hg]; exact (keep_size (w := w) (g := g) (row := none) w8g12_) : w.heap.size ≤ gb275) : w0.heap.size ≤ gb275)); have NB0_275 := ag12_ ((by rw [hg]; exact Nat.ne_of_lt (IsS200.lt (show IsS200 w0 _ g s0_0 s0_1 s0_2 from w7g12_)) : g ≠ gb275)); have NB275_0 := ag12_ ((by rw [hg]; exact Nat.ne_of_gt (IsS200.lt (show IsS200 w0 _ g s0_0 s0_1 s0_2 from w7g12_)) : gb275 ≠ g)); replace HK := ag12_ (KeepBut.trans w8g12_ (KeepBut.of_below hb g none) (.inl rfl)); replace HB := ag12_ (below_step w12g12_ hb); replace HI0 := ag12_ (IsS200.below w7g12_ hb); clear hb hbox hg) | ((with_reducible refine gate_dst (N := 4) rfl ?_); refine be_ (N := 4) (cs := #[.int .i64 0, .int .i64 0]) (t := 70) ?_; intro gb276 hg w8 hbox hb; have BK276 := ag12_ (hbox); have GW276 := ag12_ ((by rw [hg]; exact (keep_size (w := w) (g := g) (row := none) w6g12_) : w.heap.size ≤ gb276)); have GE276 := ag12_ ((Nat.le_trans HW0.out (by rw [hg]; exact (keep_size (w := w) (g := g) (row := none) w6g12_) : w.heap.size ≤ gb276) : w0.heap.size ≤ gb276)); obtain ⟨NB275_276, NB276_275⟩ := nb2_ hg w4g12_; have NB0_276 := ag12_ ((by rw [hg]; exact Nat.ne_of_lt (IsS200.lt (show IsS200 w0 _ g s0_0 s0_1 s0_2 from w5g12_)) : g ≠ gb276)); have NB276_0 := ag12_ ((by rw [hg]; exact Nat.ne_of_gt (IsS200.lt (show IsS200 w0 _ g s0_0 s0_1 s0_2 from w5g12_)) : gb276 ≠ g)); replace BK275 := ag12_ (blk_below w4g12_ hb); replace HK := ag12_ (KeepBut.trans w6g12_ (KeepBut.of_below hb g none) (.inl rfl)); replace HB := ag12_ (below_step w11g12_ hb); replace HI0 := ag12_ (IsS200.below w5g12_ hb); clear hb hbox hg) | ((with_reducible refine gate_callee (f := 102) rfl ?_); refine goesL_ (some 6) rfl rfl Tryd.func102 (by kernel_rfl) rfl #[.pointer (some ⟨g, 0, none⟩), .int .i64 20] rfl w10g12_ ?_; (with_reducible refine (spec_l01Next.calls g s0_0 s0_1 s0_2 20 t277 t278 t279 w0 _ ?side1 ?side2 A3.out).mono ?_); (case side1 => exact w1g12_); (case side2 => exact w2g12_); rintro e w9 ⟨rfl, hi, hb, hk⟩; refine ⟨_, rfl, ?_⟩; replace BK275 := ag12_ (KeepBut.blk hk (g' := gb275) (o := .cells #[.int .i64 a1_0, .int .i64 a1_1, .int .i64 a1_2, .int .i64 a1_3] 68 (0, 0)) w4g12_ NB275_0.out (by simp)); replace BK276 := ag12_ (KeepBut.blk hk (g' := gb276) (o := .cells #[.int .i64 0, .int .i64 0] 70 (0, 0)) w9g12_ NB276_0.out (by simp)); replace HK := ag12_ (KeepBut.trans w3g12_ hk (.inl rfl)); replace HB := ag12_ (hb); replace HI0 := ag12_ (hi); clear hb hk hi) | ((with_reducible refine gate_callee (f := 102) rfl ?_); refine goesL_ (some 9) rfl rfl Tryd.func102 (by kernel_rfl) rfl #[.pointer (some ⟨g, 0, none⟩), .int .i64 6] rfl w10g12_ ?_; (with_reducible refine (spec_l01Next.calls g s0_0 t278 t279 6 t280 t281 t282 w0 _ ?side1 ?side2 A5.out).mono ?_); (case side1 => exact w1g12_); (case side2 => exact w2g12_); rintro e w10 ⟨rfl, hi, hb, hk⟩; refine ⟨_, rfl, ?_⟩; replace BK275 := ag12_ (KeepBut.blk hk (g' := gb275) (o := .cells #[.int .i64 a1_0, .int .i64 a1_1, .int .i64 a1_2, .int .i64 a1_3] 68 (0, 0)) w4g12_ NB275_0.out (by simp)); replace BK276 := ag12_ (KeepBut.blk hk (g' := gb276) (o := .cells #[.int .i64 0, .int .i64 0] 70 (0, 0)) w9g12_ NB276_0.out (by simp)); replace HK := ag12_ (KeepBut.trans w3g12_ hk (.inl rfl)); replace HB := ag12_ (hb); replace HI0 := ag12_ (hi); clear hb hk hi) | ((with_reducible refine gate_dst (N := 11) rfl ?_); refine Kd.R_lit (Kd.int .i64) _ 2 ?hg (N := 11) ?hd (xs := ([(-1), 0, 12, 1000000000, 1000000001, 1000000] : List Int)) (inner := [.int .i64 (-1), .int .i64 0, .int .i64 12, .int .i64 1000000000, .int .i64 1000000001, .int .i64 1000000]) (ok := fun _ => True) (okp := fun _ => True) ?hr ?hp (fun _ hk => hk) trivial (Below.refl _ _) (Nat.le_refl _) (by simp) ?_; (case hd => rfl); (case hg => rfl); (case hr => first | (go_simp; done) | (go_simp; rfl)); (case hp => exact (by exact (Reps.one (show Kd.M (Kd.int .i64) _ _ _ (-1) [.int .i64 (-1)] from rfl) (Reps.one (show Kd.M (Kd.int .i64) _ _ _ 0 [.int .i64 0] from rfl) (Reps.one (show Kd.M (Kd.int .i64) _ _ _ 12 [.int .i64 12] from rfl) (Reps.one (show Kd.M (Kd.int .i64) _ _ _ 1000000000 [.int .i64 1000000000] from rfl) (Reps.one (show Kd.M (Kd.int .i64) _ _ _ 1000000001 [.int .i64 1000000001] from rfl) (Reps.one (show Kd.M (Kd.int .i64) _ _ _ 1000000 [.int .i64 1000000] from rfl) (Reps.none _ _))))))))); intro v284 w11 ho12 hb hg_ hnew_; clear hg_ hnew_; (first | rw [← Ny283.out] at ho12 | (simp only [Int.reduceToNat] at ho12; rw [← Ny283.out] at ho12)); have n0_ := ag12_ (Kd.R_lower ho12 (keep_size (w := w) (g := g) (row := none) w3g12_)); have n1_ := ag12_ (IsS200.below w1g12_ hb); have n2_ := ag12_ (blk_below w4g12_ hb); have n3_ := ag12_ (blk_below w9g12_ hb); have n4_ := ag12_ (KeepBut.trans w3g12_ (KeepBut.of_below hb g none) (.inl rfl)); have n5_ := ag12_ (below_step w2g12_ hb); clear HI0; clear BK275; clear BK276; clear HK; clear HB; have HO285 := n0_; have HI0 := n1_; have BK275 := n2_; have BK276 := n3_; have HK := n4_; have HB := n5_; clear n0_ n1_ n2_ n3_ n4_ n5_; clear hb ho12; obtain ⟨Ao13, co13, eo13⟩ := Kd.R_slice HO285.out; subst eo13) | ((with_reducible refine gate_callee (f := 101) rfl ?_); refine goesL_ (some 12) rfl rfl Tryd.func101 (by kernel_rfl) rfl #[.pointer (some ⟨g, 0, none⟩), .slice Ao13 y283.length co13] rfl w10g12_ ?_; (with_reducible refine (spec_l01Pick.calls g s0_0 t281 t282 _ _ y283 t286 t287 t288 w0 _ ?side1 ?side2 ?side3 ?side4 ?side5 A6.out).mono ?_); (case side1 => exact w1g12_); (case side2 => exact w2g12_); (case side3 => exact (by repeat (first | exact (Kd.R_reads' HO285.out).2.2 | (with_reducible refine Kd.C_alloc ?_ _) | (with_reducible refine Kd.C_drewN ?_ _) | (with_reducible refine Kd.C_drew ?_)))); (case side4 => exact (Kd.R_reads' HO285.out).2.1); (case side5 => exact far_slice (IsS200.own_ne HI0.out HO285.out (by decide))); rintro e w14 ⟨rfl, hi, hb, hk⟩; refine ⟨_, rfl, ?_⟩; have n0_ := ag12_ (KeepBut.blk hk (g' := gb275) (o := .cells #[.int .i64 a1_0, .int .i64 a1_1, .int .i64 a1_2, .int .i64 a1_3] 68 (0, 0)) w4g12_ NB275_0.out (by simp)); have n1_ := ag12_ (KeepBut.blk hk (g' := gb276) (o := .cells #[.int .i64 0, .int .i64 0] 70 (0, 0)) w9g12_ NB276_0.out (by simp)); have n2_ := ag12_ (Kd.R_mono (Kd.R_keep (IsS200.apart (show IsS200 w0 _ g s0_0 t281 t282 from w1g12_) (by (with_reducible repeat (first | apply Kd.R_alloc | apply Kd.R_drewN | apply Kd.R_drew)); exact HO285.out) (by decide)) hk (fun _ h => h.2)) (fun _ h => h.1)); have n3_ := ag12_ (KeepBut.trans w3g12_ hk (.inl rfl)); have n4_ := ag12_ (hb); have n5_ := ag12_ (hi); clear BK275; clear BK276; clear HO285; clear HK; clear HB; clear HI0; have BK275 := n0_; have BK276 := n1_; have HO285 := n2_; have HK := n3_; have HB := n4_; have HI0 := n5_; clear n0_ n1_ n2_ n3_ n4_ n5_; clear hb hk hi; have hnb15 := NB276_275.out; have hnc15 := NB275_276.out; have hnb16 := NB276_0.out; have hnc16 := NB0_276.out; obtain ⟨hcz17_0, hcz17_1⟩ := blk2 BK276.out; obtain ⟨hfz17_0, hfz17_1⟩ := frz2 BK276.out))
  refine bodyPost_ret (results_cell_row rfl _ _ gb276 70 #[.int .i64 t280, .int .i64 t286] (0, 0) _ rfl (by (with_reducible repeat (first | refine blk_drewN ?_ _ | refine blk_drew ?_ | refine blk_alloc ?_ _)); refine blk_put (cs := #[.int .i64 t280, .int .i64 0]) ?_ 1 _ rfl; (with_reducible repeat (first | refine blk_drewN ?_ _ | refine blk_drew ?_ | refine blk_alloc ?_ _)); refine blk_put (cs := #[.int .i64 0, .int .i64 0]) ?_ 0 _ rfl; (with_reducible repeat (first | refine blk_drewN ?_ _ | refine blk_drew ?_ | refine blk_alloc ?_ _)); exact BK276.out) Tryd.underlying70 rfl (by kernel_rfl)) rfl ?_
  exact ⟨w13g12_, w1g12_, w2g12_, w3g12_⟩
 ·
  rw [if_neg c4] at H
  have c4b0 : (t277 == 0) = false := beq_eq_false_iff_ne.mpr c4; have c4b1 : (t277 != 0) = true := bne_iff_ne.mpr c4
  by_cases c18 : a1_0 = 0
  ·
   rw [if_pos c18] at H
   have c18b0 : (a1_0 == 0) = true := beq_iff_eq.mpr c18; have c18b1 : (a1_0 != 0) = false := bne_eq_false_iff_eq.mpr c18; clear c18
   replace H := Option.bind_eq_some_iff.mp H
   obtain ⟨⟨t289, t290, t291⟩, A190, H⟩ := H
   try dsimp only at H
   have A19 := ag12_ A190; clear A190
   simp only [Option.some.injEq, Prod.mk.injEq] at H
   obtain ⟨rfl, rfl, rfl, rfl⟩ := H
   go_enter Tryd.func104, Tryd.ntmps104
   go_wp2_with (first | ((with_reducible refine gate_dst (N := 3) rfl ?_); refine be_ (N := 3) (cs := #[.int .i64 a1_0, .int .i64 a1_1, .int .i64 a1_2, .int .i64 a1_3]) (t := 68) ?_; intro gb275 hg w20 hbox hb; have BK275 := ag12_ (hbox); have GW275 := ag12_ ((by rw [hg]; exact (keep_size (w := w) (g := g) (row := none) w8g12_) : w.heap.size ≤ gb275)); have GE275 := ag12_ ((Nat.le_trans HW0.out (by rw [hg]; exact (keep_size (w := w) (g := g) (row := none) w8g12_) : w.heap.size ≤ gb275) : w0.heap.size ≤ gb275)); have NB0_275 := ag12_ ((by rw [hg]; exact Nat.ne_of_lt (IsS200.lt (show IsS200 w0 _ g s0_0 s0_1 s0_2 from w7g12_)) : g ≠ gb275)); have NB275_0 := ag12_ ((by rw [hg]; exact Nat.ne_of_gt (IsS200.lt (show IsS200 w0 _ g s0_0 s0_1 s0_2 from w7g12_)) : gb275 ≠ g)); replace HK := ag12_ (KeepBut.trans w8g12_ (KeepBut.of_below hb g none) (.inl rfl)); replace HB := ag12_ (below_step w12g12_ hb); replace HI0 := ag12_ (IsS200.below w7g12_ hb); clear hb hbox hg) | ((with_reducible refine gate_dst (N := 4) rfl ?_); refine be_ (N := 4) (cs := #[.int .i64 0, .int .i64 0]) (t := 70) ?_; intro gb276 hg w21 hbox hb; have BK276 := ag12_ (hbox); have GW276 := ag12_ ((by rw [hg]; exact (keep_size (w := w) (g := g) (row := none) w6g12_) : w.heap.size ≤ gb276)); have GE276 := ag12_ ((Nat.le_trans HW0.out (by rw [hg]; exact (keep_size (w := w) (g := g) (row := none) w6g12_) : w.heap.size ≤ gb276) : w0.heap.size ≤ gb276)); obtain ⟨NB275_276, NB276_275⟩ := nb2_ hg w4g12_; have NB0_276 := ag12_ ((by rw [hg]; exact Nat.ne_of_lt (IsS200.lt (show IsS200 w0 _ g s0_0 s0_1 s0_2 from w5g12_)) : g ≠ gb276)); have NB276_0 := ag12_ ((by rw [hg]; exact Nat.ne_of_gt (IsS200.lt (show IsS200 w0 _ g s0_0 s0_1 s0_2 from w5g12_)) : gb276 ≠ g)); replace BK275 := ag12_ (blk_below w4g12_ hb); replace HK := ag12_ (KeepBut.trans w6g12_ (KeepBut.of_below hb g none) (.inl rfl)); replace HB := ag12_ (below_step w11g12_ hb); replace HI0 := ag12_ (IsS200.below w5g12_ hb); clear hb hbox hg) | ((with_reducible refine gate_callee (f := 102) rfl ?_); refine goesL_ (some 6) rfl rfl Tryd.func102 (by kernel_rfl) rfl #[.pointer (some ⟨g, 0, none⟩), .int .i64 20] rfl w10g12_ ?_; (with_reducible refine (spec_l01Next.calls g s0_0 s0_1 s0_2 20 t277 t278 t279 w0 _ ?side1 ?side2 A3.out).mono ?_); (case side1 => exact w1g12_); (case side2 => exact w2g12_); rintro e w22 ⟨rfl, hi, hb, hk⟩; refine ⟨_, rfl, ?_⟩; replace BK275 := ag12_ (KeepBut.blk hk (g' := gb275) (o := .cells #[.int .i64 a1_0, .int .i64 a1_1, .int .i64 a1_2, .int .i64 a1_3] 68 (0, 0)) w4g12_ NB275_0.out (by simp)); replace BK276 := ag12_ (KeepBut.blk hk (g' := gb276) (o := .cells #[.int .i64 0, .int .i64 0] 70 (0, 0)) w9g12_ NB276_0.out (by simp)); replace HK := ag12_ (KeepBut.trans w3g12_ hk (.inl rfl)); replace HB := ag12_ (hb); replace HI0 := ag12_ (hi); clear hb hk hi; have hnb23 := NB275_276.out; have hnc23 := NB276_275.out; have hnb24 := NB275_0.out; have hnc24 := NB0_275.out; obtain ⟨hcz25_0, hcz25_1, hcz25_2, hcz25_3⟩ := blk4 BK275.out; obtain ⟨hfz25_0, hfz25_1, hfz25_2, hfz25_3⟩ := frz4 BK275.out) | ((with_reducible refine gate_callee (f := 102) rfl ?_); refine goesL_ (some 18) rfl rfl Tryd.func102 (by kernel_rfl) rfl #[.pointer (some ⟨g, 0, none⟩), .int .i64 40] rfl w10g12_ ?_; (with_reducible refine (spec_l01Next.calls g s0_0 t278 t279 40 t289 t290 t291 w0 _ ?side1 ?side2 A19.out).mono ?_); (case side1 => exact w1g12_); (case side2 => exact w2g12_); rintro e w26 ⟨rfl, hi, hb, hk⟩; refine ⟨_, rfl, ?_⟩; replace BK275 := ag12_ (KeepBut.blk hk (g' := gb275) (o := .cells #[.int .i64 a1_0, .int .i64 a1_1, .int .i64 a1_2, .int .i64 a1_3] 68 (0, 0)) w4g12_ NB275_0.out (by simp)); replace BK276 := ag12_ (KeepBut.blk hk (g' := gb276) (o := .cells #[.int .i64 0, .int .i64 0] 70 (0, 0)) w9g12_ NB276_0.out (by simp)); replace HK := ag12_ (KeepBut.trans w3g12_ hk (.inl rfl)); replace HB := ag12_ (hb); replace HI0 := ag12_ (hi); clear hb hk hi; have hnb27 := NB276_0.out; have hnc27 := NB0_276.out; obtain ⟨hcz28_0, hcz28_1⟩ := blk2 BK276.out; obtain ⟨hfz28_0, hfz28_1⟩ := frz2 BK276.out))
   refine bodyPost_ret (results_cell_row rfl _ _ gb276 70 #[.int .i64 1, .int .i64 (wrap64 (1 + t289))] (0, 0) _ rfl (by (with_reducible repeat (first | refine blk_drewN ?_ _ | refine blk_drew ?_ | refine blk_alloc ?_ _)); refine blk_put (cs := #[.int .i64 1, .int .i64 0]) ?_ 1 _ rfl; (with_reducible repeat (first | refine blk_drewN ?_ _ | refine blk_drew ?_ | refine blk_alloc ?_ _)); refine blk_put (cs := #[.int .i64 0, .int .i64 0]) ?_ 0 _ rfl; (with_reducible repeat (first | refine blk_drewN ?_ _ | refine blk_drew ?_ | refine blk_alloc ?_ _)); exact BK276.out) Tryd.underlying70 rfl (by kernel_rfl)) rfl ?_
   exact ⟨w13g12_, w1g12_, w2g12_, w3g12_⟩
  ·
   rw [if_neg c18] at H
   have c18b0 : (a1_0 == 0) = false := beq_eq_false_iff_ne.mpr c18; have c18b1 : (a1_0 != 0) = true := bne_iff_ne.mpr c18
   replace H := Option.bind_eq_some_iff.mp H
   obtain ⟨⟨t292, t293, t294⟩, A290, H⟩ := H
   try dsimp only at H
   have A29 := ag12_ A290; clear A290
   by_cases c30 : t292 = 0
   ·
    rw [if_pos c30] at H
    have c30b0 : (t292 == 0) = true := beq_iff_eq.mpr c30; have c30b1 : (t292 != 0) = false := bne_eq_false_iff_eq.mpr c30; clear c30
    simp only [Option.some.injEq, Prod.mk.injEq] at H
    obtain ⟨rfl, rfl, rfl, rfl⟩ := H
    go_enter Tryd.func104, Tryd.ntmps104
    go_wp2_with (first | ((with_reducible refine gate_dst (N := 3) rfl ?_); refine be_ (N := 3) (cs := #[.int .i64 a1_0, .int .i64 a1_1, .int .i64 a1_2, .int .i64 a1_3]) (t := 68) ?_; intro gb275 hg w31 hbox hb; have BK275 := ag12_ (hbox); have GW275 := ag12_ ((by rw [hg]; exact (keep_size (w := w) (g := g) (row := none) w8g12_) : w.heap.size ≤ gb275)); have GE275 := ag12_ ((Nat.le_trans HW0.out (by rw [hg]; exact (keep_size (w := w) (g := g) (row := none) w8g12_) : w.heap.size ≤ gb275) : w0.heap.size ≤ gb275)); have NB0_275 := ag12_ ((by rw [hg]; exact Nat.ne_of_lt (IsS200.lt (show IsS200 w0 _ g s0_0 s0_1 s0_2 from w7g12_)) : g ≠ gb275)); have NB275_0 := ag12_ ((by rw [hg]; exact Nat.ne_of_gt (IsS200.lt (show IsS200 w0 _ g s0_0 s0_1 s0_2 from w7g12_)) : gb275 ≠ g)); replace HK := ag12_ (KeepBut.trans w8g12_ (KeepBut.of_below hb g none) (.inl rfl)); replace HB := ag12_ (below_step w12g12_ hb); replace HI0 := ag12_ (IsS200.below w7g12_ hb); clear hb hbox hg) | ((with_reducible refine gate_dst (N := 4) rfl ?_); refine be_ (N := 4) (cs := #[.int .i64 0, .int .i64 0]) (t := 70) ?_; intro gb276 hg w32 hbox hb; have BK276 := ag12_ (hbox); have GW276 := ag12_ ((by rw [hg]; exact (keep_size (w := w) (g := g) (row := none) w6g12_) : w.heap.size ≤ gb276)); have GE276 := ag12_ ((Nat.le_trans HW0.out (by rw [hg]; exact (keep_size (w := w) (g := g) (row := none) w6g12_) : w.heap.size ≤ gb276) : w0.heap.size ≤ gb276)); obtain ⟨NB275_276, NB276_275⟩ := nb2_ hg w4g12_; have NB0_276 := ag12_ ((by rw [hg]; exact Nat.ne_of_lt (IsS200.lt (show IsS200 w0 _ g s0_0 s0_1 s0_2 from w5g12_)) : g ≠ gb276)); have NB276_0 := ag12_ ((by rw [hg]; exact Nat.ne_of_gt (IsS200.lt (show IsS200 w0 _ g s0_0 s0_1 s0_2 from w5g12_)) : gb276 ≠ g)); replace BK275 := ag12_ (blk_below w4g12_ hb); replace HK := ag12_ (KeepBut.trans w6g12_ (KeepBut.of_below hb g none) (.inl rfl)); replace HB := ag12_ (below_step w11g12_ hb); replace HI0 := ag12_ (IsS200.below w5g12_ hb); clear hb hbox hg) | ((with_reducible refine gate_callee (f := 102) rfl ?_); refine goesL_ (some 6) rfl rfl Tryd.func102 (by kernel_rfl) rfl #[.pointer (some ⟨g, 0, none⟩), .int .i64 20] rfl w10g12_ ?_; (with_reducible refine (spec_l01Next.calls g s0_0 s0_1 s0_2 20 t277 t278 t279 w0 _ ?side1 ?side2 A3.out).mono ?_); (case side1 => exact w1g12_); (case side2 => exact w2g12_); rintro e w33 ⟨rfl, hi, hb, hk⟩; refine ⟨_, rfl, ?_⟩; replace BK275 := ag12_ (KeepBut.blk hk (g' := gb275) (o := .cells #[.int .i64 a1_0, .int .i64 a1_1, .int .i64 a1_2, .int .i64 a1_3] 68 (0, 0)) w4g12_ NB275_0.out (by simp)); replace BK276 := ag12_ (KeepBut.blk hk (g' := gb276) (o := .cells #[.int .i64 0, .int .i64 0] 70 (0, 0)) w9g12_ NB276_0.out (by simp)); replace HK := ag12_ (KeepBut.trans w3g12_ hk (.inl rfl)); replace HB := ag12_ (hb); replace HI0 := ag12_ (hi); clear hb hk hi; have hnb34 := NB275_276.out; have hnc34 := NB276_275.out; have hnb35 := NB275_0.out; have hnc35 := NB0_275.out; obtain ⟨hcz36_0, hcz36_1, hcz36_2, hcz36_3⟩ := blk4 BK275.out; obtain ⟨hfz36_0, hfz36_1, hfz36_2, hfz36_3⟩ := frz4 BK275.out) | ((with_reducible refine gate_callee (f := 102) rfl ?_); refine goesL_ (some 22) rfl rfl Tryd.func102 (by kernel_rfl) rfl #[.pointer (some ⟨g, 0, none⟩), .int .i64 6] rfl w10g12_ ?_; (with_reducible refine (spec_l01Next.calls g s0_0 t278 t279 6 t292 t293 t294 w0 _ ?side1 ?side2 A29.out).mono ?_); (case side1 => exact w1g12_); (case side2 => exact w2g12_); rintro e w37 ⟨rfl, hi, hb, hk⟩; refine ⟨_, rfl, ?_⟩; replace BK275 := ag12_ (KeepBut.blk hk (g' := gb275) (o := .cells #[.int .i64 a1_0, .int .i64 a1_1, .int .i64 a1_2, .int .i64 a1_3] 68 (0, 0)) w4g12_ NB275_0.out (by simp)); replace BK276 := ag12_ (KeepBut.blk hk (g' := gb276) (o := .cells #[.int .i64 0, .int .i64 0] 70 (0, 0)) w9g12_ NB276_0.out (by simp)); replace HK := ag12_ (KeepBut.trans w3g12_ hk (.inl rfl)); replace HB := ag12_ (hb); replace HI0 := ag12_ (hi); clear hb hk hi; obtain ⟨hcz38_0, hcz38_1, hcz38_2, hcz38_3⟩ := blk4 BK275.out; obtain ⟨hfz38_0, hfz38_1, hfz38_2, hfz38_3⟩ := frz4 BK275.out; have hnb39 := NB276_0.out; have hnc39 := NB0_276.out; obtain ⟨hcz40_0, hcz40_1⟩ := blk2 BK276.out; obtain ⟨hfz40_0, hfz40_1⟩ := frz2 BK276.out))
    refine bodyPost_ret (results_cell_row rfl _ _ gb276 70 #[.int .i64 4, .int .i64 a1_1] (0, 0) _ rfl (by (with_reducible repeat (first | refine blk_drewN ?_ _ | refine blk_drew ?_ | refine blk_alloc ?_ _)); refine blk_put (cs := #[.int .i64 4, .int .i64 0]) ?_ 1 _ rfl; (with_reducible repeat (first | refine blk_drewN ?_ _ | refine blk_drew ?_ | refine blk_alloc ?_ _)); refine blk_put (cs := #[.int .i64 0, .int .i64 0]) ?_ 0 _ rfl; (with_reducible repeat (first | refine blk_drewN ?_ _ | refine blk_drew ?_ | refine blk_alloc ?_ _)); exact BK276.out) Tryd.underlying70 rfl (by kernel_rfl)) rfl ?_
    exact ⟨w13g12_, w1g12_, w2g12_, w3g12_⟩
   ·
    rw [if_neg c30] at H
    have c30b0 : (t292 == 0) = false := beq_eq_false_iff_ne.mpr c30; have c30b1 : (t292 != 0) = true := bne_iff_ne.mpr c30; have HC41 := ag12_ H; clear H
    go_enter Tryd.func104, Tryd.ntmps104
    go_upto_if 28 with (first | ((with_reducible refine gate_dst (N := 3) rfl ?_); refine be_ (N := 3) (cs := #[.int .i64 a1_0, .int .i64 a1_1, .int .i64 a1_2, .int .i64 a1_3]) (t := 68) ?_; intro gb275 hg w42 hbox hb; have BK275 := ag12_ (hbox); have GW275 := ag12_ ((by rw [hg]; exact (keep_size (w := w) (g := g) (row := none) w8g12_) : w.heap.size ≤ gb275)); have GE275 := ag12_ ((Nat.le_trans HW0.out (by rw [hg]; exact (keep_size (w := w) (g := g) (row := none) w8g12_) : w.heap.size ≤ gb275) : w0.heap.size ≤ gb275)); have NB0_275 := ag12_ ((by rw [hg]; exact Nat.ne_of_lt (IsS200.lt (show IsS200 w0 _ g s0_0 s0_1 s0_2 from w7g12_)) : g ≠ gb275)); have NB275_0 := ag12_ ((by rw [hg]; exact Nat.ne_of_gt (IsS200.lt (show IsS200 w0 _ g s0_0 s0_1 s0_2 from w7g12_)) : gb275 ≠ g)); replace HK := ag12_ (KeepBut.trans w8g12_ (KeepBut.of_below hb g none) (.inl rfl)); replace HB := ag12_ (below_step w12g12_ hb); replace HI0 := ag12_ (IsS200.below w7g12_ hb); clear hb hbox hg) | ((with_reducible refine gate_dst (N := 4) rfl ?_); refine be_ (N := 4) (cs := #[.int .i64 0, .int .i64 0]) (t := 70) ?_; intro gb276 hg w43 hbox hb; have BK276 := ag12_ (hbox); have GW276 := ag12_ ((by rw [hg]; exact (keep_size (w := w) (g := g) (row := none) w6g12_) : w.heap.size ≤ gb276)); have GE276 := ag12_ ((Nat.le_trans HW0.out (by rw [hg]; exact (keep_size (w := w) (g := g) (row := none) w6g12_) : w.heap.size ≤ gb276) : w0.heap.size ≤ gb276)); obtain ⟨NB275_276, NB276_275⟩ := nb2_ hg w4g12_; have NB0_276 := ag12_ ((by rw [hg]; exact Nat.ne_of_lt (IsS200.lt (show IsS200 w0 _ g s0_0 s0_1 s0_2 from w5g12_)) : g ≠ gb276)); have NB276_0 := ag12_ ((by rw [hg]; exact Nat.ne_of_gt (IsS200.lt (show IsS200 w0 _ g s0_0 s0_1 s0_2 from w5g12_)) : gb276 ≠ g)); replace BK275 := ag12_ (blk_below w4g12_ hb); replace HK := ag12_ (KeepBut.trans w6g12_ (KeepBut.of_below hb g none) (.inl rfl)); replace HB := ag12_ (below_step w11g12_ hb); replace HI0 := ag12_ (IsS200.below w5g12_ hb); clear hb hbox hg) | ((with_reducible refine gate_callee (f := 102) rfl ?_); refine goesL_ (some 6) rfl rfl Tryd.func102 (by kernel_rfl) rfl #[.pointer (some ⟨g, 0, none⟩), .int .i64 20] rfl w10g12_ ?_; (with_reducible refine (spec_l01Next.calls g s0_0 s0_1 s0_2 20 t277 t278 t279 w0 _ ?side1 ?side2 A3.out).mono ?_); (case side1 => exact w1g12_); (case side2 => exact w2g12_); rintro e w44 ⟨rfl, hi, hb, hk⟩; refine ⟨_, rfl, ?_⟩; replace BK275 := ag12_ (KeepBut.blk hk (g' := gb275) (o := .cells #[.int .i64 a1_0, .int .i64 a1_1, .int .i64 a1_2, .int .i64 a1_3] 68 (0, 0)) w4g12_ NB275_0.out (by simp)); replace BK276 := ag12_ (KeepBut.blk hk (g' := gb276) (o := .cells #[.int .i64 0, .int .i64 0] 70 (0, 0)) w9g12_ NB276_0.out (by simp)); replace HK := ag12_ (KeepBut.trans w3g12_ hk (.inl rfl)); replace HB := ag12_ (hb); replace HI0 := ag12_ (hi); clear hb hk hi; have hnb45 := NB275_276.out; have hnc45 := NB276_275.out; have hnb46 := NB275_0.out; have hnc46 := NB0_275.out; obtain ⟨hcz47_0, hcz47_1, hcz47_2, hcz47_3⟩ := blk4 BK275.out; obtain ⟨hfz47_0, hfz47_1, hfz47_2, hfz47_3⟩ := frz4 BK275.out) | ((with_reducible refine gate_callee (f := 102) rfl ?_); refine goesL_ (some 22) rfl rfl Tryd.func102 (by kernel_rfl) rfl #[.pointer (some ⟨g, 0, none⟩), .int .i64 6] rfl w10g12_ ?_; (with_reducible refine (spec_l01Next.calls g s0_0 t278 t279 6 t292 t293 t294 w0 _ ?side1 ?side2 A29.out).mono ?_); (case side1 => exact w1g12_); (case side2 => exact w2g12_); rintro e w48 ⟨rfl, hi, hb, hk⟩; refine ⟨_, rfl, ?_⟩; replace BK275 := ag12_ (KeepBut.blk hk (g' := gb275) (o := .cells #[.int .i64 a1_0, .int .i64 a1_1, .int .i64 a1_2, .int .i64 a1_3] 68 (0, 0)) w4g12_ NB275_0.out (by simp)); replace BK276 := ag12_ (KeepBut.blk hk (g' := gb276) (o := .cells #[.int .i64 0, .int .i64 0] 70 (0, 0)) w9g12_ NB276_0.out (by simp)); replace HK := ag12_ (KeepBut.trans w3g12_ hk (.inl rfl)); replace HB := ag12_ (hb); replace HI0 := ag12_ (hi); clear hb hk hi))
    (try simp only [Act.put, List.setIfInBounds_toArray, List.set_cons_zero, List.set_cons_succ])
    go_cut [28] (fun v28 wc => ∃ (kq : Nat) (x28_40 : Bool), v28 = .bool x28_40 ∧ Aside0 (spec_l29DrawEntry.j0 kq x28_40 s0_0 t293 t294 = some (r1, r2, r3, r4)) ∧ Aside0 (kq ≤ k) ∧ Aside0 (wc.heap[gb275]? = some (.cells #[.int .i64 a1_0, .int .i64 a1_1, .int .i64 a1_2, .int .i64 a1_3] 68 (0, 0))) ∧ Aside0 (wc.heap[gb276]? = some (.cells #[.int .i64 0, .int .i64 0] 70 (0, 0))) ∧ Aside0 (IsS200 w0 wc g s0_0 t293 t294) ∧ Aside0 (KeepBut w wc g none) ∧ Aside0 (Below w0.heap.size w0 wc))
    case first =>
     have H := HC41.out; clear HC41
     by_cases c49 : t292 = 1
     ·
      rw [if_pos c49] at H
      have c49b0 : (t292 == 1) = true := beq_iff_eq.mpr c49; have c49b1 : (t292 != 1) = false := bne_eq_false_iff_eq.mpr c49; clear c49
      (first | rw [c49b0] | (simp only [i64_w, i32_w]; rw [c49b0]) | skip)
      have H' := ag12_ H; clear H
      go_wp2
      go_meet
      case rel => exact ⟨_, ((t292 == 1)), (by first | rfl | (simp; done) | (simp [*]; done)), H', ⟨(by first | omega | exact Nat.le_refl _)⟩, ⟨w4g12_⟩, ⟨w9g12_⟩, ⟨w1g12_⟩, ⟨w3g12_⟩, ⟨w2g12_⟩⟩
     ·
      rw [if_neg c49] at H
      have c49b0 : (t292 == 1) = false := beq_eq_false_iff_ne.mpr c49; have c49b1 : (t292 != 1) = true := bne_iff_ne.mpr c49
      (first | rw [c49b0] | (simp only [i64_w, i32_w]; rw [c49b0]) | skip)
      have H' := ag12_ H; clear H
      go_wp2
      go_meet
      case rel => exact ⟨_, ((t292 == 2)), (by first | rfl | (simp; done) | (simp [*]; done)), H', ⟨(by first | omega | exact Nat.le_refl _)⟩, ⟨w4g12_⟩, ⟨w9g12_⟩, ⟨w1g12_⟩, ⟨w3g12_⟩, ⟨w2g12_⟩⟩
    case rest =>
     clear HC41
     try clear c4
     try clear c4b0
     try clear c4b1
     try clear c18
     try clear c18b0
     try clear c18b1
     try clear c30
     try clear c30b0
     try clear c30b1
     try clear c49
     try clear c49b0
     try clear c49b1
     try clear hcz17_0
     try clear hcz17_1
     try clear hcz25_0
     try clear hcz25_1
     try clear hcz25_2
     try clear hcz25_3
     try clear hcz28_0
     try clear hcz28_1
     try clear hcz36_0
     try clear hcz36_1
     try clear hcz36_2
     try clear hcz36_3
     try clear hcz38_0
     try clear hcz38_1
     try clear hcz38_2
     try clear hcz38_3
     try clear hcz40_0
     try clear hcz40_1
     try clear hcz47_0
     try clear hcz47_1
     try clear hcz47_2
     try clear hcz47_3
     try clear hfz17_0
     try clear hfz17_1
     try clear hfz25_0
     try clear hfz25_1
     try clear hfz25_2
     try clear hfz25_3
     try clear hfz28_0
     try clear hfz28_1
     try clear hfz36_0
     try clear hfz36_1
     try clear hfz36_2
     try clear hfz36_3
     try clear hfz38_0
     try clear hfz38_1
     try clear hfz38_2
     try clear hfz38_3
     try clear hfz40_0
     try clear hfz40_1
     try clear hfz47_0
     try clear hfz47_1
     try clear hfz47_2
     try clear hfz47_3
     obtain ⟨kq, x28_40, rfl, HA, HJ40, BK275, BK276, HI0, HK, HB⟩ := hcut
     cases kq with
     | zero => exact absurd HA.out (by simp [spec_l29DrawEntry.j0])
     | succ kj40 =>
      have H := HA.out; clear HA
      simp only [spec_l29DrawEntry.j0] at H
      by_cases c50 : x28_40 = true
      ·
       subst c50
       rw [if_pos rfl] at H
       replace H := Option.bind_eq_some_iff.mp H
       obtain ⟨⟨t295, t296, t297⟩, A510, H⟩ := H
       try dsimp only at H
       have A51 := ag12_ A510; clear A510
       simp only [Option.some.injEq, Prod.mk.injEq] at H
       obtain ⟨rfl, rfl, rfl, rfl⟩ := H
       go_wp2_with (first | ((with_reducible refine gate_callee (f := 102) rfl ?_); refine goesL_ (some 32) rfl rfl Tryd.func102 (by kernel_rfl) rfl #[.pointer (some ⟨g, 0, none⟩), .int .i64 5] rfl w10g12_ ?_; (with_reducible refine (spec_l01Next.calls g s0_0 t293 t294 5 t295 t296 t297 w0 _ ?side1 ?side2 A51.out).mono ?_); (case side1 => exact w1g12_); (case side2 => exact w2g12_); rintro e w52 ⟨rfl, hi, hb, hk⟩; refine ⟨_, rfl, ?_⟩; replace BK275 := ag12_ (KeepBut.blk hk (g' := gb275) (o := .cells #[.int .i64 a1_0, .int .i64 a1_1, .int .i64 a1_2, .int .i64 a1_3] 68 (0, 0)) w4g12_ NB275_0.out (by simp)); replace BK276 := ag12_ (KeepBut.blk hk (g' := gb276) (o := .cells #[.int .i64 0, .int .i64 0] 70 (0, 0)) w9g12_ NB276_0.out (by simp)); replace HK := ag12_ (KeepBut.trans w3g12_ hk (.inl rfl)); replace HB := ag12_ (hb); replace HI0 := ag12_ (hi); clear hb hk hi; have hnb53 := NB276_275.out; have hnc53 := NB275_276.out; have hnb54 := NB276_0.out; have hnc54 := NB0_276.out; obtain ⟨hcz55_0, hcz55_1⟩ := blk2 BK276.out; obtain ⟨hfz55_0, hfz55_1⟩ := frz2 BK276.out))
       refine bodyPost_ret (results_cell_row rfl _ _ gb276 70 #[.int .i64 3, .int .i64 t295] (0, 0) _ rfl (by (with_reducible repeat (first | refine blk_drewN ?_ _ | refine blk_drew ?_ | refine blk_alloc ?_ _)); refine blk_put (cs := #[.int .i64 3, .int .i64 0]) ?_ 1 _ rfl; (with_reducible repeat (first | refine blk_drewN ?_ _ | refine blk_drew ?_ | refine blk_alloc ?_ _)); refine blk_put (cs := #[.int .i64 0, .int .i64 0]) ?_ 0 _ rfl; (with_reducible repeat (first | refine blk_drewN ?_ _ | refine blk_drew ?_ | refine blk_alloc ?_ _)); exact BK276.out) Tryd.underlying70 rfl (by kernel_rfl)) rfl ?_
       exact ⟨w13g12_, w1g12_, w2g12_, w3g12_⟩
      ·
       replace c50 := Bool.eq_false_iff.mpr c50
       subst c50
       rw [if_neg (show ¬ (false = true) by decide)] at H
       replace H := Option.bind_eq_some_iff.mp H
       obtain ⟨⟨t298, t299, t300⟩, A560, H⟩ := H
       try dsimp only at H
       have A56 := ag12_ A560; clear A560
       simp only [Option.some.injEq, Prod.mk.injEq] at H
       obtain ⟨rfl, rfl, rfl, rfl⟩ := H
       go_wp2_with (first | ((with_reducible refine gate_callee (f := 102) rfl ?_); refine goesL_ (some 35) rfl rfl Tryd.func102 (by kernel_rfl) rfl #[.pointer (some ⟨g, 0, none⟩), .int .i64 60] rfl w10g12_ ?_; (with_reducible refine (spec_l01Next.calls g s0_0 t293 t294 60 t298 t299 t300 w0 _ ?side1 ?side2 A56.out).mono ?_); (case side1 => exact w1g12_); (case side2 => exact w2g12_); rintro e w57 ⟨rfl, hi, hb, hk⟩; refine ⟨_, rfl, ?_⟩; replace BK275 := ag12_ (KeepBut.blk hk (g' := gb275) (o := .cells #[.int .i64 a1_0, .int .i64 a1_1, .int .i64 a1_2, .int .i64 a1_3] 68 (0, 0)) w4g12_ NB275_0.out (by simp)); replace BK276 := ag12_ (KeepBut.blk hk (g' := gb276) (o := .cells #[.int .i64 0, .int .i64 0] 70 (0, 0)) w9g12_ NB276_0.out (by simp)); replace HK := ag12_ (KeepBut.trans w3g12_ hk (.inl rfl)); replace HB := ag12_ (hb); replace HI0 := ag12_ (hi); clear hb hk hi; have hnb58 := NB276_275.out; have hnc58 := NB275_276.out; have hnb59 := NB276_0.out; have hnc59 := NB0_276.out; obtain ⟨hcz60_0, hcz60_1⟩ := blk2 BK276.out; obtain ⟨hfz60_0, hfz60_1⟩ := frz2 BK276.out))
       refine bodyPost_ret (results_cell_row rfl _ _ gb276 70 #[.int .i64 2, .int .i64 t298] (0, 0) _ rfl (by (with_reducible repeat (first | refine blk_drewN ?_ _ | refine blk_drew ?_ | refine blk_alloc ?_ _)); refine blk_put (cs := #[.int .i64 2, .int .i64 0]) ?_ 1 _ rfl; (with_reducible repeat (first | refine blk_drewN ?_ _ | refine blk_drew ?_ | refine blk_alloc ?_ _)); refine blk_put (cs := #[.int .i64 0, .int .i64 0]) ?_ 0 _ rfl; (with_reducible repeat (first | refine blk_drewN ?_ _ | refine blk_drew ?_ | refine blk_alloc ?_ _)); exact BK276.out) Tryd.underlying70 rfl (by kernel_rfl)) rfl ?_
       exact ⟨w13g12_, w1g12_, w2g12_, w3g12_⟩
end Go.Proofs.YtoiioapkebglgaaDoor.PG
end
section
namespace Go.Proofs.YtoiioapkebglgaaDoor.PG
open Go.RowKit Go.Proofs.YtoiioapkebglgaaDoorW.PrintWords Go.Proofs.YtoiioapkebglgaaDoorW.PrintLast Go.Proofs.YtoiioapkebglgaaDoorW.PrintMore
attribute [local go_sem] max2_int min2_int max_two min_two max_three min_three max_four min_four   -- for this text's walks alone
set_option linter.unusedVariables false
set_option linter.unusedSimpArgs false
mutual
def spec_l29Draw.l0 : Nat → List (S70) → Int → List Int → Int → Int → Int → Int → Int → Int → Option ((List (S70)) × Int × Int)
  | 0, _, _, _, _, _, _, _, _, _ => none
  | k + 1, x3, x5, x1000, x1001, x1002, x305000, x305001, x305002, x305003 => if x5 > 0 then ((spec_l29DrawEntry.f k x1000 x1001 x1002 x305000 x305001 x305002 x305003).bind fun bt308 => ((spec_l29Make.f x305000 x305001 x305002 x305003 bt308.1 bt308.2.1).bind fun bt313 => (if bt313.2.2.2.2 = true then (if x3.length < 8796093022208 then (spec_l29Draw.l0 k (x3 ++ [(⟨bt308.1, bt308.2.1⟩ : S70)]) (wrap64 (x5 - 1)) x1000 bt308.2.2.1 bt308.2.2.2 bt313.1 bt313.2.1 bt313.2.2.1 bt313.2.2.2.1) else (none)) else ((spec_l01Next.f x1000 bt308.2.2.1 bt308.2.2.2 6).bind fun bt322 => (if bt322.1 > 0 then (spec_l29Draw.l0 k x3 (wrap64 (x5 - 1)) x1000 bt322.2.1 bt322.2.2 x305000 x305001 x305002 x305003) else (if x3.length < 8796093022208 then (spec_l29Draw.l0 k (x3 ++ [(⟨bt308.1, bt308.2.1⟩ : S70)]) (wrap64 (x5 - 1)) x1000 bt322.2.1 bt322.2.2 x305000 x305001 x305002 x305003) else (none))))))) else ((spec_l01Next.f x1000 x1001 x1002 50).bind fun bt328 => (if bt328.1 = 0 then ((spec_l01Next.f x1000 bt328.2.1 bt328.2.2 2).bind fun bt334 => (spec_l29Draw.l1 k (([(⟨1, 1⟩ : S70)] : List (S70))) (wrap64 (199 + bt334.1)) x1000 bt334.2.1 bt334.2.2)) else (some (x3, bt328.2.1, bt328.2.2))))
def spec_l29Draw.l1 : Nat → List (S70) → Int → List Int → Int → Int → Option ((List (S70)) × Int × Int)
  | 0, _, _, _, _, _ => none
  | k + 1, x3, x9, x1000, x1001, x1002 => if x9 > 0 then (if x3.length < 8796093022208 then (spec_l29Draw.l1 k (x3 ++ [(⟨2, x9⟩ : S70)]) (wrap64 (x9 - 1)) x1000 x1001 x1002) else (none)) else (some (x3, x1001, x1002))
end
def spec_l29Draw.f (k : Nat) (s0_0 : List Int) (s0_1 : Int) (s0_2 : Int) : Option ((List (S70)) × Int × Int) := (spec_l01Next.f s0_0 s0_1 s0_2 14).bind fun bt305 => (spec_l29Draw.l0 k (([] : List (S70))) bt305.1 s0_0 bt305.2.1 bt305.2.2 0 0 0 0)
theorem ag13_ {p : Prop} (h : p) : Aside0 p := ⟨h⟩
theorem w1g13_ {p : Prop} (h : p := by repeat (first | (with_reducible first | exact HI0.out | apply IsS200.alloc | apply IsS200.drewN | apply IsS200.drew | apply IsS200.set_1 | apply IsS200.set_2 | refine IsS200.far ?_ NB0_304.out _) | exact HI0.out)) : p := h
theorem w2g13_ {p : Prop} (h : p := by repeat (first | (with_reducible first | exact HK.out | apply KeepBut.set_ | apply keep_drewN | apply keep_drew | apply keep_alloc | refine keep_far ?_ GW304.out _) | exact HK.out)) : p := h
theorem w3g13_ {p : Prop} (h : p := by (with_reducible repeat (first | refine blk_drewN ?_ _ | refine blk_drew ?_ | refine blk_alloc ?_ _)); exact BK304.out) : p := h
theorem w4g13_ {p : Prop} (h : p := by repeat (first | (with_reducible first | exact HB.out | apply below_alloc | apply pw_below_drewN | apply below_drew1 | refine below_set ?_ (IsS200.ge HI0.out) | refine below_set ?_ GE304.out) | exact HB.out)) : p := h
theorem w5g13_ {p : Prop} (h : p := by repeat (first | (with_reducible first | exact HI0.out | apply IsS200.alloc | apply IsS200.drewN | apply IsS200.drew | apply IsS200.set_1 | apply IsS200.set_2 | refine IsS200.far ?_ NB0_304.out _ | refine IsS200.far ?_ NB0_312.out _) | exact HI0.out)) : p := h
theorem w6g13_ {p : Prop} (h : p := by repeat (first | (with_reducible first | exact HK.out | apply KeepBut.set_ | apply keep_drewN | apply keep_drew | apply keep_alloc | refine keep_far ?_ GW304.out _ | refine keep_far ?_ GW312.out _) | exact HK.out)) : p := h
theorem w7g13_ {p : Prop} (h : p := by repeat (first | (with_reducible first | exact HI0.out | apply IsS200.alloc | apply IsS200.drewN | apply IsS200.drew | apply IsS200.set_1 | apply IsS200.set_2 | refine IsS200.far ?_ NB0_304.out _ | refine IsS200.far ?_ NB0_312.out _ | refine IsS200.far ?_ NB0_318.out _) | exact HI0.out)) : p := h
theorem w8g13_ {p : Prop} (h : p := by repeat (first | (with_reducible first | exact HK.out | apply KeepBut.set_ | apply keep_drewN | apply keep_drew | apply keep_alloc | refine keep_far ?_ GW304.out _ | refine keep_far ?_ GW312.out _ | refine keep_far ?_ GW318.out _) | exact HK.out)) : p := h
theorem w9g13_ {p : Prop} (h : p := by repeat (first | (with_reducible first | exact HB.out | apply below_alloc | apply pw_below_drewN | apply below_drew1 | refine below_set ?_ (IsS200.ge HI0.out) | refine below_set ?_ GE304.out | refine below_set ?_ GE312.out | refine below_set ?_ GE318.out) | exact HB.out)) : p := h
theorem w10g13_ {p : Prop} (h : p := by (with_reducible repeat (first | apply Kd.R_alloc | apply Kd.R_drewN | apply Kd.R_drew)); exact HO_3.out) : p := h
theorem w11g13_ {p : Prop} (h : p := by (try simp only [List.map_toArray, List.map_cons, List.map_nil]); first | done | rfl | (simp only [List.length_drop, List.length_take]; rfl)) : p := h
theorem w12g13_ {p : Prop} (h : p := by (with_reducible repeat (first | refine blk_far ?_ NB312_304.out _ | refine blk_far ?_ NB312_318.out _ | refine blk_drewN ?_ _ | refine blk_drew ?_ | refine blk_alloc ?_ _)); exact BK312.out) : p := h
theorem w13g13_ {p : Prop} (h : p := by repeat (first | (with_reducible first | exact HB.out | apply below_alloc | apply pw_below_drewN | apply below_drew1 | refine below_set ?_ (IsS200.ge HI0.out) | refine below_set ?_ GE304.out | refine below_set ?_ GE312.out) | exact HB.out)) : p := h
theorem w14g13_ {p : Prop} (h : p := by (with_reducible repeat (first | refine blk_drewN ?_ _ | refine blk_drew ?_ | refine blk_alloc ?_ _)); exact BK312.out) : p := h
theorem w15g13_ {p : Prop} (h : p := by (with_reducible repeat (first | refine blk_drewN ?_ _ | refine blk_drew ?_ | refine blk_alloc ?_ _)); refine blk_put (cs := #[.int .i64 t313, .int .i64 t314, .int .i64 t315, .int .i64 0]) ?_ 3 _ rfl; (with_reducible repeat (first | refine blk_drewN ?_ _ | refine blk_drew ?_ | refine blk_alloc ?_ _)); refine blk_put (cs := #[.int .i64 t313, .int .i64 t314, .int .i64 0, .int .i64 0]) ?_ 2 _ rfl; (with_reducible repeat (first | refine blk_drewN ?_ _ | refine blk_drew ?_ | refine blk_alloc ?_ _)); refine blk_put (cs := #[.int .i64 t313, .int .i64 0, .int .i64 0, .int .i64 0]) ?_ 1 _ rfl; (with_reducible repeat (first | refine blk_drewN ?_ _ | refine blk_drew ?_ | refine blk_alloc ?_ _)); refine blk_put (cs := #[.int .i64 0, .int .i64 0, .int .i64 0, .int .i64 0]) ?_ 0 _ rfl; (with_reducible repeat (first | refine blk_drewN ?_ _ | refine blk_drew ?_ | refine blk_alloc ?_ _)); exact BK318.out) : p := h
theorem w16g13_ {p : Prop} (h : p := by (with_reducible repeat (first | refine blk_drewN ?_ _ | refine blk_drew ?_ | refine blk_alloc ?_ _)); refine blk_put (cs := #[.int .i64 t308, .int .i64 0]) ?_ 1 _ rfl; (with_reducible repeat (first | refine blk_drewN ?_ _ | refine blk_drew ?_ | refine blk_alloc ?_ _)); refine blk_put (cs := #[.int .i64 0, .int .i64 0]) ?_ 0 _ rfl; (with_reducible repeat (first | refine blk_drewN ?_ _ | refine blk_drew ?_ | refine blk_alloc ?_ _)); exact BK312.out) : p := h
theorem w17g13_ {p : Prop} (h : p := by (with_reducible repeat (first | refine blk_far ?_ NB304_312.out _ | refine blk_drewN ?_ _ | refine blk_drew ?_ | refine blk_alloc ?_ _)); exact BK304.out) : p := h
theorem w18g13_ {p : Prop} (h : p := by (with_reducible repeat (first | refine blk_far ?_ NB304_318.out _ | refine blk_drewN ?_ _ | refine blk_drew ?_ | refine blk_alloc ?_ _)); exact BK304.out) : p := h
theorem w19g13_ {p : Prop} (h : p := by (with_reducible repeat (first | refine blk_far ?_ NB312_318.out _ | refine blk_drewN ?_ _ | refine blk_drew ?_ | refine blk_alloc ?_ _)); exact BK312.out) : p := h
theorem w20g13_ {p : Prop} (h : p := by (with_reducible repeat (first | apply Kd.R_alloc | apply Kd.R_drewN | apply Kd.R_drew)); exact (Kd.R_mono (Kd.R_far (p := ⟨gb312, 1, none⟩) (Kd.R_far (p := ⟨gb312, 0, none⟩) (Kd.R_mono HO_3.out (fun k_ hk => (⟨hk, hk.2⟩ : _ ∧ k_ ≠ gb312))) (fun _ hk => hk.2) (.int .i64 t308)) (fun _ hk => hk.2) (.int .i64 t309)) (fun _ h_ => h_.1))) : p := h
theorem w21g13_ {p : Prop} (h : p := by repeat (first | (with_reducible first | exact HK.out | apply KeepBut.set_ | apply keep_drewN | apply keep_drew | apply keep_alloc) | exact HK.out)) : p := h
theorem w22g13_ {p : Prop} (h : p := by repeat (first | (with_reducible first | exact HI0.out | apply IsS200.alloc | apply IsS200.drewN | apply IsS200.drew | apply IsS200.set_1 | apply IsS200.set_2) | exact HI0.out)) : p := h
theorem w23g13_ {p : Prop} (h : p := by (with_reducible repeat (first | apply Kd.R_alloc | apply Kd.R_drewN | apply Kd.R_drew)); exact (Kd.R_mono (Kd.R_far (p := ⟨gb318, 3, none⟩) (Kd.R_far (p := ⟨gb318, 2, none⟩) (Kd.R_far (p := ⟨gb318, 1, none⟩) (Kd.R_far (p := ⟨gb318, 0, none⟩) (Kd.R_types HO_3.out BK318.out (by decide)) (fun _ hk => hk.2) (.int .i64 t313)) (fun _ hk => hk.2) (.int .i64 t314)) (fun _ hk => hk.2) (.int .i64 t315)) (fun _ hk => hk.2) (.int .i64 t316)) (fun _ h_ => h_.1))) : p := h
theorem w24g13_ {p : Prop} (h : p := by first | rfl | (simp; done) | (simp [*]; done)) : p := h
theorem w25g13_ {p : Prop} (h : p := by repeat (first | (with_reducible first | exact HB.out | apply below_alloc | apply pw_below_drewN | apply below_drew1 | refine below_set ?_ (IsS200.ge HI0.out)) | exact HB.out)) : p := h
set_option maxHeartbeats 8000000 in
set_option maxRecDepth 100000 in
theorem spec_l29Draw.calls (k : Nat) (g : Nat) (s0_0 : List Int) (s0_1 : Int) (s0_2 : Int) (r1 : List (S70)) (r2 : Int) (r3 : Int) (w0 w : World) (hI : IsS200 w0 w g s0_0 s0_1 s0_2) (hB : Below w0.heap.size w0 w) (h : spec_l29Draw.f k s0_0 s0_1 s0_2 = some (r1, r2, r3)) :
 Calls Tryd.prog 109 #[.pointer (some ⟨g, 0, none⟩)] w fun e w' => ∃ v0_ : Value, e = .returned (v0_) ∧ Kd.R k70 70 w' w.heap.size (fun _ => True) v0_ r1 ∧ IsS200 w0 w' g s0_0 r2 r3 ∧ Below w0.heap.size w0 w' ∧ KeepBut w w' g none := by
 have hu68 := Tryd.underlying68; have hu70 := Tryd.underlying70; have HI0 := ag13_ hI; have HK := ag13_ (KeepBut.refl w g none); have HL := ag13_ hB.size; clear hI; have HW0 := ag13_ hB.size; have HB := ag13_ hB; clear hB; have H : ((spec_l01Next.f s0_0 s0_1 s0_2 14).bind fun bt305 => (spec_l29Draw.l0 k (([] : List (S70))) bt305.1 s0_0 bt305.2.1 bt305.2.2 0 0 0 0)) = some (r1, r2, r3) := h; clear h; obtain ⟨y301, hy301⟩ : ∃ y_ : List (S70), y_ = (([] : List (S70))) := ⟨_, rfl⟩
 replace H : ((spec_l01Next.f s0_0 s0_1 s0_2 14).bind fun bt305 => (spec_l29Draw.l0 k y301 bt305.1 s0_0 bt305.2.1 bt305.2.2 0 0 0 0)) = some (r1, r2, r3) := by first | (rw [hy301]; with_reducible exact H) | (have H2_ := (Option.bind_some _ _).symm.trans H; rw [hy301]; with_reducible exact H2_) | (have H2_ := (Option.bind_some _ _).symm.trans H; with_reducible exact H2_) | with_reducible exact H | (rw [hy301]; exact H) | exact H
 have Ny301 := ag13_ hy301; clear hy301
 replace H := Option.bind_eq_some_iff.mp H
 obtain ⟨⟨t305, t306, t307⟩, A20, H⟩ := H
 try dsimp only at H
 have A2 := ag13_ A20; clear A20; have H' := ag13_ H; clear H
 go_enter Tryd.func109, Tryd.ntmps109
 go_wp2_with (first | ((with_reducible refine gate_dst (N := 10) rfl ?_); refine Kd.R_lit k70 _ 70 ?hg (N := 10) ?hd (xs := ([] : List (S70))) (inner := []) (ok := fun _ => True) (okp := fun _ => True) ?hr ?hp (fun _ hk => hk) trivial (Below.refl _ _) (Nat.le_refl _) (by simp) ?_; (case hd => rfl); (case hg => rfl); (case hr => first | (go_simp; done) | (go_simp; rfl)); (case hp => exact (Reps.none _ _)); intro v302 w3 ho4 hb hg_ hnew_; clear hg_ hnew_; (first | rw [← Ny301.out] at ho4 | (simp only [Int.reduceToNat] at ho4; rw [← Ny301.out] at ho4)); have n0_ := ag13_ (Kd.R_lower ho4 (keep_size (w := w) (g := g) (row := none) w21g13_)); have n1_ := ag13_ (IsS200.below w22g13_ hb); have n2_ := ag13_ (KeepBut.trans w21g13_ (KeepBut.of_below hb g none) (.inl rfl)); have n3_ := ag13_ (below_step w25g13_ hb); clear HI0; clear HK; clear HB; have HO303 := n0_; have HI0 := n1_; have HK := n2_; have HB := n3_; clear n0_ n1_ n2_ n3_; clear hb ho4) | ((with_reducible refine gate_dst (N := 4) rfl ?_); refine be_ (N := 4) (cs := #[.int .i64 0, .int .i64 0, .int .i64 0, .int .i64 0]) (t := 68) ?_; intro gb304 hg w5 hbox hb; have n0_ := ag13_ (Kd.R_below (by (with_reducible repeat (first | apply Kd.R_alloc | apply Kd.R_drewN | apply Kd.R_drew)); exact HO303.out) hb); have n1_ := ag13_ (IsS200.below w22g13_ hb); have n2_ := ag13_ (KeepBut.trans w21g13_ (KeepBut.of_below hb g none) (.inl rfl)); have n3_ := ag13_ (below_step w25g13_ hb); have n4_ := ag13_ (hbox); have n5_ := ag13_ ((by rw [hg]; exact (keep_size (w := w) (g := g) (row := none) w21g13_) : w.heap.size ≤ gb304)); have n6_ := ag13_ ((Nat.le_trans HW0.out (by rw [hg]; exact (keep_size (w := w) (g := g) (row := none) w21g13_) : w.heap.size ≤ gb304) : w0.heap.size ≤ gb304)); have n7_ := ag13_ ((by rw [hg]; exact Nat.ne_of_lt (IsS200.lt (show IsS200 w0 _ g s0_0 s0_1 s0_2 from w22g13_)) : g ≠ gb304)); have n8_ := ag13_ ((by rw [hg]; exact Nat.ne_of_gt (IsS200.lt (show IsS200 w0 _ g s0_0 s0_1 s0_2 from w22g13_)) : gb304 ≠ g)); clear HO303; clear HI0; clear HK; clear HB; have HO303 := n0_; have HI0 := n1_; have HK := n2_; have HB := n3_; have BK304 := n4_; have GW304 := n5_; have GE304 := n6_; have NB0_304 := n7_; have NB304_0 := n8_; clear n0_ n1_ n2_ n3_ n4_ n5_ n6_ n7_ n8_; clear hb hbox hg; have hnb6 := NB304_0.out; have hnc6 := NB0_304.out; obtain ⟨hcz7_0, hcz7_1, hcz7_2, hcz7_3⟩ := blk4 BK304.out; obtain ⟨hfz7_0, hfz7_1, hfz7_2, hfz7_3⟩ := frz4 BK304.out) | ((with_reducible refine gate_callee (f := 102) rfl ?_); refine goesL_ (some 13) rfl rfl Tryd.func102 (by kernel_rfl) rfl #[.pointer (some ⟨g, 0, none⟩), .int .i64 14] rfl w11g13_ ?_; (with_reducible refine (spec_l01Next.calls g s0_0 s0_1 s0_2 14 t305 t306 t307 w0 _ ?side1 ?side2 A2.out).mono ?_); (case side1 => exact w1g13_); (case side2 => exact w4g13_); rintro e w8 ⟨rfl, hi, hb, hk⟩; refine ⟨_, rfl, ?_⟩; replace HO303 := ag13_ (Kd.R_mono (Kd.R_keep (IsS200.apart (show IsS200 w0 _ g s0_0 s0_1 s0_2 from w1g13_) (by (with_reducible repeat (first | apply Kd.R_alloc | apply Kd.R_drewN | apply Kd.R_drew)); exact (Kd.R_mono (Kd.R_far (p := ⟨gb304, 3, none⟩) (Kd.R_far (p := ⟨gb304, 2, none⟩) (Kd.R_far (p := ⟨gb304, 1, none⟩) (Kd.R_far (p := ⟨gb304, 0, none⟩) (Kd.R_types HO303.out BK304.out (by decide)) (fun _ hk => hk.2) (.int .i64 0)) (fun _ hk => hk.2) (.int .i64 0)) (fun _ hk => hk.2) (.int .i64 0)) (fun _ hk => hk.2) (.int .i64 0)) (fun _ h_ => h_.1))) (by decide)) hk (fun _ h => h.2)) (fun _ h => h.1)); replace HK := ag13_ (KeepBut.trans w2g13_ hk (.inl rfl)); replace HB := ag13_ (hb); replace BK304 := ag13_ (KeepBut.blk hk (g' := gb304) (o := .cells #[.int .i64 0, .int .i64 0, .int .i64 0, .int .i64 0] 68 (0, 0)) (by (with_reducible repeat (first | refine blk_drewN ?_ _ | refine blk_drew ?_ | refine blk_alloc ?_ _)); refine blk_put (cs := #[.int .i64 0, .int .i64 0, .int .i64 0, .int .i64 0]) ?_ 3 _ rfl; (with_reducible repeat (first | refine blk_drewN ?_ _ | refine blk_drew ?_ | refine blk_alloc ?_ _)); refine blk_put (cs := #[.int .i64 0, .int .i64 0, .int .i64 0, .int .i64 0]) ?_ 2 _ rfl; (with_reducible repeat (first | refine blk_drewN ?_ _ | refine blk_drew ?_ | refine blk_alloc ?_ _)); refine blk_put (cs := #[.int .i64 0, .int .i64 0, .int .i64 0, .int .i64 0]) ?_ 1 _ rfl; (with_reducible repeat (first | refine blk_drewN ?_ _ | refine blk_drew ?_ | refine blk_alloc ?_ _)); refine blk_put (cs := #[.int .i64 0, .int .i64 0, .int .i64 0, .int .i64 0]) ?_ 0 _ rfl; (with_reducible repeat (first | refine blk_drewN ?_ _ | refine blk_drew ?_ | refine blk_alloc ?_ _)); exact BK304.out) NB304_0.out (by simp)); replace HI0 := ag13_ (hi); clear hb hk hi))
 go_loopg [3, 5] k (fun kq v3 v5 w' => ∃ (x3_1 : List (S70)) (x5_1 : Int) (x1001_1 : Int) (x1002_1 : Int) (x305000_1 : Int) (x305001_1 : Int) (x305002_1 : Int) (x305003_1 : Int), v5 = .int .i64 x5_1 ∧ Aside0 (spec_l29Draw.l0 kq x3_1 x5_1 s0_0 x1001_1 x1002_1 x305000_1 x305001_1 x305002_1 x305003_1 = some (r1, r2, r3)) ∧ Aside0 (kq ≤ k) ∧ Aside0 (Kd.R k70 70 w' w.heap.size (fun _ => True) v3 x3_1) ∧ Aside0 (w'.heap[gb304]? = some (.cells #[.int .i64 x305000_1, .int .i64 x305001_1, .int .i64 x305002_1, .int .i64 x305003_1] 68 (0, 0))) ∧ Aside0 (IsS200 w0 w' g s0_0 x1001_1 x1002_1) ∧ Aside0 (KeepBut w w' g none) ∧ Aside0 (Below w0.heap.size w0 w'))
 case atStart => exact ⟨(y301), (t305), (t306), (t307), (0), (0), (0), (0), w24g13_, H', ⟨Nat.le_refl _⟩, ⟨(by (with_reducible repeat (first | apply Kd.R_alloc | apply Kd.R_drewN | apply Kd.R_drew)); exact HO303.out)⟩, ⟨w3g13_⟩, ⟨w1g13_⟩, ⟨w2g13_⟩, ⟨w4g13_⟩⟩
 case round =>
  clear H'
  try clear hcz7_0
  try clear hcz7_1
  try clear hcz7_2
  try clear hcz7_3
  try clear hfz7_0
  try clear hfz7_1
  try clear hfz7_2
  try clear hfz7_3
  obtain ⟨x3_1, x5_1, x1001_1, x1002_1, x305000_1, x305001_1, x305002_1, x305003_1, rfl, HA, HK1, HO_3, BK304, HI0, HK, HB⟩ := hrel
  cases gk with
  | zero => exact absurd HA.out (by simp [spec_l29Draw.l0])
  | succ k1 =>
   have H := HA.out; clear HA
   simp only [spec_l29Draw.l0] at H
   by_cases c9 : x5_1 > 0
   ·
    rw [if_pos c9] at H
    have c9b0 : decide (0 < x5_1) = true := decide_eq_true c9; clear c9
    replace H := Option.bind_eq_some_iff.mp H
    obtain ⟨⟨t308, t309, t310, t311⟩, A100, H⟩ := H
    try dsimp only at H
    have A10 := ag13_ A100; clear A100
    replace H := Option.bind_eq_some_iff.mp H
    obtain ⟨⟨t313, t314, t315, t316, t317⟩, A110, H⟩ := H
    try dsimp only at H
    have A11 := ag13_ A110; clear A110
    by_cases c12 : t317 = true
    ·
     subst c12
     rw [if_pos rfl] at H
     by_cases c13 : x3_1.length < 8796093022208
     ·
      rw [if_pos c13] at H
      have LMc13 := ag13_ c13; clear c13; obtain ⟨y319, hy319⟩ : ∃ y_ : List (S70), y_ = (x3_1 ++ [(⟨t308, t309⟩ : S70)]) := ⟨_, rfl⟩
      replace H : (spec_l29Draw.l0 k1 y319 (wrap64 (x5_1 - 1)) s0_0 t310 t311 t313 t314 t315 t316) = some (r1, r2, r3) := by first | (rw [hy319]; with_reducible exact H) | (have H2_ := (Option.bind_some _ _).symm.trans H; rw [hy319]; with_reducible exact H2_) | (have H2_ := (Option.bind_some _ _).symm.trans H; with_reducible exact H2_) | with_reducible exact H | (rw [hy319]; exact H) | exact H
      have Ny319 := ag13_ hy319; clear hy319; have H' := ag13_ H; clear H; have hnb14 := NB304_0.out; have hnc14 := NB0_304.out; obtain ⟨hcz15_0, hcz15_1, hcz15_2, hcz15_3⟩ := blk4 BK304.out; obtain ⟨hfz15_0, hfz15_1, hfz15_2, hfz15_3⟩ := frz4 BK304.out
      go_wp2_with (first | ((with_reducible refine gate_callee (f := 104) rfl ?_); refine goesL_ (some 20) rfl rfl Tryd.func104 (by kernel_rfl) rfl #[.pointer (some ⟨g, 0, none⟩), .agg #[.int .i64 x305000_1, .int .i64 x305001_1, .int .i64 x305002_1, .int .i64 x305003_1]] rfl w11g13_ ?_; (with_reducible refine (spec_l29DrawEntry.calls k1 g s0_0 x1001_1 x1002_1 x305000_1 x305001_1 x305002_1 x305003_1 t308 t309 t310 t311 w0 _ ?side1 ?side2 A10.out).mono ?_); (case side1 => exact w1g13_); (case side2 => exact w4g13_); rintro e w16 ⟨rfl, hi, hb, hk⟩; refine ⟨_, rfl, ?_⟩; replace HO_3 := ag13_ (Kd.R_mono (Kd.R_keep (IsS200.apart (show IsS200 w0 _ g s0_0 x1001_1 x1002_1 from w1g13_) w10g13_ (by decide)) hk (fun _ h => h.2)) (fun _ h => h.1)); replace BK304 := ag13_ (KeepBut.blk hk (g' := gb304) (o := .cells #[.int .i64 x305000_1, .int .i64 x305001_1, .int .i64 x305002_1, .int .i64 x305003_1] 68 (0, 0)) w3g13_ NB304_0.out (by simp)); replace HK := ag13_ (KeepBut.trans w2g13_ hk (.inl rfl)); replace HB := ag13_ (hb); replace HI0 := ag13_ (hi); clear hb hk hi) | ((with_reducible refine gate_dst (N := 6) rfl ?_); refine be_ (N := 6) (cs := #[.int .i64 0, .int .i64 0]) (t := 70) ?_; intro gb312 hg w17 hbox hb; have BK312 := ag13_ (hbox); have GW312 := ag13_ ((by rw [hg]; exact (keep_size (w := w) (g := g) (row := none) w2g13_) : w.heap.size ≤ gb312)); have GE312 := ag13_ ((Nat.le_trans HW0.out (by rw [hg]; exact (keep_size (w := w) (g := g) (row := none) w2g13_) : w.heap.size ≤ gb312) : w0.heap.size ≤ gb312)); obtain ⟨NB304_312, NB312_304⟩ := nb2_ hg w3g13_; have NB0_312 := ag13_ ((by rw [hg]; exact Nat.ne_of_lt (IsS200.lt (show IsS200 w0 _ g s0_0 t310 t311 from w1g13_)) : g ≠ gb312)); have NB312_0 := ag13_ ((by rw [hg]; exact Nat.ne_of_gt (IsS200.lt (show IsS200 w0 _ g s0_0 t310 t311 from w1g13_)) : gb312 ≠ g)); replace HO_3 := ag13_ (Kd.R_below (Kd.R_elderB w10g13_ gb312 (Nat.le_of_eq hg.symm)) hb); replace BK304 := ag13_ (blk_below w3g13_ hb); replace HK := ag13_ (KeepBut.trans w2g13_ (KeepBut.of_below hb g none) (.inl rfl)); replace HB := ag13_ (below_step w4g13_ hb); replace HI0 := ag13_ (IsS200.below w1g13_ hb); clear hb hbox hg; have hnb18 := NB312_304.out; have hnc18 := NB304_312.out; have hnb19 := NB312_0.out; have hnc19 := NB0_312.out; obtain ⟨hcz20_0, hcz20_1⟩ := blk2 BK312.out; obtain ⟨hfz20_0, hfz20_1⟩ := frz2 BK312.out; obtain ⟨hcz21_0, hcz21_1, hcz21_2, hcz21_3⟩ := blk4 BK304.out; obtain ⟨hfz21_0, hfz21_1, hfz21_2, hfz21_3⟩ := frz4 BK304.out) | ((with_reducible refine gate_callee (f := 106) rfl ?_); refine goesL_ (some 24) rfl rfl Tryd.func106 (by kernel_rfl) rfl #[.agg #[.int .i64 x305000_1, .int .i64 x305001_1, .int .i64 x305002_1, .int .i64 x305003_1], .agg #[.int .i64 t308, .int .i64 t309]] rfl w11g13_ ?_; (with_reducible refine (spec_l29Make.calls x305000_1 x305001_1 x305002_1 x305003_1 t308 t309 t313 t314 t315 t316 true _ A11.out).mono ?_); rintro e w22 ⟨rfl, hb⟩; refine ⟨_, rfl, ?_⟩; replace HO_3 := ag13_ (Kd.R_below w20g13_ hb); replace BK304 := ag13_ (blk_below (g := gb304) (o := .cells #[.int .i64 x305000_1, .int .i64 x305001_1, .int .i64 x305002_1, .int .i64 x305003_1] 68 (0, 0)) w17g13_ hb); replace BK312 := ag13_ (blk_below (g := gb312) (o := .cells #[.int .i64 t308, .int .i64 t309] 70 (0, 0)) w16g13_ hb); replace HK := ag13_ (KeepBut.trans w6g13_ (KeepBut.of_below hb g none) (.inl rfl)); replace HB := ag13_ (below_step w13g13_ hb); replace HI0 := ag13_ (IsS200.below (show IsS200 w0 ((w17.setCell ⟨gb312, 0, none⟩ (.int .i64 t308)).setCell ⟨gb312, 1, none⟩ (.int .i64 t309)) g s0_0 t310 t311 from w5g13_) hb); clear hb) | ((with_reducible refine gate_dst (N := 7) rfl ?_); refine be_ (N := 7) (cs := #[.int .i64 0, .int .i64 0, .int .i64 0, .int .i64 0]) (t := 68) ?_; intro gb318 hg w23 hbox hb; have BK318 := ag13_ (hbox); have GW318 := ag13_ ((by rw [hg]; exact (keep_size (w := w) (g := g) (row := none) w6g13_) : w.heap.size ≤ gb318)); have GE318 := ag13_ ((Nat.le_trans HW0.out (by rw [hg]; exact (keep_size (w := w) (g := g) (row := none) w6g13_) : w.heap.size ≤ gb318) : w0.heap.size ≤ gb318)); obtain ⟨NB304_318, NB318_304⟩ := nb2_ hg w3g13_; obtain ⟨NB312_318, NB318_312⟩ := nb2_ hg w14g13_; have NB0_318 := ag13_ ((by rw [hg]; exact Nat.ne_of_lt (IsS200.lt (show IsS200 w0 _ g s0_0 t310 t311 from w5g13_)) : g ≠ gb318)); have NB318_0 := ag13_ ((by rw [hg]; exact Nat.ne_of_gt (IsS200.lt (show IsS200 w0 _ g s0_0 t310 t311 from w5g13_)) : gb318 ≠ g)); replace HO_3 := ag13_ (Kd.R_below w10g13_ hb); replace BK304 := ag13_ (blk_below w3g13_ hb); replace BK312 := ag13_ (blk_below w14g13_ hb); replace HK := ag13_ (KeepBut.trans w6g13_ (KeepBut.of_below hb g none) (.inl rfl)); replace HB := ag13_ (below_step w13g13_ hb); replace HI0 := ag13_ (IsS200.below w5g13_ hb); clear hb hbox hg; have hnb24 := NB318_304.out; have hnc24 := NB304_318.out; have hnb25 := NB318_312.out; have hnc25 := NB312_318.out; have hnb26 := NB318_0.out; have hnc26 := NB0_318.out; obtain ⟨hcz27_0, hcz27_1, hcz27_2, hcz27_3⟩ := blk4 BK318.out; obtain ⟨hfz27_0, hfz27_1, hfz27_2, hfz27_3⟩ := frz4 BK318.out; obtain ⟨hcz28_0, hcz28_1, hcz28_2, hcz28_3⟩ := blk4 BK304.out; obtain ⟨hfz28_0, hfz28_1, hfz28_2, hfz28_3⟩ := frz4 BK304.out; obtain ⟨hcz29_0, hcz29_1⟩ := blk2 BK312.out; obtain ⟨hfz29_0, hfz29_1⟩ := frz2 BK312.out) | ((with_reducible refine gate_builtin (b := .append) (xs := #[.tmp 32, .tmp 34]) rfl ?_); at_builtin; refine Kd.R_append k70 w.heap.size rfl (.tmp 32) (.tmp 34) 22 70 (.agg #[(.int .i64 0), (.int .i64 0)]) 16 rfl Tryd.underlying22 info70 rfl (by decide) (by omega) u3 x3_1 (⟨t308, t309⟩ : S70) [.int .i64 t308, .int .i64 t309] (fun k_ => k_ ≠ gb312) (fun _ => False) rfl (by first | (go_simp; done) | (go_simp; rfl)) ?aP (fun _ hk => hk.elim) ?aF ?aO (Below.refl _ _) ?aS ?aL ?_; (case aP => exact k70_mkM _ _ _ (⟨t308, t309⟩ : S70)); (case aF => exact (fun k_ hk => Kd.freshB (g := gb312) (o := .cells #[.int .i64 t308, .int .i64 t309] 70 (0, 0)) w12g13_ k_ hk)); (case aO => exact (by (with_reducible repeat (first | apply Kd.R_alloc | apply Kd.R_drewN | apply Kd.R_drew)); exact Kd.R_mono (Kd.R_far (p := ⟨gb304, 3, none⟩) (Kd.R_far (p := ⟨gb304, 2, none⟩) (Kd.R_far (p := ⟨gb304, 1, none⟩) (Kd.R_far (p := ⟨gb304, 0, none⟩) (Kd.R_far (p := ⟨gb318, 3, none⟩) (Kd.R_far (p := ⟨gb318, 2, none⟩) (Kd.R_far (p := ⟨gb318, 1, none⟩) (Kd.R_far (p := ⟨gb318, 0, none⟩) (Kd.R_types (Kd.R_types HO_3.out BK318.out (by decide)) BK304.out (by decide)) (fun _ hk => hk.1.2) (.int .i64 t313)) (fun _ hk => hk.1.2) (.int .i64 t314)) (fun _ hk => hk.1.2) (.int .i64 t315)) (fun _ hk => hk.1.2) (.int .i64 t316)) (fun _ hk => hk.2) (.int .i64 t313)) (fun _ hk => hk.2) (.int .i64 t314)) (fun _ hk => hk.2) (.int .i64 t315)) (fun _ hk => hk.2) (.int .i64 t316)) (fun _ hk => hk.1.1.2))); (case aS => exact (keep_size (w := w) (g := g) (row := none) w8g13_)); (case aL => have := LMc13.out; omega); intro v320 w30 ho hb hg hat; rw [← Ny319.out] at ho; have n0_ := ag13_ (blk_grown (g := gb304) (o := .cells #[.int .i64 t313, .int .i64 t314, .int .i64 t315, .int .i64 t316] 68 (0, 0)) (by (with_reducible repeat (first | refine blk_drewN ?_ _ | refine blk_drew ?_ | refine blk_alloc ?_ _)); refine blk_put (cs := #[.int .i64 t313, .int .i64 t314, .int .i64 t315, .int .i64 x305003_1]) ?_ 3 _ rfl; (with_reducible repeat (first | refine blk_drewN ?_ _ | refine blk_drew ?_ | refine blk_alloc ?_ _)); refine blk_put (cs := #[.int .i64 t313, .int .i64 t314, .int .i64 x305002_1, .int .i64 x305003_1]) ?_ 2 _ rfl; (with_reducible repeat (first | refine blk_drewN ?_ _ | refine blk_drew ?_ | refine blk_alloc ?_ _)); refine blk_put (cs := #[.int .i64 t313, .int .i64 x305001_1, .int .i64 x305002_1, .int .i64 x305003_1]) ?_ 1 _ rfl; (with_reducible repeat (first | refine blk_drewN ?_ _ | refine blk_drew ?_ | refine blk_alloc ?_ _)); refine blk_put (cs := #[.int .i64 x305000_1, .int .i64 x305001_1, .int .i64 x305002_1, .int .i64 x305003_1]) ?_ 0 _ rfl; (with_reducible repeat (first | refine blk_far ?_ NB304_318.out _ | refine blk_drewN ?_ _ | refine blk_drew ?_ | refine blk_alloc ?_ _)); exact BK304.out) hg (Kd.R_ne HO_3.out BK304.out (by decide))); have n1_ := ag13_ (IsS200.grown (show IsS200 w0 _ g s0_0 t310 t311 from w7g13_) hg (IsS200.own_ne HI0.out HO_3.out (by decide))); have n2_ := ag13_ (blk_grown (g := gb312) (o := .cells #[.int .i64 t308, .int .i64 t309] 70 (0, 0)) w12g13_ hg (Kd.R_away HO_3.out (fun _ hk => hk.2))); have n3_ := ag13_ (blk_grown (g := gb318) (o := .cells #[.int .i64 t313, .int .i64 t314, .int .i64 t315, .int .i64 t316] 68 (0, 0)) (by (with_reducible repeat (first | refine blk_far ?_ NB318_304.out _ | refine blk_drewN ?_ _ | refine blk_drew ?_ | refine blk_alloc ?_ _)); refine blk_put (cs := #[.int .i64 t313, .int .i64 t314, .int .i64 t315, .int .i64 0]) ?_ 3 _ rfl; (with_reducible repeat (first | refine blk_drewN ?_ _ | refine blk_drew ?_ | refine blk_alloc ?_ _)); refine blk_put (cs := #[.int .i64 t313, .int .i64 t314, .int .i64 0, .int .i64 0]) ?_ 2 _ rfl; (with_reducible repeat (first | refine blk_drewN ?_ _ | refine blk_drew ?_ | refine blk_alloc ?_ _)); refine blk_put (cs := #[.int .i64 t313, .int .i64 0, .int .i64 0, .int .i64 0]) ?_ 1 _ rfl; (with_reducible repeat (first | refine blk_drewN ?_ _ | refine blk_drew ?_ | refine blk_alloc ?_ _)); refine blk_put (cs := #[.int .i64 0, .int .i64 0, .int .i64 0, .int .i64 0]) ?_ 0 _ rfl; (with_reducible repeat (first | refine blk_drewN ?_ _ | refine blk_drew ?_ | refine blk_alloc ?_ _)); exact BK318.out) hg (Kd.R_ne HO_3.out BK318.out (by decide))); have n4_ := ag13_ (below_weaken w9g13_ HL.out hb); have n5_ := ag13_ (KeepBut.trans w8g13_ (KeepBut.of_grown hg g) (Kd.R_base2 HO_3.out)); have n6_ := ag13_ (ho); clear BK304; clear HI0; clear BK312; clear BK318; clear HB; clear HK; clear HO_3; have BK304 := n0_; have HI0 := n1_; have BK312 := n2_; have BK318 := n3_; have HB := n4_; have HK := n5_; have HO321 := n6_; clear n0_ n1_ n2_ n3_ n4_ n5_ n6_; clear ho hb hg hat))
      go_roundg k1
      case measure => have := HK1.out; omega
      case rel => exact ⟨(y319), (wrap64 (x5_1 - 1)), (t310), (t311), (t313), (t314), (t315), (t316), w24g13_, H', ⟨(by have := HK1.out; omega)⟩, ⟨(by (with_reducible repeat (first | apply Kd.R_alloc | apply Kd.R_drewN | apply Kd.R_drew)); exact Kd.R_mono HO321.out (fun _ hk => trivial))⟩, ⟨w3g13_⟩, ⟨w7g13_⟩, ⟨w8g13_⟩, ⟨w9g13_⟩⟩
     ·
      rw [if_neg c13] at H
      exact absurd H (by simp)
    ·
     replace c12 := Bool.eq_false_iff.mpr c12
     subst c12
     rw [if_neg (show ¬ (false = true) by decide)] at H
     replace H := Option.bind_eq_some_iff.mp H
     obtain ⟨⟨t322, t323, t324⟩, A310, H⟩ := H
     try dsimp only at H
     have A31 := ag13_ A310; clear A310
     by_cases c32 : t322 > 0
     ·
      rw [if_pos c32] at H
      have c32b0 : decide (0 < t322) = true := decide_eq_true c32; clear c32; have H' := ag13_ H; clear H; have hnb33 := NB304_0.out; have hnc33 := NB0_304.out; obtain ⟨hcz34_0, hcz34_1, hcz34_2, hcz34_3⟩ := blk4 BK304.out; obtain ⟨hfz34_0, hfz34_1, hfz34_2, hfz34_3⟩ := frz4 BK304.out
      go_wp2_with (first | ((with_reducible refine gate_callee (f := 104) rfl ?_); refine goesL_ (some 20) rfl rfl Tryd.func104 (by kernel_rfl) rfl #[.pointer (some ⟨g, 0, none⟩), .agg #[.int .i64 x305000_1, .int .i64 x305001_1, .int .i64 x305002_1, .int .i64 x305003_1]] rfl w11g13_ ?_; (with_reducible refine (spec_l29DrawEntry.calls k1 g s0_0 x1001_1 x1002_1 x305000_1 x305001_1 x305002_1 x305003_1 t308 t309 t310 t311 w0 _ ?side1 ?side2 A10.out).mono ?_); (case side1 => exact w1g13_); (case side2 => exact w4g13_); rintro e w35 ⟨rfl, hi, hb, hk⟩; refine ⟨_, rfl, ?_⟩; replace HO_3 := ag13_ (Kd.R_mono (Kd.R_keep (IsS200.apart (show IsS200 w0 _ g s0_0 x1001_1 x1002_1 from w1g13_) w10g13_ (by decide)) hk (fun _ h => h.2)) (fun _ h => h.1)); replace BK304 := ag13_ (KeepBut.blk hk (g' := gb304) (o := .cells #[.int .i64 x305000_1, .int .i64 x305001_1, .int .i64 x305002_1, .int .i64 x305003_1] 68 (0, 0)) w3g13_ NB304_0.out (by simp)); replace HK := ag13_ (KeepBut.trans w2g13_ hk (.inl rfl)); replace HB := ag13_ (hb); replace HI0 := ag13_ (hi); clear hb hk hi) | ((with_reducible refine gate_dst (N := 6) rfl ?_); refine be_ (N := 6) (cs := #[.int .i64 0, .int .i64 0]) (t := 70) ?_; intro gb312 hg w36 hbox hb; have BK312 := ag13_ (hbox); have GW312 := ag13_ ((by rw [hg]; exact (keep_size (w := w) (g := g) (row := none) w2g13_) : w.heap.size ≤ gb312)); have GE312 := ag13_ ((Nat.le_trans HW0.out (by rw [hg]; exact (keep_size (w := w) (g := g) (row := none) w2g13_) : w.heap.size ≤ gb312) : w0.heap.size ≤ gb312)); obtain ⟨NB304_312, NB312_304⟩ := nb2_ hg w3g13_; have NB0_312 := ag13_ ((by rw [hg]; exact Nat.ne_of_lt (IsS200.lt (show IsS200 w0 _ g s0_0 t310 t311 from w1g13_)) : g ≠ gb312)); have NB312_0 := ag13_ ((by rw [hg]; exact Nat.ne_of_gt (IsS200.lt (show IsS200 w0 _ g s0_0 t310 t311 from w1g13_)) : gb312 ≠ g)); replace HO_3 := ag13_ (Kd.R_below (Kd.R_elderB w10g13_ gb312 (Nat.le_of_eq hg.symm)) hb); replace BK304 := ag13_ (blk_below w3g13_ hb); replace HK := ag13_ (KeepBut.trans w2g13_ (KeepBut.of_below hb g none) (.inl rfl)); replace HB := ag13_ (below_step w4g13_ hb); replace HI0 := ag13_ (IsS200.below w1g13_ hb); clear hb hbox hg; have hnb37 := NB312_304.out; have hnc37 := NB304_312.out; have hnb38 := NB312_0.out; have hnc38 := NB0_312.out; obtain ⟨hcz39_0, hcz39_1⟩ := blk2 BK312.out; obtain ⟨hfz39_0, hfz39_1⟩ := frz2 BK312.out; obtain ⟨hcz40_0, hcz40_1, hcz40_2, hcz40_3⟩ := blk4 BK304.out; obtain ⟨hfz40_0, hfz40_1, hfz40_2, hfz40_3⟩ := frz4 BK304.out) | ((with_reducible refine gate_callee (f := 106) rfl ?_); refine goesL_ (some 24) rfl rfl Tryd.func106 (by kernel_rfl) rfl #[.agg #[.int .i64 x305000_1, .int .i64 x305001_1, .int .i64 x305002_1, .int .i64 x305003_1], .agg #[.int .i64 t308, .int .i64 t309]] rfl w11g13_ ?_; (with_reducible refine (spec_l29Make.calls x305000_1 x305001_1 x305002_1 x305003_1 t308 t309 t313 t314 t315 t316 false _ A11.out).mono ?_); rintro e w41 ⟨rfl, hb⟩; refine ⟨_, rfl, ?_⟩; replace HO_3 := ag13_ (Kd.R_below w20g13_ hb); replace BK304 := ag13_ (blk_below (g := gb304) (o := .cells #[.int .i64 x305000_1, .int .i64 x305001_1, .int .i64 x305002_1, .int .i64 x305003_1] 68 (0, 0)) w17g13_ hb); replace BK312 := ag13_ (blk_below (g := gb312) (o := .cells #[.int .i64 t308, .int .i64 t309] 70 (0, 0)) w16g13_ hb); replace HK := ag13_ (KeepBut.trans w6g13_ (KeepBut.of_below hb g none) (.inl rfl)); replace HB := ag13_ (below_step w13g13_ hb); replace HI0 := ag13_ (IsS200.below (show IsS200 w0 ((w36.setCell ⟨gb312, 0, none⟩ (.int .i64 t308)).setCell ⟨gb312, 1, none⟩ (.int .i64 t309)) g s0_0 t310 t311 from w5g13_) hb); clear hb) | ((with_reducible refine gate_dst (N := 7) rfl ?_); refine be_ (N := 7) (cs := #[.int .i64 0, .int .i64 0, .int .i64 0, .int .i64 0]) (t := 68) ?_; intro gb318 hg w42 hbox hb; have BK318 := ag13_ (hbox); have GW318 := ag13_ ((by rw [hg]; exact (keep_size (w := w) (g := g) (row := none) w6g13_) : w.heap.size ≤ gb318)); have GE318 := ag13_ ((Nat.le_trans HW0.out (by rw [hg]; exact (keep_size (w := w) (g := g) (row := none) w6g13_) : w.heap.size ≤ gb318) : w0.heap.size ≤ gb318)); obtain ⟨NB304_318, NB318_304⟩ := nb2_ hg w3g13_; obtain ⟨NB312_318, NB318_312⟩ := nb2_ hg w14g13_; have NB0_318 := ag13_ ((by rw [hg]; exact Nat.ne_of_lt (IsS200.lt (show IsS200 w0 _ g s0_0 t310 t311 from w5g13_)) : g ≠ gb318)); have NB318_0 := ag13_ ((by rw [hg]; exact Nat.ne_of_gt (IsS200.lt (show IsS200 w0 _ g s0_0 t310 t311 from w5g13_)) : gb318 ≠ g)); replace HO_3 := ag13_ (Kd.R_below w10g13_ hb); replace BK304 := ag13_ (blk_below w3g13_ hb); replace BK312 := ag13_ (blk_below w14g13_ hb); replace HK := ag13_ (KeepBut.trans w6g13_ (KeepBut.of_below hb g none) (.inl rfl)); replace HB := ag13_ (below_step w13g13_ hb); replace HI0 := ag13_ (IsS200.below w5g13_ hb); clear hb hbox hg; have hnb43 := NB318_304.out; have hnc43 := NB304_318.out; have hnb44 := NB318_312.out; have hnc44 := NB312_318.out; have hnb45 := NB318_0.out; have hnc45 := NB0_318.out; obtain ⟨hcz46_0, hcz46_1, hcz46_2, hcz46_3⟩ := blk4 BK318.out; obtain ⟨hfz46_0, hfz46_1, hfz46_2, hfz46_3⟩ := frz4 BK318.out) | ((with_reducible refine gate_callee (f := 102) rfl ?_); refine goesL_ (some 30) rfl rfl Tryd.func102 (by kernel_rfl) rfl #[.pointer (some ⟨g, 0, none⟩), .int .i64 6] rfl w11g13_ ?_; (with_reducible refine (spec_l01Next.calls g s0_0 t310 t311 6 t322 t323 t324 w0 _ ?side1 ?side2 A31.out).mono ?_); (case side1 => exact w7g13_); (case side2 => exact w9g13_); rintro e w47 ⟨rfl, hi, hb, hk⟩; refine ⟨_, rfl, ?_⟩; replace HO_3 := ag13_ (Kd.R_mono (Kd.R_keep (IsS200.apart (show IsS200 w0 _ g s0_0 t310 t311 from w7g13_) w23g13_ (by decide)) hk (fun _ h => h.2)) (fun _ h => h.1)); replace BK304 := ag13_ (KeepBut.blk hk (g' := gb304) (o := .cells #[.int .i64 x305000_1, .int .i64 x305001_1, .int .i64 x305002_1, .int .i64 x305003_1] 68 (0, 0)) w18g13_ NB304_0.out (by simp)); replace BK312 := ag13_ (KeepBut.blk hk (g' := gb312) (o := .cells #[.int .i64 t308, .int .i64 t309] 70 (0, 0)) w19g13_ NB312_0.out (by simp)); replace HK := ag13_ (KeepBut.trans w8g13_ hk (.inl rfl)); replace HB := ag13_ (hb); replace BK318 := ag13_ (KeepBut.blk hk (g' := gb318) (o := .cells #[.int .i64 t313, .int .i64 t314, .int .i64 t315, .int .i64 t316] 68 (0, 0)) w15g13_ NB318_0.out (by simp)); replace HI0 := ag13_ (hi); clear hb hk hi))
      go_roundg k1
      case measure => have := HK1.out; omega
      case rel => exact ⟨(x3_1), (wrap64 (x5_1 - 1)), (t323), (t324), (x305000_1), (x305001_1), (x305002_1), (x305003_1), w24g13_, H', ⟨(by have := HK1.out; omega)⟩, ⟨(by (with_reducible repeat (first | apply Kd.R_alloc | apply Kd.R_drewN | apply Kd.R_drew)); exact Kd.R_mono HO_3.out (fun _ hk => trivial))⟩, ⟨w3g13_⟩, ⟨w7g13_⟩, ⟨w8g13_⟩, ⟨w9g13_⟩⟩
     ·
      rw [if_neg c32] at H
      have c32b0 : decide (0 < t322) = false := decide_eq_false c32; clear c32
      by_cases c48 : x3_1.length < 8796093022208
      ·
       rw [if_pos c48] at H
       have LMc48 := ag13_ c48; clear c48; obtain ⟨y325, hy325⟩ : ∃ y_ : List (S70), y_ = (x3_1 ++ [(⟨t308, t309⟩ : S70)]) := ⟨_, rfl⟩
       replace H : (spec_l29Draw.l0 k1 y325 (wrap64 (x5_1 - 1)) s0_0 t323 t324 x305000_1 x305001_1 x305002_1 x305003_1) = some (r1, r2, r3) := by first | (rw [hy325]; with_reducible exact H) | (have H2_ := (Option.bind_some _ _).symm.trans H; rw [hy325]; with_reducible exact H2_) | (have H2_ := (Option.bind_some _ _).symm.trans H; with_reducible exact H2_) | with_reducible exact H | (rw [hy325]; exact H) | exact H
       have Ny325 := ag13_ hy325; clear hy325; have H' := ag13_ H; clear H; have hnb49 := NB304_0.out; have hnc49 := NB0_304.out; obtain ⟨hcz50_0, hcz50_1, hcz50_2, hcz50_3⟩ := blk4 BK304.out; obtain ⟨hfz50_0, hfz50_1, hfz50_2, hfz50_3⟩ := frz4 BK304.out
       go_wp2_with (first | ((with_reducible refine gate_callee (f := 104) rfl ?_); refine goesL_ (some 20) rfl rfl Tryd.func104 (by kernel_rfl) rfl #[.pointer (some ⟨g, 0, none⟩), .agg #[.int .i64 x305000_1, .int .i64 x305001_1, .int .i64 x305002_1, .int .i64 x305003_1]] rfl w11g13_ ?_; (with_reducible refine (spec_l29DrawEntry.calls k1 g s0_0 x1001_1 x1002_1 x305000_1 x305001_1 x305002_1 x305003_1 t308 t309 t310 t311 w0 _ ?side1 ?side2 A10.out).mono ?_); (case side1 => exact w1g13_); (case side2 => exact w4g13_); rintro e w51 ⟨rfl, hi, hb, hk⟩; refine ⟨_, rfl, ?_⟩; replace HO_3 := ag13_ (Kd.R_mono (Kd.R_keep (IsS200.apart (show IsS200 w0 _ g s0_0 x1001_1 x1002_1 from w1g13_) w10g13_ (by decide)) hk (fun _ h => h.2)) (fun _ h => h.1)); replace BK304 := ag13_ (KeepBut.blk hk (g' := gb304) (o := .cells #[.int .i64 x305000_1, .int .i64 x305001_1, .int .i64 x305002_1, .int .i64 x305003_1] 68 (0, 0)) w3g13_ NB304_0.out (by simp)); replace HK := ag13_ (KeepBut.trans w2g13_ hk (.inl rfl)); replace HB := ag13_ (hb); replace HI0 := ag13_ (hi); clear hb hk hi) | ((with_reducible refine gate_dst (N := 6) rfl ?_); refine be_ (N := 6) (cs := #[.int .i64 0, .int .i64 0]) (t := 70) ?_; intro gb312 hg w52 hbox hb; have BK312 := ag13_ (hbox); have GW312 := ag13_ ((by rw [hg]; exact (keep_size (w := w) (g := g) (row := none) w2g13_) : w.heap.size ≤ gb312)); have GE312 := ag13_ ((Nat.le_trans HW0.out (by rw [hg]; exact (keep_size (w := w) (g := g) (row := none) w2g13_) : w.heap.size ≤ gb312) : w0.heap.size ≤ gb312)); obtain ⟨NB304_312, NB312_304⟩ := nb2_ hg w3g13_; have NB0_312 := ag13_ ((by rw [hg]; exact Nat.ne_of_lt (IsS200.lt (show IsS200 w0 _ g s0_0 t310 t311 from w1g13_)) : g ≠ gb312)); have NB312_0 := ag13_ ((by rw [hg]; exact Nat.ne_of_gt (IsS200.lt (show IsS200 w0 _ g s0_0 t310 t311 from w1g13_)) : gb312 ≠ g)); replace HO_3 := ag13_ (Kd.R_below (Kd.R_elderB w10g13_ gb312 (Nat.le_of_eq hg.symm)) hb); replace BK304 := ag13_ (blk_below w3g13_ hb); replace HK := ag13_ (KeepBut.trans w2g13_ (KeepBut.of_below hb g none) (.inl rfl)); replace HB := ag13_ (below_step w4g13_ hb); replace HI0 := ag13_ (IsS200.below w1g13_ hb); clear hb hbox hg; have hnb53 := NB312_304.out; have hnc53 := NB304_312.out; have hnb54 := NB312_0.out; have hnc54 := NB0_312.out; obtain ⟨hcz55_0, hcz55_1⟩ := blk2 BK312.out; obtain ⟨hfz55_0, hfz55_1⟩ := frz2 BK312.out; obtain ⟨hcz56_0, hcz56_1, hcz56_2, hcz56_3⟩ := blk4 BK304.out; obtain ⟨hfz56_0, hfz56_1, hfz56_2, hfz56_3⟩ := frz4 BK304.out) | ((with_reducible refine gate_callee (f := 106) rfl ?_); refine goesL_ (some 24) rfl rfl Tryd.func106 (by kernel_rfl) rfl #[.agg #[.int .i64 x305000_1, .int .i64 x305001_1, .int .i64 x305002_1, .int .i64 x305003_1], .agg #[.int .i64 t308, .int .i64 t309]] rfl w11g13_ ?_; (with_reducible refine (spec_l29Make.calls x305000_1 x305001_1 x305002_1 x305003_1 t308 t309 t313 t314 t315 t316 false _ A11.out).mono ?_); rintro e w57 ⟨rfl, hb⟩; refine ⟨_, rfl, ?_⟩; replace HO_3 := ag13_ (Kd.R_below w20g13_ hb); replace BK304 := ag13_ (blk_below (g := gb304) (o := .cells #[.int .i64 x305000_1, .int .i64 x305001_1, .int .i64 x305002_1, .int .i64 x305003_1] 68 (0, 0)) w17g13_ hb); replace BK312 := ag13_ (blk_below (g := gb312) (o := .cells #[.int .i64 t308, .int .i64 t309] 70 (0, 0)) w16g13_ hb); replace HK := ag13_ (KeepBut.trans w6g13_ (KeepBut.of_below hb g none) (.inl rfl)); replace HB := ag13_ (below_step w13g13_ hb); replace HI0 := ag13_ (IsS200.below (show IsS200 w0 ((w52.setCell ⟨gb312, 0, none⟩ (.int .i64 t308)).setCell ⟨gb312, 1, none⟩ (.int .i64 t309)) g s0_0 t310 t311 from w5g13_) hb); clear hb) | ((with_reducible refine gate_dst (N := 7) rfl ?_); refine be_ (N := 7) (cs := #[.int .i64 0, .int .i64 0, .int .i64 0, .int .i64 0]) (t := 68) ?_; intro gb318 hg w58 hbox hb; have BK318 := ag13_ (hbox); have GW318 := ag13_ ((by rw [hg]; exact (keep_size (w := w) (g := g) (row := none) w6g13_) : w.heap.size ≤ gb318)); have GE318 := ag13_ ((Nat.le_trans HW0.out (by rw [hg]; exact (keep_size (w := w) (g := g) (row := none) w6g13_) : w.heap.size ≤ gb318) : w0.heap.size ≤ gb318)); obtain ⟨NB304_318, NB318_304⟩ := nb2_ hg w3g13_; obtain ⟨NB312_318, NB318_312⟩ := nb2_ hg w14g13_; have NB0_318 := ag13_ ((by rw [hg]; exact Nat.ne_of_lt (IsS200.lt (show IsS200 w0 _ g s0_0 t310 t311 from w5g13_)) : g ≠ gb318)); have NB318_0 := ag13_ ((by rw [hg]; exact Nat.ne_of_gt (IsS200.lt (show IsS200 w0 _ g s0_0 t310 t311 from w5g13_)) : gb318 ≠ g)); replace HO_3 := ag13_ (Kd.R_below w10g13_ hb); replace BK304 := ag13_ (blk_below w3g13_ hb); replace BK312 := ag13_ (blk_below w14g13_ hb); replace HK := ag13_ (KeepBut.trans w6g13_ (KeepBut.of_below hb g none) (.inl rfl)); replace HB := ag13_ (below_step w13g13_ hb); replace HI0 := ag13_ (IsS200.below w5g13_ hb); clear hb hbox hg; have hnb59 := NB318_304.out; have hnc59 := NB304_318.out; have hnb60 := NB318_312.out; have hnc60 := NB312_318.out; have hnb61 := NB318_0.out; have hnc61 := NB0_318.out; obtain ⟨hcz62_0, hcz62_1, hcz62_2, hcz62_3⟩ := blk4 BK318.out; obtain ⟨hfz62_0, hfz62_1, hfz62_2, hfz62_3⟩ := frz4 BK318.out) | ((with_reducible refine gate_callee (f := 102) rfl ?_); refine goesL_ (some 30) rfl rfl Tryd.func102 (by kernel_rfl) rfl #[.pointer (some ⟨g, 0, none⟩), .int .i64 6] rfl w11g13_ ?_; (with_reducible refine (spec_l01Next.calls g s0_0 t310 t311 6 t322 t323 t324 w0 _ ?side1 ?side2 A31.out).mono ?_); (case side1 => exact w7g13_); (case side2 => exact w9g13_); rintro e w63 ⟨rfl, hi, hb, hk⟩; refine ⟨_, rfl, ?_⟩; replace HO_3 := ag13_ (Kd.R_mono (Kd.R_keep (IsS200.apart (show IsS200 w0 _ g s0_0 t310 t311 from w7g13_) w23g13_ (by decide)) hk (fun _ h => h.2)) (fun _ h => h.1)); replace BK304 := ag13_ (KeepBut.blk hk (g' := gb304) (o := .cells #[.int .i64 x305000_1, .int .i64 x305001_1, .int .i64 x305002_1, .int .i64 x305003_1] 68 (0, 0)) w18g13_ NB304_0.out (by simp)); replace BK312 := ag13_ (KeepBut.blk hk (g' := gb312) (o := .cells #[.int .i64 t308, .int .i64 t309] 70 (0, 0)) w19g13_ NB312_0.out (by simp)); replace HK := ag13_ (KeepBut.trans w8g13_ hk (.inl rfl)); replace HB := ag13_ (hb); replace BK318 := ag13_ (KeepBut.blk hk (g' := gb318) (o := .cells #[.int .i64 t313, .int .i64 t314, .int .i64 t315, .int .i64 t316] 68 (0, 0)) w15g13_ NB318_0.out (by simp)); replace HI0 := ag13_ (hi); clear hb hk hi; obtain ⟨hcz64_0, hcz64_1⟩ := blk2 BK312.out; obtain ⟨hfz64_0, hfz64_1⟩ := frz2 BK312.out) | ((with_reducible refine gate_builtin (b := .append) (xs := #[.tmp 32, .tmp 34]) rfl ?_); at_builtin; refine Kd.R_append k70 w.heap.size rfl (.tmp 32) (.tmp 34) 22 70 (.agg #[(.int .i64 0), (.int .i64 0)]) 16 rfl Tryd.underlying22 info70 rfl (by decide) (by omega) u3 x3_1 (⟨t308, t309⟩ : S70) [.int .i64 t308, .int .i64 t309] (fun k_ => k_ ≠ gb312) (fun _ => False) rfl rfl ?aP (fun _ hk => hk.elim) ?aF ?aO (Below.refl _ _) ?aS ?aL ?_; (case aP => exact k70_mkM _ _ _ (⟨t308, t309⟩ : S70)); (case aF => exact (fun k_ hk => Kd.freshB (g := gb312) (o := .cells #[.int .i64 t308, .int .i64 t309] 70 (0, 0)) w14g13_ k_ hk)); (case aO => exact (by (with_reducible repeat (first | apply Kd.R_alloc | apply Kd.R_drewN | apply Kd.R_drew)); exact Kd.R_mono HO_3.out (fun _ hk => hk.2))); (case aS => exact (keep_size (w := w) (g := g) (row := none) w8g13_)); (case aL => have := LMc48.out; omega); intro v326 w65 ho hb hg hat; rw [← Ny325.out] at ho; have n0_ := ag13_ (blk_grown (g := gb304) (o := .cells #[.int .i64 x305000_1, .int .i64 x305001_1, .int .i64 x305002_1, .int .i64 x305003_1] 68 (0, 0)) w3g13_ hg (Kd.R_ne HO_3.out BK304.out (by decide))); have n1_ := ag13_ (IsS200.grown w7g13_ hg (IsS200.own_ne HI0.out HO_3.out (by decide))); have n2_ := ag13_ (blk_grown (g := gb312) (o := .cells #[.int .i64 t308, .int .i64 t309] 70 (0, 0)) w14g13_ hg (Kd.R_away HO_3.out (fun _ hk => hk.2))); have n3_ := ag13_ (blk_grown (g := gb318) (o := .cells #[.int .i64 t313, .int .i64 t314, .int .i64 t315, .int .i64 t316] 68 (0, 0)) (by (with_reducible repeat (first | refine blk_drewN ?_ _ | refine blk_drew ?_ | refine blk_alloc ?_ _)); exact BK318.out) hg (Kd.R_ne HO_3.out BK318.out (by decide))); have n4_ := ag13_ (below_weaken w9g13_ HL.out hb); have n5_ := ag13_ (KeepBut.trans w8g13_ (KeepBut.of_grown hg g) (Kd.R_base2 HO_3.out)); have n6_ := ag13_ (ho); clear BK304; clear HI0; clear BK312; clear BK318; clear HB; clear HK; clear HO_3; have BK304 := n0_; have HI0 := n1_; have BK312 := n2_; have BK318 := n3_; have HB := n4_; have HK := n5_; have HO327 := n6_; clear n0_ n1_ n2_ n3_ n4_ n5_ n6_; clear ho hb hg hat))
       go_roundg k1
       case measure => have := HK1.out; omega
       case rel => exact ⟨(y325), (wrap64 (x5_1 - 1)), (t323), (t324), (x305000_1), (x305001_1), (x305002_1), (x305003_1), w24g13_, H', ⟨(by have := HK1.out; omega)⟩, ⟨(by (with_reducible repeat (first | apply Kd.R_alloc | apply Kd.R_drewN | apply Kd.R_drew)); exact Kd.R_mono HO327.out (fun _ hk => trivial))⟩, ⟨w3g13_⟩, ⟨w7g13_⟩, ⟨w8g13_⟩, ⟨w9g13_⟩⟩
      ·
       rw [if_neg c48] at H
       exact absurd H (by simp)
   ·
    rw [if_neg c9] at H
    have c9b0 : decide (0 < x5_1) = false := decide_eq_false c9; clear c9
    replace H := Option.bind_eq_some_iff.mp H
    obtain ⟨⟨t328, t329, t330⟩, A660, H⟩ := H
    try dsimp only at H
    have A66 := ag13_ A660; clear A660
    by_cases c67 : t328 = 0
    ·
     rw [if_pos c67] at H
     have c67b0 : (t328 == 0) = true := beq_iff_eq.mpr c67; have c67b1 : (t328 != 0) = false := bne_eq_false_iff_eq.mpr c67; clear c67; obtain ⟨y331, hy331⟩ : ∃ y_ : List (S70), y_ = (([(⟨1, 1⟩ : S70)] : List (S70))) := ⟨_, rfl⟩
     replace H : ((spec_l01Next.f s0_0 t329 t330 2).bind fun bt334 => (spec_l29Draw.l1 k1 y331 (wrap64 (199 + bt334.1)) s0_0 bt334.2.1 bt334.2.2)) = some (r1, r2, r3) := by first | (rw [hy331]; with_reducible exact H) | (have H2_ := (Option.bind_some _ _).symm.trans H; rw [hy331]; with_reducible exact H2_) | (have H2_ := (Option.bind_some _ _).symm.trans H; with_reducible exact H2_) | with_reducible exact H | (rw [hy331]; exact H) | exact H
     have Ny331 := ag13_ hy331; clear hy331
     replace H := Option.bind_eq_some_iff.mp H
     obtain ⟨⟨t334, t335, t336⟩, A680, H⟩ := H
     try dsimp only at H
     have A68 := ag13_ A680; clear A680; have H' := ag13_ H; clear H
     go_wp2_with (first | ((with_reducible refine gate_callee (f := 102) rfl ?_); refine goesL_ (some 37) rfl rfl Tryd.func102 (by kernel_rfl) rfl #[.pointer (some ⟨g, 0, none⟩), .int .i64 50] rfl w11g13_ ?_; (with_reducible refine (spec_l01Next.calls g s0_0 x1001_1 x1002_1 50 t328 t329 t330 w0 _ ?side1 ?side2 A66.out).mono ?_); (case side1 => exact w1g13_); (case side2 => exact w4g13_); rintro e w69 ⟨rfl, hi, hb, hk⟩; refine ⟨_, rfl, ?_⟩; replace HO_3 := ag13_ (Kd.R_mono (Kd.R_keep (IsS200.apart (show IsS200 w0 _ g s0_0 x1001_1 x1002_1 from w1g13_) w10g13_ (by decide)) hk (fun _ h => h.2)) (fun _ h => h.1)); replace BK304 := ag13_ (KeepBut.blk hk (g' := gb304) (o := .cells #[.int .i64 x305000_1, .int .i64 x305001_1, .int .i64 x305002_1, .int .i64 x305003_1] 68 (0, 0)) w3g13_ NB304_0.out (by simp)); replace HK := ag13_ (KeepBut.trans w2g13_ hk (.inl rfl)); replace HB := ag13_ (hb); replace HI0 := ag13_ (hi); clear hb hk hi) | ((with_reducible refine gate_dst (N := 40) rfl ?_); refine Kd.R_lit k70 _ 70 ?hg (N := 40) ?hd (xs := ([(⟨1, 1⟩ : S70)] : List (S70))) (inner := [.int .i64 1, .int .i64 1]) (ok := fun _ => True) (okp := fun _ => True) ?hr ?hp (fun _ hk => hk) trivial (Below.refl _ _) (Nat.le_refl _) (by simp) ?_; (case hd => rfl); (case hg => rfl); (case hr => first | (go_simp; done) | (go_simp; rfl)); (case hp => exact (Reps.c2 (show Kd.M k70 _ _ _ (⟨1, 1⟩ : S70) [.int .i64 1, .int .i64 1] from (k70_mkM _ _ _ (⟨1, 1⟩ : S70) )) (Reps.none _ _))); intro v332 w70 ho71 hb hg_ hnew_; clear hg_ hnew_; (first | rw [← Ny331.out] at ho71 | (simp only [Int.reduceToNat] at ho71; rw [← Ny331.out] at ho71)); have HO333 := ag13_ (Kd.R_lower (Kd.R_new' ho71 (Kd.R_lt w10g13_)) (keep_size (w := w) (g := g) (row := none) w2g13_)); replace HO_3 := ag13_ (Kd.R_elder' w10g13_ (Kd.R_base ho71) hb); replace BK304 := ag13_ (blk_below w3g13_ hb); replace HK := ag13_ (KeepBut.trans w2g13_ (KeepBut.of_below hb g none) (.inl rfl)); replace HB := ag13_ (below_step w4g13_ hb); replace HI0 := ag13_ (IsS200.below w1g13_ hb); clear hb ho71) | ((with_reducible refine gate_callee (f := 102) rfl ?_); refine goesL_ (some 42) rfl rfl Tryd.func102 (by kernel_rfl) rfl #[.pointer (some ⟨g, 0, none⟩), .int .i64 2] rfl w11g13_ ?_; (with_reducible refine (spec_l01Next.calls g s0_0 t329 t330 2 t334 t335 t336 w0 _ ?side1 ?side2 A68.out).mono ?_); (case side1 => exact w1g13_); (case side2 => exact w4g13_); rintro e w72 ⟨rfl, hi, hb, hk⟩; refine ⟨_, rfl, ?_⟩; replace HO_3 := ag13_ (Kd.R_mono (Kd.R_keep (IsS200.apart (show IsS200 w0 _ g s0_0 t329 t330 from w1g13_) w10g13_ (by decide)) hk (fun _ h => h.2)) (fun _ h => h.1)); replace BK304 := ag13_ (KeepBut.blk hk (g' := gb304) (o := .cells #[.int .i64 x305000_1, .int .i64 x305001_1, .int .i64 x305002_1, .int .i64 x305003_1] 68 (0, 0)) w3g13_ NB304_0.out (by simp)); replace HO333 := ag13_ (Kd.R_mono (Kd.R_keep (IsS200.apart (show IsS200 w0 _ g s0_0 t329 t330 from w1g13_) (by (with_reducible repeat (first | apply Kd.R_alloc | apply Kd.R_drewN | apply Kd.R_drew)); exact HO333.out) (by decide)) hk (fun _ h => h.2)) (fun _ h => h.1)); replace HK := ag13_ (KeepBut.trans w2g13_ hk (.inl rfl)); replace HB := ag13_ (hb); replace HI0 := ag13_ (hi); clear hb hk hi))
     go_loopg [3, 9] k1 (fun kq v3 v9 w' => ∃ (x3_2 : List (S70)) (x9_2 : Int), v9 = .int .i64 x9_2 ∧ Aside0 (spec_l29Draw.l1 kq x3_2 x9_2 s0_0 t335 t336 = some (r1, r2, r3)) ∧ Aside0 (kq ≤ k1) ∧ Aside0 (Kd.R k70 70 w' w.heap.size (fun _ => True) v3 x3_2) ∧ Aside0 (w'.heap[gb304]? = some (.cells #[.int .i64 x305000_1, .int .i64 x305001_1, .int .i64 x305002_1, .int .i64 x305003_1] 68 (0, 0))) ∧ Aside0 (IsS200 w0 w' g s0_0 t335 t336) ∧ Aside0 (KeepBut w w' g none) ∧ Aside0 (Below w0.heap.size w0 w'))
     case atStart => exact ⟨(y331), (wrap64 (199 + t334)), w24g13_, H', ⟨Nat.le_refl _⟩, ⟨(by (with_reducible repeat (first | apply Kd.R_alloc | apply Kd.R_drewN | apply Kd.R_drew)); exact Kd.R_mono HO333.out (fun _ hk => trivial))⟩, ⟨w3g13_⟩, ⟨w1g13_⟩, ⟨w2g13_⟩, ⟨w4g13_⟩⟩
     case round =>
      clear H'
      try clear c2
      try clear c9
      try clear c9b0
      try clear c12
      try clear c13
      try clear c32
      try clear c32b0
      try clear c48
      try clear c67
      try clear c67b0
      try clear c67b1
      try clear hcz15_0
      try clear hcz15_1
      try clear hcz15_2
      try clear hcz15_3
      try clear hcz20_0
      try clear hcz20_1
      try clear hcz21_0
      try clear hcz21_1
      try clear hcz21_2
      try clear hcz21_3
      try clear hcz27_0
      try clear hcz27_1
      try clear hcz27_2
      try clear hcz27_3
      try clear hcz28_0
      try clear hcz28_1
      try clear hcz28_2
      try clear hcz28_3
      try clear hcz29_0
      try clear hcz29_1
      try clear hcz34_0
      try clear hcz34_1
      try clear hcz34_2
      try clear hcz34_3
      try clear hcz39_0
      try clear hcz39_1
      try clear hcz40_0
      try clear hcz40_1
      try clear hcz40_2
      try clear hcz40_3
      try clear hcz46_0
      try clear hcz46_1
      try clear hcz46_2
      try clear hcz46_3
      try clear hcz50_0
      try clear hcz50_1
      try clear hcz50_2
      try clear hcz50_3
      try clear hcz55_0
      try clear hcz55_1
      try clear hcz56_0
      try clear hcz56_1
      try clear hcz56_2
      try clear hcz56_3
      try clear hcz62_0
      try clear hcz62_1
      try clear hcz62_2
      try clear hcz62_3
      try clear hcz64_0
      try clear hcz64_1
      try clear hcz7_0
      try clear hcz7_1
      try clear hcz7_2
      try clear hcz7_3
      try clear hfz15_0
      try clear hfz15_1
      try clear hfz15_2
      try clear hfz15_3
      try clear hfz20_0
      try clear hfz20_1
      try clear hfz21_0
      try clear hfz21_1
      try clear hfz21_2
      try clear hfz21_3
      try clear hfz27_0
      try clear hfz27_1
      try clear hfz27_2
      try clear hfz27_3
      try clear hfz28_0
      try clear hfz28_1
      try clear hfz28_2
      try clear hfz28_3
      try clear hfz29_0
      try clear hfz29_1
      try clear hfz34_0
      try clear hfz34_1
      try clear hfz34_2
      try clear hfz34_3
      try clear hfz39_0
      try clear hfz39_1
      try clear hfz40_0
      try clear hfz40_1
      try clear hfz40_2
      try clear hfz40_3
      try clear hfz46_0
      try clear hfz46_1
      try clear hfz46_2
      try clear hfz46_3
      try clear hfz50_0
      try clear hfz50_1
      try clear hfz50_2
      try clear hfz50_3
      try clear hfz55_0
      try clear hfz55_1
      try clear hfz56_0
      try clear hfz56_1
      try clear hfz56_2
      try clear hfz56_3
      try clear hfz62_0
      try clear hfz62_1
      try clear hfz62_2
      try clear hfz62_3
      try clear hfz64_0
      try clear hfz64_1
      try clear hfz7_0
      try clear hfz7_1
      try clear hfz7_2
      try clear hfz7_3
      obtain ⟨x3_2, x9_2, rfl, HA, HK2, HO_3, BK304, HI0, HK, HB⟩ := hrel
      cases gk with
      | zero => exact absurd HA.out (by simp [spec_l29Draw.l1])
      | succ k2 =>
       have H := HA.out; clear HA
       simp only [spec_l29Draw.l1] at H
       by_cases c73 : x9_2 > 0
       ·
        rw [if_pos c73] at H
        have c73b0 : decide (0 < x9_2) = true := decide_eq_true c73; clear c73
        by_cases c74 : x3_2.length < 8796093022208
        ·
         rw [if_pos c74] at H
         have LMc74 := ag13_ c74; clear c74; obtain ⟨y337, hy337⟩ : ∃ y_ : List (S70), y_ = (x3_2 ++ [(⟨2, x9_2⟩ : S70)]) := ⟨_, rfl⟩
         replace H : (spec_l29Draw.l1 k2 y337 (wrap64 (x9_2 - 1)) s0_0 t335 t336) = some (r1, r2, r3) := by first | (rw [hy337]; with_reducible exact H) | (have H2_ := (Option.bind_some _ _).symm.trans H; rw [hy337]; with_reducible exact H2_) | (have H2_ := (Option.bind_some _ _).symm.trans H; with_reducible exact H2_) | with_reducible exact H | (rw [hy337]; exact H) | exact H
         have Ny337 := ag13_ hy337; clear hy337; have H' := ag13_ H; clear H
         go_wp2_with (first | ((with_reducible refine gate_builtin (b := .append) (xs := #[.tmp 48, .tmp 51]) rfl ?_); at_builtin; refine Kd.R_append k70 w.heap.size rfl (.tmp 48) (.tmp 51) 22 70 (.agg #[(.int .i64 0), (.int .i64 0)]) 16 rfl Tryd.underlying22 info70 rfl (by decide) (by omega) u3 x3_2 (⟨2, x9_2⟩ : S70) [.int .i64 2, .int .i64 x9_2] (fun _ => True) (fun _ => False) rfl rfl ?aP (fun _ hk => hk.elim) ?aF ?aO (Below.refl _ _) ?aS ?aL ?_; (case aP => exact k70_mkM _ _ _ (⟨2, x9_2⟩ : S70)); (case aF => exact (fun _ _ => trivial)); (case aO => exact w10g13_); (case aS => exact (keep_size (w := w) (g := g) (row := none) w2g13_)); (case aL => have := LMc74.out; omega); intro v338 w75 ho hb hg hat; rw [← Ny337.out] at ho; have n0_ := ag13_ (blk_grown (g := gb304) (o := .cells #[.int .i64 x305000_1, .int .i64 x305001_1, .int .i64 x305002_1, .int .i64 x305003_1] 68 (0, 0)) w3g13_ hg (Kd.R_ne HO_3.out BK304.out (by decide))); have n1_ := ag13_ (IsS200.grown w1g13_ hg (IsS200.own_ne HI0.out HO_3.out (by decide))); have n2_ := ag13_ (below_weaken w4g13_ HL.out hb); have n3_ := ag13_ (KeepBut.trans w2g13_ (KeepBut.of_grown hg g) (Kd.R_base2 HO_3.out)); have n4_ := ag13_ (ho); clear BK304; clear HI0; clear HB; clear HK; clear HO_3; have BK304 := n0_; have HI0 := n1_; have HB := n2_; have HK := n3_; have HO339 := n4_; clear n0_ n1_ n2_ n3_ n4_; clear ho hb hg hat))
         go_roundg k2
         case measure => have := HK1.out; have := HK2.out; omega
         case rel => exact ⟨(y337), (wrap64 (x9_2 - 1)), w24g13_, H', ⟨(by have := HK1.out; have := HK2.out; omega)⟩, ⟨(by (with_reducible repeat (first | apply Kd.R_alloc | apply Kd.R_drewN | apply Kd.R_drew)); exact HO339.out)⟩, ⟨w3g13_⟩, ⟨w1g13_⟩, ⟨w2g13_⟩, ⟨w4g13_⟩⟩
        ·
         rw [if_neg c74] at H
         exact absurd H (by simp)
       ·
        rw [if_neg c73] at H
        have c73b0 : decide (0 < x9_2) = false := decide_eq_false c73; clear c73
        simp only [Option.some.injEq, Prod.mk.injEq] at H
        obtain ⟨rfl, rfl, rfl⟩ := H
        go_wp2
        go_ret
        exact ⟨_, (by first | rfl | (simp [errW_none, errW_some] <;> rfl) | (simp [*, errW_none, errW_some] <;> rfl)), w10g13_, w1g13_, w4g13_, w2g13_⟩
    ·
     rw [if_neg c67] at H
     have c67b0 : (t328 == 0) = false := beq_eq_false_iff_ne.mpr c67; have c67b1 : (t328 != 0) = true := bne_iff_ne.mpr c67
     simp only [Option.some.injEq, Prod.mk.injEq] at H
     obtain ⟨rfl, rfl, rfl⟩ := H
     go_wp2_with (first | ((with_reducible refine gate_callee (f := 102) rfl ?_); refine goesL_ (some 37) rfl rfl Tryd.func102 (by kernel_rfl) rfl #[.pointer (some ⟨g, 0, none⟩), .int .i64 50] rfl w11g13_ ?_; (with_reducible refine (spec_l01Next.calls g s0_0 x1001_1 x1002_1 50 t328 t329 t330 w0 _ ?side1 ?side2 A66.out).mono ?_); (case side1 => exact w1g13_); (case side2 => exact w4g13_); rintro e w76 ⟨rfl, hi, hb, hk⟩; refine ⟨_, rfl, ?_⟩; replace HO_3 := ag13_ (Kd.R_mono (Kd.R_keep (IsS200.apart (show IsS200 w0 _ g s0_0 x1001_1 x1002_1 from w1g13_) w10g13_ (by decide)) hk (fun _ h => h.2)) (fun _ h => h.1)); replace BK304 := ag13_ (KeepBut.blk hk (g' := gb304) (o := .cells #[.int .i64 x305000_1, .int .i64 x305001_1, .int .i64 x305002_1, .int .i64 x305003_1] 68 (0, 0)) w3g13_ NB304_0.out (by simp)); replace HK := ag13_ (KeepBut.trans w2g13_ hk (.inl rfl)); replace HB := ag13_ (hb); replace HI0 := ag13_ (hi); clear hb hk hi))
     go_ret
     exact ⟨_, (by first | rfl | (simp [errW_none, errW_some] <;> rfl) | (simp [*, errW_none, errW_some] <;> rfl)), w10g13_, w1g13_, w4g13_, w2g13_⟩
end Go.Proofs.YtoiioapkebglgaaDoor.PG
end
section
namespace Go.Proofs.YtoiioapkebglgaaDoor.PG
open Go.RowKit Go.Proofs.YtoiioapkebglgaaDoorW.PrintWords Go.Proofs.YtoiioapkebglgaaDoorW.PrintLast Go.Proofs.YtoiioapkebglgaaDoorW.PrintMore
attribute [local go_sem] max2_int min2_int max_two min_two max_three min_three max_four min_four   -- for this text's walks alone
set_option linter.unusedVariables false
set_option linter.unusedSimpArgs false
def spec_l01Damage.f (s0_0 : List Int) (s0_1 : Int) (s0_2 : Int) (a1 : ByteArray) : Option (ByteArray × Int × Int) := (spec_l01Next.f s0_0 s0_1 s0_2 (wrap64 ((a1.size : Int) + 1))).bind fun bt340 => ((spec_l01Next.f s0_0 bt340.2.1 bt340.2.2 8).bind fun bt343 => (if bt343.1 = 0 then (if 0 ≤ bt340.1 then (if bt340.1 ≤ (a1.size : Int) then (some (a1.extract 0 (bt340.1 : Int).toNat, bt343.2.1, bt343.2.2)) else (none)) else (none)) else (if bt343.1 = 1 then (if 0 ≤ bt340.1 then (if bt340.1 ≤ (a1.size : Int) then ((some (([(⟨#[48]⟩ : ByteArray), (⟨#[49]⟩ : ByteArray), (⟨#[32]⟩ : ByteArray), (⟨#[45]⟩ : ByteArray), (⟨#[46]⟩ : ByteArray), (⟨#[44]⟩ : ByteArray), (⟨#[10]⟩ : ByteArray), (⟨#[120]⟩ : ByteArray)] : List ByteArray) : List ByteArray)).bind fun y346 => ((spec_l01Next.f s0_0 bt343.2.1 bt343.2.2 8).bind fun bt349 => (if 0 ≤ bt349.1 then (if bt349.1 < (y346.length : Int) then (if (a1.extract 0 (bt340.1 : Int).toNat).size + (rdOf ByteArray.empty y346 bt349.1).size ≤ 9223372036854775807 then (if ((a1.extract 0 (bt340.1 : Int).toNat) ++ (rdOf ByteArray.empty y346 bt349.1)).size + (a1.extract (bt340.1 : Int).toNat a1.size).size ≤ 9223372036854775807 then (some (((a1.extract 0 (bt340.1 : Int).toNat) ++ (rdOf ByteArray.empty y346 bt349.1)) ++ (a1.extract (bt340.1 : Int).toNat a1.size), bt349.2.1, bt349.2.2)) else (none)) else (none)) else (none)) else (none)))) else (none)) else (none)) else (if bt343.1 = 2 then (if bt340.1 < (a1.size : Int) then (if 0 ≤ bt340.1 then (if bt340.1 ≤ (a1.size : Int) then (if 0 ≤ (wrap64 (bt340.1 + 1)) then (if (wrap64 (bt340.1 + 1)) ≤ (a1.size : Int) then (if (a1.extract 0 (bt340.1 : Int).toNat).size + (a1.extract ((wrap64 (bt340.1 + 1)) : Int).toNat a1.size).size ≤ 9223372036854775807 then (some ((a1.extract 0 (bt340.1 : Int).toNat) ++ (a1.extract ((wrap64 (bt340.1 + 1)) : Int).toNat a1.size), bt343.2.1, bt343.2.2)) else (none)) else (none)) else (none)) else (none)) else (none)) else (some (a1, bt343.2.1, bt343.2.2))) else (some (a1, bt343.2.1, bt343.2.2))))))
def spec_l01Damage.T6 : Bool × List (List Nat × List Nat) := (true, [([], []), ([], []), ([0, 1], [0, 1]), ([], []), ([], []), ([4], [4]), ([3, 5], [3, 5]), ([6], [6]), ([2, 7], [2, 7]), ([], []), ([], []), ([9, 10], [9, 10]), ([8, 11], [8, 11]), ([12, 5, 0, 1, 2, 3, 4, 5, 6, 7, 8, 9, 10, 11, 12], [12])])
def spec_l01Damage.B6 : List Nat := [0, 0, 3, 0, 0, 16, 56, 120, 255, 0, 0, 1536, 4095, 8191]
theorem spec_l01Damage.tab6 : rtab .any (opsOf Tryd.f159 6) = spec_l01Damage.T6 := by kernel_rfl
theorem spec_l01Damage.bits6 : waitsOk spec_l01Damage.T6.2 spec_l01Damage.B6 = true := by kernel_rfl
def spec_l01Damage.T9 : Bool × List (List Nat × List Nat) := (true, [([], []), ([], []), ([0, 1], [0, 1]), ([], []), ([], []), ([4], [4]), ([3, 5], [3, 5]), ([2, 6], [2, 6]), ([7, 0, 1, 2, 3, 4, 5, 6, 7], [7])])
def spec_l01Damage.B9 : List Nat := [0, 0, 3, 0, 0, 16, 56, 127, 255]
theorem spec_l01Damage.tab9 : rtab .any (opsOf Tryd.f159 9) = spec_l01Damage.T9 := by kernel_rfl
theorem spec_l01Damage.bits9 : waitsOk spec_l01Damage.T9.2 spec_l01Damage.B9 = true := by kernel_rfl
theorem ag14_ {p : Prop} (h : p) : Aside0 p := ⟨h⟩
abbrev s0g14_ : List ByteArray := ([(⟨#[48]⟩ : ByteArray), (⟨#[49]⟩ : ByteArray), (⟨#[32]⟩ : ByteArray), (⟨#[45]⟩ : ByteArray), (⟨#[46]⟩ : ByteArray), (⟨#[44]⟩ : ByteArray), (⟨#[10]⟩ : ByteArray), (⟨#[120]⟩ : ByteArray)] : List ByteArray)
theorem w1g14_ {p : Prop} (h : p := by repeat (first | (with_reducible first | exact HI0.out | apply IsS200.alloc | apply IsS200.drewN | apply IsS200.drew | apply IsS200.set_1 | apply IsS200.set_2) | exact HI0.out)) : p := h
theorem w2g14_ {p : Prop} (h : p := by repeat (first | (with_reducible first | exact HB.out | apply below_alloc | apply pw_below_drewN | apply below_drew1 | refine below_set ?_ (IsS200.ge HI0.out)) | exact HB.out)) : p := h
theorem w3g14_ {p : Prop} (h : p := by repeat (first | (with_reducible first | exact HK.out | apply KeepBut.set_ | apply keep_drewN | apply keep_drew | apply keep_alloc) | exact HK.out)) : p := h
theorem w4g14_ {p : Prop} (h : p := by (try simp only [List.map_toArray, List.map_cons, List.map_nil]); first | done | rfl | (simp only [List.length_drop, List.length_take]; rfl)) : p := h
theorem w5g14_ {p : Prop} (h : p := by first | rfl | (simp [errW_none, errW_some] <;> rfl) | (simp [*, errW_none, errW_some] <;> rfl)) : p := h
theorem w6g14_ {p : Prop} (h : p := by repeat (first | (with_reducible first | exact HB.out | apply below_alloc | apply pw_below_drewN | apply below_drew1) | exact HB.out)) : p := h
theorem w7g14_ {p : Prop} (h : p := by first | (with_reducible assumption) | assumption) : p := h
set_option maxHeartbeats 8000000 in
set_option maxRecDepth 100000 in
theorem spec_l01Damage.calls (g : Nat) (s0_0 : List Int) (s0_1 : Int) (s0_2 : Int) (a1 : ByteArray) (r1 : ByteArray) (r2 : Int) (r3 : Int) (w0 w : World) (hI : IsS200 w0 w g s0_0 s0_1 s0_2) (hB : Below w0.heap.size w0 w) (h : spec_l01Damage.f s0_0 s0_1 s0_2 a1 = some (r1, r2, r3)) :
 Calls Tryd.prog 159 #[.pointer (some ⟨g, 0, none⟩), .string a1] w fun e w' => e = .returned (.string r1) ∧ IsS200 w0 w' g s0_0 r2 r3 ∧ Below w0.heap.size w0 w' ∧ KeepBut w w' g none := by
 have HI0 := ag14_ hI; have HK := ag14_ (KeepBut.refl w g none); have HL := ag14_ hB.size; clear hI; have HW0 := ag14_ hB.size; have HB := ag14_ hB; clear hB; have H : ((spec_l01Next.f s0_0 s0_1 s0_2 (wrap64 ((a1.size : Int) + 1))).bind fun bt340 => ((spec_l01Next.f s0_0 bt340.2.1 bt340.2.2 8).bind fun bt343 => (if bt343.1 = 0 then (if 0 ≤ bt340.1 then (if bt340.1 ≤ (a1.size : Int) then (some (a1.extract 0 (bt340.1 : Int).toNat, bt343.2.1, bt343.2.2)) else (none)) else (none)) else (if bt343.1 = 1 then (if 0 ≤ bt340.1 then (if bt340.1 ≤ (a1.size : Int) then ((some (s0g14_ : List ByteArray)).bind fun y346 => ((spec_l01Next.f s0_0 bt343.2.1 bt343.2.2 8).bind fun bt349 => (if 0 ≤ bt349.1 then (if bt349.1 < (y346.length : Int) then (if (a1.extract 0 (bt340.1 : Int).toNat).size + (rdOf ByteArray.empty y346 bt349.1).size ≤ 9223372036854775807 then (if ((a1.extract 0 (bt340.1 : Int).toNat) ++ (rdOf ByteArray.empty y346 bt349.1)).size + (a1.extract (bt340.1 : Int).toNat a1.size).size ≤ 9223372036854775807 then (some (((a1.extract 0 (bt340.1 : Int).toNat) ++ (rdOf ByteArray.empty y346 bt349.1)) ++ (a1.extract (bt340.1 : Int).toNat a1.size), bt349.2.1, bt349.2.2)) else (none)) else (none)) else (none)) else (none)))) else (none)) else (none)) else (if bt343.1 = 2 then (if bt340.1 < (a1.size : Int) then (if 0 ≤ bt340.1 then (if bt340.1 ≤ (a1.size : Int) then (if 0 ≤ (wrap64 (bt340.1 + 1)) then (if (wrap64 (bt340.1 + 1)) ≤ (a1.size : Int) then (if (a1.extract 0 (bt340.1 : Int).toNat).size + (a1.extract ((wrap64 (bt340.1 + 1)) : Int).toNat a1.size).size ≤ 9223372036854775807 then (some ((a1.extract 0 (bt340.1 : Int).toNat) ++ (a1.extract ((wrap64 (bt340.1 + 1)) : Int).toNat a1.size), bt343.2.1, bt343.2.2)) else (none)) else (none)) else (none)) else (none)) else (none)) else (some (a1, bt343.2.1, bt343.2.2))) else (some (a1, bt343.2.1, bt343.2.2))))))) = some (r1, r2, r3) := h; clear h
 replace H := Option.bind_eq_some_iff.mp H
 obtain ⟨⟨t340, t341, t342⟩, A30, H⟩ := H
 try dsimp only at H
 have A3 := ag14_ A30; clear A30
 replace H := Option.bind_eq_some_iff.mp H
 obtain ⟨⟨t343, t344, t345⟩, A40, H⟩ := H
 try dsimp only at H
 have A4 := ag14_ A40; clear A40
 by_cases c5 : t343 = 0
 ·
  rw [if_pos c5] at H
  have c5b0 : (t343 == 0) = true := beq_iff_eq.mpr c5; have c5b1 : (t343 != 0) = false := bne_eq_false_iff_eq.mpr c5; clear c5
  by_cases c6 : 0 ≤ t340
  ·
   rw [if_pos c6] at H
   have c6b0 := eq_true c6; have c6b1 : decide (0 ≤ t340) = true := decide_eq_true c6; clear c6
   by_cases c7 : t340 ≤ (a1.size : Int)
   ·
    rw [if_pos c7] at H
    have c7b0 := eq_true c7; have c7b1 : decide (t340 ≤ (a1.size : Int)) = true := decide_eq_true c7; clear c7
    simp only [Option.some.injEq, Prod.mk.injEq] at H
    obtain ⟨rfl, rfl, rfl⟩ := H
    go_enter Tryd.func159, Tryd.ntmps159
    go_wp2_with (first | ((with_reducible refine gate_callee (f := 102) rfl ?_); refine goesL_ (some 10) rfl rfl Tryd.func102 (by kernel_rfl) rfl #[.pointer (some ⟨g, 0, none⟩), .int .i64 (wrap64 ((a1.size : Int) + 1))] rfl w4g14_ ?_; (with_reducible refine (spec_l01Next.calls g s0_0 s0_1 s0_2 (wrap64 ((a1.size : Int) + 1)) t340 t341 t342 w0 _ ?side1 ?side2 A3.out).mono ?_); (case side1 => exact w1g14_); (case side2 => exact w2g14_); rintro e w8 ⟨rfl, hi, hb, hk⟩; refine ⟨_, rfl, ?_⟩; replace HK := ag14_ (KeepBut.trans w3g14_ hk (.inl rfl)); replace HB := ag14_ (hb); replace HI0 := ag14_ (hi); clear hb hk hi) | ((with_reducible refine gate_callee (f := 102) rfl ?_); refine goesL_ (some 12) rfl rfl Tryd.func102 (by kernel_rfl) rfl #[.pointer (some ⟨g, 0, none⟩), .int .i64 8] rfl w4g14_ ?_; (with_reducible refine (spec_l01Next.calls g s0_0 t341 t342 8 t343 t344 t345 w0 _ ?side1 ?side2 A4.out).mono ?_); (case side1 => exact w1g14_); (case side2 => exact w2g14_); rintro e w9 ⟨rfl, hi, hb, hk⟩; refine ⟨_, rfl, ?_⟩; replace HK := ag14_ (KeepBut.trans w3g14_ hk (.inl rfl)); replace HB := ag14_ (hb); replace HI0 := ag14_ (hi); clear hb hk hi))
    go_ret
    exact ⟨w5g14_, w1g14_, w2g14_, w3g14_⟩
   ·
    rw [if_neg c7] at H
    exact absurd H (by simp)
  ·
   rw [if_neg c6] at H
   exact absurd H (by simp)
 ·
  rw [if_neg c5] at H
  have c5b0 : (t343 == 0) = false := beq_eq_false_iff_ne.mpr c5; have c5b1 : (t343 != 0) = true := bne_iff_ne.mpr c5
  by_cases c10 : t343 = 1
  ·
   rw [if_pos c10] at H
   have c10b0 : (t343 == 1) = true := beq_iff_eq.mpr c10; have c10b1 : (t343 != 1) = false := bne_eq_false_iff_eq.mpr c10; clear c10
   by_cases c11 : 0 ≤ t340
   ·
    rw [if_pos c11] at H
    have c11b0 := eq_true c11; have c11b1 : decide (0 ≤ t340) = true := decide_eq_true c11; clear c11
    by_cases c12 : t340 ≤ (a1.size : Int)
    ·
     rw [if_pos c12] at H
     have c12b0 := eq_true c12; have c12b1 : decide (t340 ≤ (a1.size : Int)) = true := decide_eq_true c12; clear c12; obtain ⟨y346, hy346⟩ : ∃ y_ : List ByteArray, y_ = (s0g14_) := ⟨_, rfl⟩
     replace H : ((spec_l01Next.f s0_0 t344 t345 8).bind fun bt349 => (if 0 ≤ bt349.1 then (if bt349.1 < (y346.length : Int) then (if (a1.extract 0 (t340 : Int).toNat).size + (rdOf ByteArray.empty y346 bt349.1).size ≤ 9223372036854775807 then (if ((a1.extract 0 (t340 : Int).toNat) ++ (rdOf ByteArray.empty y346 bt349.1)).size + (a1.extract (t340 : Int).toNat a1.size).size ≤ 9223372036854775807 then (some (((a1.extract 0 (t340 : Int).toNat) ++ (rdOf ByteArray.empty y346 bt349.1)) ++ (a1.extract (t340 : Int).toNat a1.size), bt349.2.1, bt349.2.2)) else (none)) else (none)) else (none)) else (none))) = some (r1, r2, r3) := by first | (rw [hy346]; with_reducible exact H) | (have H2_ := (Option.bind_some _ _).symm.trans H; rw [hy346]; with_reducible exact H2_) | (have H2_ := (Option.bind_some _ _).symm.trans H; with_reducible exact H2_) | with_reducible exact H | (rw [hy346]; exact H) | exact H
     have Ny346 := ag14_ hy346; clear hy346
     replace H := Option.bind_eq_some_iff.mp H
     obtain ⟨⟨t349, t350, t351⟩, A130, H⟩ := H
     try dsimp only at H
     have A13 := ag14_ A130; clear A130
     by_cases c14 : 0 ≤ t349
     ·
      rw [if_pos c14] at H
      have c14b0 : decide (0 ≤ t349) = true := decide_eq_true c14; clear c14
      by_cases c15 : t349 < (y346.length : Int)
      ·
       rw [if_pos c15] at H
       have c15b0 : decide (t349 < (y346.length : Int)) = true := decide_eq_true c15; clear c15
       by_cases c16 : (a1.extract 0 (t340 : Int).toNat).size + (rdOf ByteArray.empty y346 t349).size ≤ 9223372036854775807
       ·
        rw [if_pos c16] at H
        have c16x : (t340).toNat + (rdOf ByteArray.empty y346 t349).size ≤ 9223372036854775807 := by have h_ := c16; simp only [ByteArray.size_append, ByteArray.size_extract] at h_; (try have q0_ := of_decide_eq_true (show decide (0 ≤ t340) = true by assumption)); (try have p0_ := of_decide_eq_true (show decide (t340 ≤ (a1.size : Int)) = true by assumption)); omega
        have c16x0 := eq_true c16x; have c16x1 : (9223372036854775807 < (t340).toNat + (rdOf ByteArray.empty y346 t349).size) = False := eq_false (by omega); have c16x2 : decide ((t340).toNat + (rdOf ByteArray.empty y346 t349).size ≤ 9223372036854775807) = true := decide_eq_true c16x; have c16b0 := eq_true c16; have c16b1 : decide ((a1.extract 0 (t340 : Int).toNat).size + (rdOf ByteArray.empty y346 t349).size ≤ 9223372036854775807) = true := decide_eq_true c16
        try have c16b2 : (9223372036854775807 < (a1.extract 0 (t340 : Int).toNat).size + (rdOf ByteArray.empty y346 t349).size) = False := eq_false (Nat.not_lt.2 c16)
        have c17b0 := eq_true (of_decide_eq_true w7g14_ : 0 ≤ t340)
        have c18b0 := eq_true (of_decide_eq_true w7g14_ : t340 ≤ (a1.size : Int))
        by_cases c19 : ((a1.extract 0 (t340 : Int).toNat) ++ (rdOf ByteArray.empty y346 t349)).size + (a1.extract (t340 : Int).toNat a1.size).size ≤ 9223372036854775807
        ·
         rw [if_pos c19] at H
         have c19x : (t340).toNat + (rdOf ByteArray.empty y346 t349).size + (a1.size - (t340).toNat) ≤ 9223372036854775807 := by have h_ := c19; simp only [ByteArray.size_append, ByteArray.size_extract] at h_; (try have q0_ := of_decide_eq_true (show decide (0 ≤ t340) = true by assumption)); (try have p0_ := of_decide_eq_true (show decide (t340 ≤ (a1.size : Int)) = true by assumption)); omega
         have c19x0 := eq_true c19x; have c19x1 : (9223372036854775807 < (t340).toNat + (rdOf ByteArray.empty y346 t349).size + (a1.size - (t340).toNat)) = False := eq_false (by omega); have c19x2 : decide ((t340).toNat + (rdOf ByteArray.empty y346 t349).size + (a1.size - (t340).toNat) ≤ 9223372036854775807) = true := decide_eq_true c19x; have c19b0 := eq_true c19; have c19b1 : decide (((a1.extract 0 (t340 : Int).toNat) ++ (rdOf ByteArray.empty y346 t349)).size + (a1.extract (t340 : Int).toNat a1.size).size ≤ 9223372036854775807) = true := decide_eq_true c19
         try have c19b1s := c19b1
         try simp only [ByteArray.size_append] at c19b1s
         try have c19b2 : (9223372036854775807 < ((a1.extract 0 (t340 : Int).toNat) ++ (rdOf ByteArray.empty y346 t349)).size + (a1.extract (t340 : Int).toNat a1.size).size) = False := eq_false (Nat.not_lt.2 c19)
         try have c19b2s := c19b2
         try simp only [ByteArray.size_append] at c19b2s
         simp only [Option.some.injEq, Prod.mk.injEq] at H
         obtain ⟨rfl, rfl, rfl⟩ := H
         go_enter Tryd.func159, Tryd.ntmps159
         try go_wp2_with (first | ((with_reducible refine gate_callee (f := 102) rfl ?_); refine goesL_ (some 10) rfl rfl Tryd.func102 (by kernel_rfl) rfl #[.pointer (some ⟨g, 0, none⟩), .int .i64 (wrap64 ((a1.size : Int) + 1))] rfl w4g14_ ?_; (with_reducible refine (spec_l01Next.calls g s0_0 s0_1 s0_2 (wrap64 ((a1.size : Int) + 1)) t340 t341 t342 w0 _ ?side1 ?side2 A3.out).mono ?_); (case side1 => exact w1g14_); (case side2 => exact w2g14_); rintro e w20 ⟨rfl, hi, hb, hk⟩; refine ⟨_, rfl, ?_⟩; replace HK := ag14_ (KeepBut.trans w3g14_ hk (.inl rfl)); replace HB := ag14_ (hb); replace HI0 := ag14_ (hi); clear hb hk hi) | ((with_reducible refine gate_callee (f := 102) rfl ?_); refine goesL_ (some 12) rfl rfl Tryd.func102 (by kernel_rfl) rfl #[.pointer (some ⟨g, 0, none⟩), .int .i64 8] rfl w4g14_ ?_; (with_reducible refine (spec_l01Next.calls g s0_0 t341 t342 8 t343 t344 t345 w0 _ ?side1 ?side2 A4.out).mono ?_); (case side1 => exact w1g14_); (case side2 => exact w2g14_); rintro e w21 ⟨rfl, hi, hb, hk⟩; refine ⟨_, rfl, ?_⟩; replace HK := ag14_ (KeepBut.trans w3g14_ hk (.inl rfl)); replace HB := ag14_ (hb); replace HI0 := ag14_ (hi); clear hb hk hi))
         have pi352 : (0 ≤ (t349 : Int)) = True := eq_true (of_decide_eq_true w7g14_)
         have qi352 : (t349 < (y346.length : Int)) = True := eq_true (of_decide_eq_true w7g14_)
         have n0_ := ag14_ (IsS200.drew HI0.out); have n1_ := ag14_ (keep_drew HK.out); have n2_ := ag14_ (below_drew1 HB.out); clear HI0 HK HB; have HI0 := n0_; have HK := n1_; have HB := n2_; clear n0_ n1_ n2_
         refine start_ (n := 14) (S := fun w' => True) (ds := []) #[false, false, false, false, false, false, false, false, false, false, false, false, false, false] (by kernel_rfl) rfl rfl trivial (fun hHeld => ?_); refine with_tabW spec_l01Damage.tab6 spec_l01Damage.bits6 (fun HT_ HW_ => ?_)
         generalize w21.drew = w22 at HI0 HK HB hHeld ⊢
         refine pd_ (i := 0) (N := some 20) #[true, false, false, false, false, false, false, false, false, false, false, false, false, false] rfl rfl ?_
         refine pd_ (i := 1) (N := some 21) #[true, true, false, false, false, false, false, false, false, false, false, false, false, false] rfl rfl ?_
         refine pd_ (i := 4) (N := some 24) #[true, true, false, false, true, false, false, false, false, false, false, false, false, false] rfl rfl ?_
         refine pd_ (i := 9) (N := some 29) #[true, true, false, false, true, false, false, false, false, true, false, false, false, false] rfl rfl ?_
         refine pd_ (i := 10) (N := some 30) #[true, true, false, false, true, false, false, false, false, true, true, false, false, false] rfl rfl ?_
         refine inv_at [2, 3, 5, 6, 7, 8, 11, 12, 13] (fun a0_ b a w' => ∃ (v347 : Value) (adz_v347 : Addr) (m6_ : Value), a = putSel a0_ b [(2, 22, .string (a1.extract 0 (t340 : Int).toNat)), (3, 23, v347), (5, 25, .int .i64 t349), (6, 26, m6_), (7, 27, .string (rdOf ByteArray.empty y346 t349)), (8, 28, .string ((a1.extract 0 (t340 : Int).toNat) ++ (rdOf ByteArray.empty y346 t349))), (11, 31, .string (a1.extract (t340 : Int).toNat a1.size)), (12, 32, .string (((a1.extract 0 (t340 : Int).toNat) ++ (rdOf ByteArray.empty y346 t349)) ++ (a1.extract (t340 : Int).toNat a1.size))), (13, 4, .string (((a1.extract 0 (t340 : Int).toNat) ++ (rdOf ByteArray.empty y346 t349)) ++ (a1.extract (t340 : Int).toNat a1.size)))] ∧ (b 5 = false → IsS200 w0 w' g s0_0 t344 t345) ∧ (KeepBut w w' g none) ∧ (Below w0.heap.size w0 w') ∧ (b 3 = true → Kd.R Kd.string 9 w' w.heap.size (fun _ => True) v347 y346) ∧ (b 3 = true → ∃ c_, (v347 : Value) = .slice (some adz_v347) y346.length c_) ∧ (b 5 = true → IsS200 w0 w' g s0_0 t350 t351) ∧ (b 6 = true → (m6_ : Value) = .pointer (some (adz_v347.add (t349).toNat)))) HT_.out HW_.out (by kernel_rfl) (by kernel_rfl) ?_ ?_ ?_
         ·
          exact ⟨.bool false, ⟨0, 0, none⟩, .bool false, by simp only [putSel, Bool.false_eq_true, if_false], fun _ => HI0.out, HK.out, HB.out, fun h_ => absurd h_ (by decide), fun h_ => absurd h_ (by decide), fun h_ => absurd h_ (by decide), fun h_ => absurd h_ (by decide)⟩
         ·
          clear HB HI0 HK
          refine steps_cons ?_ ?_
          ·
           rintro b a w' ⟨v347, adz_v347, m6_, ha, Q_HI0, Q_HK, Q_HB, Q_HO348, Q_HA_HO348, Q_HI0_e5, Q_X6_⟩ hb_ hon hoff
           refine ⟨_, rfl, fun K hK => ?_⟩
           have e20 : a.tmps[20]? = some (.string a1) := by rw [ha]; exact (putSel_off rfl).trans rfl
           have e21 : a.tmps[21]? = some (.int .i64 t340) := by rw [ha]; exact (putSel_off rfl).trans rfl
           replace ha := ag14_ ha
           have HK := ag14_ Q_HK; have HB := ag14_ Q_HB
           refine value_ (w1 := w') (v := .string (a1.extract 0 (t340 : Int).toNat)) (by rfl) rfl ?_ ?_
           ·
            go_simp
            (try simp only [i64_w])
            try rfl
           refine hK.out _ _ ⟨v347, adz_v347, m6_, (by rw [ha.out]; exact putSel_upk 0 hb_ rfl rfl rfl), Q_HI0, Q_HK, Q_HB, Q_HO348, Q_HA_HO348, Q_HI0_e5, Q_X6_⟩
          refine steps_cons ?_ ?_
          ·
           rintro b a w' ⟨v347, adz_v347, m6_, ha, Q_HI0, Q_HK, Q_HB, Q_HO348, Q_HA_HO348, Q_HI0_e5, Q_X6_⟩ hb_ hon hoff
           refine ⟨_, rfl, fun K hK => ?_⟩
           replace ha := ag14_ ha
           have HK := ag14_ Q_HK; have HB := ag14_ Q_HB
           refine Kd.R_lit_step Kd.string _ 9 ?hg (N := 23) ?hd (xs := s0g14_) (inner := [.string (⟨#[48]⟩ : ByteArray), .string (⟨#[49]⟩ : ByteArray), .string (⟨#[32]⟩ : ByteArray), .string (⟨#[45]⟩ : ByteArray), .string (⟨#[46]⟩ : ByteArray), .string (⟨#[44]⟩ : ByteArray), .string (⟨#[10]⟩ : ByteArray), .string (⟨#[120]⟩ : ByteArray)]) (ok := fun _ => True) (okp := fun _ => True) ?hr ?hp (fun _ hk => hk) trivial (Below.refl _ _) (Nat.le_refl _) (by simp) ?_; (case hd => rfl); (case hg => rfl); (case hr => first | (go_simp; done) | (go_simp; rfl)); (case hp => exact (by exact (Reps.one (show Kd.M Kd.string _ _ _ (⟨#[48]⟩ : ByteArray) [.string (⟨#[48]⟩ : ByteArray)] from rfl) (Reps.one (show Kd.M Kd.string _ _ _ (⟨#[49]⟩ : ByteArray) [.string (⟨#[49]⟩ : ByteArray)] from rfl) (Reps.one (show Kd.M Kd.string _ _ _ (⟨#[32]⟩ : ByteArray) [.string (⟨#[32]⟩ : ByteArray)] from rfl) (Reps.one (show Kd.M Kd.string _ _ _ (⟨#[45]⟩ : ByteArray) [.string (⟨#[45]⟩ : ByteArray)] from rfl) (Reps.one (show Kd.M Kd.string _ _ _ (⟨#[46]⟩ : ByteArray) [.string (⟨#[46]⟩ : ByteArray)] from rfl) (Reps.one (show Kd.M Kd.string _ _ _ (⟨#[44]⟩ : ByteArray) [.string (⟨#[44]⟩ : ByteArray)] from rfl) (Reps.one (show Kd.M Kd.string _ _ _ (⟨#[10]⟩ : ByteArray) [.string (⟨#[10]⟩ : ByteArray)] from rfl) (Reps.one (show Kd.M Kd.string _ _ _ (⟨#[120]⟩ : ByteArray) [.string (⟨#[120]⟩ : ByteArray)] from rfl) (Reps.none _ _)))))))))))
           intro v347 w23 ho24 hb hg_ hnew_; clear hg_ hnew_
           (first | rw [← Ny346.out] at ho24 | (simp only [Int.reduceToNat] at ho24; rw [← Ny346.out] at ho24))
           have n0_ := ag14_ (Kd.R_lower ho24 (keep_size (w := w) (g := g) (row := none) w3g14_))
           have n2_ := ag14_ (KeepBut.trans w3g14_ (KeepBut.of_below hb g none) (.inl rfl))
           have n3_ := ag14_ (below_step w6g14_ hb)
           have z_HI0 := fun (h0_ : b 5 = false) => (show IsS200 w0 w23 g s0_0 t344 t345 from (by first | exact (IsS200.below (by repeat (first | (with_reducible first | exact (Q_HI0 h0_) | apply IsS200.alloc | apply IsS200.drewN | apply IsS200.drew | apply IsS200.set_1 | apply IsS200.set_2) | exact (Q_HI0 h0_))) hb)))
           have z_HI0_e5 := fun (h0_ : b 5 = true) => (show IsS200 w0 w23 g s0_0 t350 t351 from (by first | exact (IsS200.below (by repeat (first | (with_reducible first | exact (Q_HI0_e5 h0_) | apply IsS200.alloc | apply IsS200.drewN | apply IsS200.drew | apply IsS200.set_1 | apply IsS200.set_2) | exact (Q_HI0_e5 h0_))) hb)))
           clear HK HB; have HO348 := n0_; have HK := n2_; have HB := n3_; clear n0_ n2_ n3_ hb ho24; obtain ⟨Ao25, co25, eo25⟩ := Kd.R_slice HO348.out; subst eo25; obtain ⟨ado25, fo25, _⟩ := Kd.at_string (Kd.R_reads' HO348.out).2.2 0 (by decide) (by rw [Ny346.out]; simp)
           cases fo25
           refine hK.out _ _ ⟨.slice (some ado25) y346.length co25, ado25, m6_, (by rw [ha.out]; exact putSel_upk 1 hb_ rfl rfl rfl), z_HI0, w3g14_, w6g14_, fun _ => (by (with_reducible repeat (first | apply Kd.R_alloc | apply Kd.R_drewN | apply Kd.R_drew)); exact HO348.out), fun _ => ⟨_, rfl⟩, z_HI0_e5, fun h0_ => absurd ((hoff 6 (by kernel_rfl)).symm.trans h0_) (by decide)⟩
          refine steps_cons ?_ ?_
          ·
           rintro b a w' ⟨v347, adz_v347, m6_, ha, Q_HI0, Q_HK, Q_HB, Q_HO348, Q_HA_HO348, Q_HI0_e5, Q_X6_⟩ hb_ hon hoff
           refine ⟨_, rfl, fun K hK => ?_⟩
           have e24 : a.tmps[24]? = some (.pointer (some ⟨g, 0, none⟩)) := by rw [ha]; exact (putSel_off rfl).trans rfl
           replace ha := ag14_ ha
           have HI0 := ag14_ (Q_HI0 hb_); have HK := ag14_ Q_HK; have HB := ag14_ Q_HB
           refine goes_ Tryd.func102 (by kernel_rfl) rfl #[.pointer (some ⟨g, 0, none⟩), .int .i64 8] (by rfl) rfl rfl (by first | (simp only [List.map_toArray, List.map_cons, List.map_nil, Act.eval, Array.getD_eq_getD_getElem?, Option.getD_some, e24]; done) | (simp only [List.map_toArray, List.map_cons, List.map_nil, Act.eval, Array.getD_eq_getD_getElem?, Option.getD_some, e24]; rfl)) ?_
           with_reducible refine (spec_l01Next.calls g s0_0 t344 t345 8 t349 t350 t351 w0 _ ?side1 ?side2 A13.out).mono ?_
           (case side1 => exact w1g14_)
           (case side2 => exact w2g14_)
           rintro e w23 ⟨rfl, hi, hb, hk⟩
           refine ⟨_, rfl, ?_⟩
           have n0_ := ag14_ (KeepBut.trans w3g14_ hk (.inl rfl))
           have n1_ := ag14_ (hb); have n2_ := ag14_ (hi)
           have z_HO348 := fun (h0_ : b 3 = true) => (show Kd.R Kd.string 9 w23 w.heap.size (fun _ => True) v347 y346 from (by first | exact (Kd.R_mono (Kd.R_keep (IsS200.apart (show IsS200 w0 _ g s0_0 t344 t345 from w1g14_) (by (with_reducible repeat (first | apply Kd.R_alloc | apply Kd.R_drewN | apply Kd.R_drew)); exact (Q_HO348 h0_)) (by decide)) hk (fun _ h => h.2)) (fun _ h => h.1)) | exact Kd.R_mono (Kd.R_mono (Kd.R_keep (IsS200.apart (show IsS200 w0 _ g s0_0 t344 t345 from w1g14_) (by (with_reducible repeat (first | apply Kd.R_alloc | apply Kd.R_drewN | apply Kd.R_drew)); exact (Q_HO348 h0_)) (by decide)) hk (fun _ h => h.2)) (fun _ h => h.1)) (fun _ h_ => by first | trivial | exact h_ | exact h_.1)))
           clear HK HB HI0; have HK := n0_; have HB := n1_; have HI0 := n2_; clear n0_ n1_ n2_
           (try clear hb)
           (try clear hb2)
           (try clear hk)
           (try clear hi)
           refine hK.out _ _ ⟨v347, adz_v347, m6_, (by rw [ha.out]; exact putSel_upk 2 hb_ rfl rfl rfl), fun h0_ => absurd ((up_self b 5).symm.trans h0_) (by decide), w3g14_, w2g14_, z_HO348, Q_HA_HO348, fun _ => w1g14_, fun h0_ => absurd ((hoff 6 (by kernel_rfl)).symm.trans h0_) (by decide)⟩
          refine steps_cons ?_ ?_
          ·
           rintro b a w' ⟨v347, adz_v347, m6_, ha, Q_HI0, Q_HK, Q_HB, Q_HO348, Q_HA_HO348, Q_HI0_e5, Q_X6_⟩ hb_ hon hoff
           refine ⟨_, rfl, fun K hK => ?_⟩
           have e23 : a.tmps[23]? = some (v347) := by rw [ha]; exact putSel_on (e := (3, 23, v347)) 1 rfl rfl (hon 3 (by kernel_rfl)) rfl
           have e25 : a.tmps[25]? = some (.int .i64 t349) := by rw [ha]; exact putSel_on (e := (5, 25, .int .i64 t349)) 2 rfl rfl (hon 5 (by kernel_rfl)) rfl
           replace ha := ag14_ ha
           have HK := ag14_ Q_HK; have HB := ag14_ Q_HB; have HO348 := ag14_ (Q_HO348 (hon 3 (by kernel_rfl))); have HA_HO348 := ag14_ (Q_HA_HO348 (hon 3 (by kernel_rfl))); have HI0 := ag14_ (Q_HI0_e5 (hon 5 (by kernel_rfl))); obtain ⟨c_, hv_⟩ := HA_HO348.out
           rw [hv_] at e23
           refine value_ (w1 := w') (v := .pointer (some (adz_v347.add (t349).toNat))) (by rfl) rfl ?_ ?_
           ·
            go_simp
            (try simp only [i64_w])
            try rfl
           refine hK.out _ _ ⟨v347, adz_v347, (.pointer (some (adz_v347.add (t349).toNat))), (by rw [ha.out]; exact putSel_upk 3 hb_ rfl rfl rfl), fun h0_ => absurd ((hon 5 (by kernel_rfl)).symm.trans h0_) (by decide), Q_HK, Q_HB, Q_HO348, Q_HA_HO348, Q_HI0_e5, fun _ => rfl⟩
          refine steps_cons ?_ ?_
          ·
           rintro b a w' ⟨v347, adz_v347, m6_, ha, Q_HI0, Q_HK, Q_HB, Q_HO348, Q_HA_HO348, Q_HI0_e5, Q_X6_⟩ hb_ hon hoff
           refine ⟨_, rfl, fun K hK => ?_⟩
           have e26 : a.tmps[26]? = some (m6_) := by rw [ha]; exact putSel_on (e := (6, 26, m6_)) 3 rfl rfl (hon 6 (by kernel_rfl)) rfl
           rw [Q_X6_ (hon 6 (by kernel_rfl))] at e26
           replace ha := ag14_ ha
           have HK := ag14_ Q_HK; have HB := ag14_ Q_HB; have HO348 := ag14_ (Q_HO348 (hon 3 (by kernel_rfl))); have HA_HO348 := ag14_ (Q_HA_HO348 (hon 3 (by kernel_rfl))); have HI0 := ag14_ (Q_HI0_e5 (hon 5 (by kernel_rfl))); obtain ⟨c_, hv_⟩ := HA_HO348.out; have hF_ := HO348.out
           rw [hv_] at hF_
           obtain ⟨ad_, ea_, hx_⟩ := Kd.at_string (Kd.R_reads' hF_).2.2 t349 (of_eq_true pi352) (of_eq_true qi352)
           cases ea_
           refine value_ (w1 := w') (v := .string (rdOf ByteArray.empty y346 t349)) (by rfl) rfl ?_ ?_
           ·
            go_simp
            (try simp only [i64_w])
            try rfl
           refine hK.out _ _ ⟨v347, adz_v347, m6_, (by rw [ha.out]; exact putSel_upk 4 hb_ rfl rfl rfl), fun h0_ => absurd ((hon 5 (by kernel_rfl)).symm.trans h0_) (by decide), Q_HK, Q_HB, Q_HO348, Q_HA_HO348, Q_HI0_e5, Q_X6_⟩
          refine steps_cons ?_ ?_
          ·
           rintro b a w' ⟨v347, adz_v347, m6_, ha, Q_HI0, Q_HK, Q_HB, Q_HO348, Q_HA_HO348, Q_HI0_e5, Q_X6_⟩ hb_ hon hoff
           refine ⟨_, rfl, fun K hK => ?_⟩
           have e22 : a.tmps[22]? = some (.string (a1.extract 0 (t340 : Int).toNat)) := by rw [ha]; exact putSel_on (e := (2, 22, .string (a1.extract 0 (t340 : Int).toNat))) 0 rfl rfl (hon 2 (by kernel_rfl)) rfl
           have e27 : a.tmps[27]? = some (.string (rdOf ByteArray.empty y346 t349)) := by rw [ha]; exact putSel_on (e := (7, 27, .string (rdOf ByteArray.empty y346 t349))) 4 rfl rfl (hon 7 (by kernel_rfl)) rfl
           replace ha := ag14_ ha
           have HK := ag14_ Q_HK; have HB := ag14_ Q_HB; have HO348 := ag14_ (Q_HO348 (hon 3 (by kernel_rfl))); have HA_HO348 := ag14_ (Q_HA_HO348 (hon 3 (by kernel_rfl))); have HI0 := ag14_ (Q_HI0_e5 (hon 5 (by kernel_rfl)))
           refine value_ (w1 := w') (v := .string ((a1.extract 0 (t340 : Int).toNat) ++ (rdOf ByteArray.empty y346 t349))) (by rfl) rfl ?_ ?_
           ·
            go_simp
            (try simp only [i64_w])
            try rfl
           refine hK.out _ _ ⟨v347, adz_v347, m6_, (by rw [ha.out]; exact putSel_upk 5 hb_ rfl rfl rfl), fun h0_ => absurd ((hon 5 (by kernel_rfl)).symm.trans h0_) (by decide), Q_HK, Q_HB, Q_HO348, Q_HA_HO348, Q_HI0_e5, Q_X6_⟩
          refine steps_cons ?_ ?_
          ·
           rintro b a w' ⟨v347, adz_v347, m6_, ha, Q_HI0, Q_HK, Q_HB, Q_HO348, Q_HA_HO348, Q_HI0_e5, Q_X6_⟩ hb_ hon hoff
           refine ⟨_, rfl, fun K hK => ?_⟩
           have e29 : a.tmps[29]? = some (.string a1) := by rw [ha]; exact (putSel_off rfl).trans rfl
           have e30 : a.tmps[30]? = some (.int .i64 t340) := by rw [ha]; exact (putSel_off rfl).trans rfl
           replace ha := ag14_ ha
           have HK := ag14_ Q_HK; have HB := ag14_ Q_HB
           refine value_ (w1 := w') (v := .string (a1.extract (t340 : Int).toNat a1.size)) (by rfl) rfl ?_ ?_
           ·
            go_simp
            (try simp only [i64_w])
            try rfl
           refine hK.out _ _ ⟨v347, adz_v347, m6_, (by rw [ha.out]; exact putSel_upk 6 hb_ rfl rfl rfl), Q_HI0, Q_HK, Q_HB, Q_HO348, Q_HA_HO348, Q_HI0_e5, Q_X6_⟩
          refine steps_cons ?_ ?_
          ·
           rintro b a w' ⟨v347, adz_v347, m6_, ha, Q_HI0, Q_HK, Q_HB, Q_HO348, Q_HA_HO348, Q_HI0_e5, Q_X6_⟩ hb_ hon hoff
           refine ⟨_, rfl, fun K hK => ?_⟩
           have e28 : a.tmps[28]? = some (.string ((a1.extract 0 (t340 : Int).toNat) ++ (rdOf ByteArray.empty y346 t349))) := by rw [ha]; exact putSel_on (e := (8, 28, .string ((a1.extract 0 (t340 : Int).toNat) ++ (rdOf ByteArray.empty y346 t349)))) 5 rfl rfl (hon 8 (by kernel_rfl)) rfl
           have e31 : a.tmps[31]? = some (.string (a1.extract (t340 : Int).toNat a1.size)) := by rw [ha]; exact putSel_on (e := (11, 31, .string (a1.extract (t340 : Int).toNat a1.size))) 6 rfl rfl (hon 11 (by kernel_rfl)) rfl
           replace ha := ag14_ ha
           have HK := ag14_ Q_HK; have HB := ag14_ Q_HB; have HO348 := ag14_ (Q_HO348 (hon 3 (by kernel_rfl))); have HA_HO348 := ag14_ (Q_HA_HO348 (hon 3 (by kernel_rfl))); have HI0 := ag14_ (Q_HI0_e5 (hon 5 (by kernel_rfl)))
           refine value_ (w1 := w') (v := .string (((a1.extract 0 (t340 : Int).toNat) ++ (rdOf ByteArray.empty y346 t349)) ++ (a1.extract (t340 : Int).toNat a1.size))) (by rfl) rfl ?_ ?_
           ·
            go_simp
            (try simp only [i64_w])
            try rfl
           refine hK.out _ _ ⟨v347, adz_v347, m6_, (by rw [ha.out]; exact putSel_upk 7 hb_ rfl rfl rfl), fun h0_ => absurd ((hon 5 (by kernel_rfl)).symm.trans h0_) (by decide), Q_HK, Q_HB, Q_HO348, Q_HA_HO348, Q_HI0_e5, Q_X6_⟩
          refine steps_cons ?_ ?_
          ·
           rintro b a w' ⟨v347, adz_v347, m6_, ha, Q_HI0, Q_HK, Q_HB, Q_HO348, Q_HA_HO348, Q_HI0_e5, Q_X6_⟩ hb_ hon hoff
           refine ⟨_, rfl, fun K hK => ?_⟩
           have e32 : a.tmps[32]? = some (.string (((a1.extract 0 (t340 : Int).toNat) ++ (rdOf ByteArray.empty y346 t349)) ++ (a1.extract (t340 : Int).toNat a1.size))) := by rw [ha]; exact putSel_on (e := (12, 32, .string (((a1.extract 0 (t340 : Int).toNat) ++ (rdOf ByteArray.empty y346 t349)) ++ (a1.extract (t340 : Int).toNat a1.size)))) 7 rfl rfl (hon 12 (by kernel_rfl)) rfl
           replace ha := ag14_ ha
           have HK := ag14_ Q_HK; have HB := ag14_ Q_HB; have HO348 := ag14_ (Q_HO348 (hon 3 (by kernel_rfl))); have HA_HO348 := ag14_ (Q_HA_HO348 (hon 3 (by kernel_rfl))); have HI0 := ag14_ (Q_HI0_e5 (hon 5 (by kernel_rfl)))
           refine value_ (w1 := w') (v := .string (((a1.extract 0 (t340 : Int).toNat) ++ (rdOf ByteArray.empty y346 t349)) ++ (a1.extract (t340 : Int).toNat a1.size))) (by rfl) rfl ?_ ?_
           ·
            go_simp
            (try simp only [i64_w])
            try rfl
           refine hK.out _ _ ⟨v347, adz_v347, m6_, (by rw [ha.out]; exact putSel_upk 8 hb_ rfl rfl rfl), fun h0_ => absurd ((hon 5 (by kernel_rfl)).symm.trans h0_) (by decide), Q_HK, Q_HB, Q_HO348, Q_HA_HO348, Q_HI0_e5, Q_X6_⟩
          exact steps_nil
         rintro b a w27 hall ⟨v347, adz_v347, m6_, ha, Q_HI0, Q_HK, Q_HB, Q_HO348, Q_HA_HO348, Q_HI0_e5, Q_X6_⟩; clear HB HI0 HK; have hb2_ := hall 2 (by kernel_rfl); have hb3_ := hall 3 (by kernel_rfl); have hb5_ := hall 5 (by kernel_rfl); have hb6_ := hall 6 (by kernel_rfl); have hb7_ := hall 7 (by kernel_rfl); have hb8_ := hall 8 (by kernel_rfl); have hb11_ := hall 11 (by kernel_rfl); have hb12_ := hall 12 (by kernel_rfl); have hb13_ := hall 13 (by kernel_rfl); subst ha; obtain rfl := Q_X6_ hb6_
         simp only [putSel, hb2_, hb3_, hb5_, hb6_, hb7_, hb8_, hb11_, hb12_, hb13_, if_true, Act.put, List.setIfInBounds_toArray, List.set_cons_zero, List.set_cons_succ]
         clear Q_HI0; have HK := ag14_ Q_HK; clear Q_HK; have HB := ag14_ Q_HB; clear Q_HB; have HO348 := ag14_ (Q_HO348 hb3_); clear Q_HO348; have HA_HO348 := ag14_ (Q_HA_HO348 hb3_); clear Q_HA_HO348; have HI0 := ag14_ (Q_HI0_e5 hb5_); clear Q_HI0_e5 hall hb2_ hb3_ hb5_ hb6_ hb7_ hb8_ hb11_ hb12_ hb13_; obtain ⟨co28, eo28⟩ := HA_HO348.out; clear HA_HO348; subst eo28
         try go_wp2
         go_ret
         exact ⟨w5g14_, w1g14_, w2g14_, w3g14_⟩
        ·
         rw [if_neg c19] at H
         exact absurd H (by simp)
       ·
        rw [if_neg c16] at H
        exact absurd H (by simp)
      ·
       rw [if_neg c15] at H
       exact absurd H (by simp)
     ·
      rw [if_neg c14] at H
      exact absurd H (by simp)
    ·
     rw [if_neg c12] at H
     exact absurd H (by simp)
   ·
    rw [if_neg c11] at H
    exact absurd H (by simp)
  ·
   rw [if_neg c10] at H
   have c10b0 : (t343 == 1) = false := beq_eq_false_iff_ne.mpr c10; have c10b1 : (t343 != 1) = true := bne_iff_ne.mpr c10
   by_cases c29 : t343 = 2
   ·
    rw [if_pos c29] at H
    have c29b0 : (t343 == 2) = true := beq_iff_eq.mpr c29; have c29b1 : (t343 != 2) = false := bne_eq_false_iff_eq.mpr c29; clear c29
    by_cases c30 : t340 < (a1.size : Int)
    ·
     rw [if_pos c30] at H
     have c30b0 : decide (t340 < (a1.size : Int)) = true := decide_eq_true c30; clear c30
     by_cases c31 : 0 ≤ t340
     ·
      rw [if_pos c31] at H
      have c31b0 := eq_true c31; have c31b1 : decide (0 ≤ t340) = true := decide_eq_true c31; clear c31
      by_cases c32 : t340 ≤ (a1.size : Int)
      ·
       rw [if_pos c32] at H
       have c32b0 := eq_true c32; have c32b1 : decide (t340 ≤ (a1.size : Int)) = true := decide_eq_true c32; clear c32; obtain ⟨ji33, hji33⟩ : ∃ j_ : Int, (wrap64 (t340 + 1)) = j_ := ⟨_, rfl⟩
       replace H : (if 0 ≤ (ji33) then (if (ji33) ≤ (a1.size : Int) then (if (a1.extract 0 (t340 : Int).toNat).size + (a1.extract ((ji33) : Int).toNat a1.size).size ≤ 9223372036854775807 then (some ((a1.extract 0 (t340 : Int).toNat) ++ (a1.extract ((ji33) : Int).toNat a1.size), t344, t345)) else (none)) else (none)) else (none)) = some (r1, r2, r3) := by first | (rw [hji33] at H; exact H) | (simp only [hji33] at H ⊢; exact H)
       (try rw [hji33] at A3)
       (try rw [hji33] at A4)
       have hji33w : (IntKind.i64.wrap (t340 + 1)) = ji33 := (i64_w _).trans hji33
       by_cases c34 : 0 ≤ (ji33)
       ·
        rw [if_pos c34] at H
        have c34b0 := eq_true c34; have c34b1 : decide (0 ≤ (ji33)) = true := decide_eq_true c34; clear c34
        by_cases c35 : (ji33) ≤ (a1.size : Int)
        ·
         rw [if_pos c35] at H
         have c35b0 := eq_true c35; have c35b1 : decide ((ji33) ≤ (a1.size : Int)) = true := decide_eq_true c35; clear c35
         by_cases c36 : (a1.extract 0 (t340 : Int).toNat).size + (a1.extract ((ji33) : Int).toNat a1.size).size ≤ 9223372036854775807
         ·
          rw [if_pos c36] at H
          have c36x : (t340).toNat + (a1.size - ((ji33)).toNat) ≤ 9223372036854775807 := by have h_ := c36; simp only [ByteArray.size_append, ByteArray.size_extract] at h_; (try have q0_ := of_decide_eq_true (show decide (0 ≤ t340) = true by assumption)); (try have p0_ := of_decide_eq_true (show decide (t340 ≤ (a1.size : Int)) = true by assumption)); (try have q1_ := of_decide_eq_true (show decide (0 ≤ (ji33)) = true by assumption)); (try have p1_ := of_decide_eq_true (show decide ((ji33) ≤ (a1.size : Int)) = true by assumption)); omega
          have c36x0 := eq_true c36x; have c36x1 : (9223372036854775807 < (t340).toNat + (a1.size - ((ji33)).toNat)) = False := eq_false (by omega); have c36x2 : decide ((t340).toNat + (a1.size - ((ji33)).toNat) ≤ 9223372036854775807) = true := decide_eq_true c36x; have c36b0 := eq_true c36; have c36b1 : decide ((a1.extract 0 (t340 : Int).toNat).size + (a1.extract ((ji33) : Int).toNat a1.size).size ≤ 9223372036854775807) = true := decide_eq_true c36
          try have c36b2 : (9223372036854775807 < (a1.extract 0 (t340 : Int).toNat).size + (a1.extract ((ji33) : Int).toNat a1.size).size) = False := eq_false (Nat.not_lt.2 c36)
          simp only [Option.some.injEq, Prod.mk.injEq] at H
          obtain ⟨rfl, rfl, rfl⟩ := H
          go_enter Tryd.func159, Tryd.ntmps159
          try go_wp2_with (first | ((with_reducible refine gate_callee (f := 102) rfl ?_); refine goesL_ (some 10) rfl rfl Tryd.func102 (by kernel_rfl) rfl #[.pointer (some ⟨g, 0, none⟩), .int .i64 (wrap64 ((a1.size : Int) + 1))] rfl w4g14_ ?_; (with_reducible refine (spec_l01Next.calls g s0_0 s0_1 s0_2 (wrap64 ((a1.size : Int) + 1)) t340 t341 t342 w0 _ ?side1 ?side2 A3.out).mono ?_); (case side1 => exact w1g14_); (case side2 => exact w2g14_); rintro e w37 ⟨rfl, hi, hb, hk⟩; refine ⟨_, rfl, ?_⟩; have n0_ := ag14_ (KeepBut.trans w3g14_ hk (.inl rfl)); have n1_ := ag14_ (hb); have n2_ := ag14_ (hi); clear HK; clear HB; clear HI0; have HK := n0_; have HB := n1_; have HI0 := n2_; clear n0_ n1_ n2_; clear hb hk hi) | ((with_reducible refine gate_callee (f := 102) rfl ?_); refine goesL_ (some 12) rfl rfl Tryd.func102 (by kernel_rfl) rfl #[.pointer (some ⟨g, 0, none⟩), .int .i64 8] rfl w4g14_ ?_; (with_reducible refine (spec_l01Next.calls g s0_0 t341 t342 8 t343 t344 t345 w0 _ ?side1 ?side2 A4.out).mono ?_); (case side1 => exact w1g14_); (case side2 => exact w2g14_); rintro e w38 ⟨rfl, hi, hb, hk⟩; refine ⟨_, rfl, ?_⟩; replace HK := ag14_ (KeepBut.trans w3g14_ hk (.inl rfl)); replace HB := ag14_ (hb); replace HI0 := ag14_ (hi); clear hb hk hi))
          have n0_ := ag14_ (IsS200.drew HI0.out); have n1_ := ag14_ (keep_drew HK.out); have n2_ := ag14_ (below_drew1 HB.out); clear HI0 HK HB; have HI0 := n0_; have HK := n1_; have HB := n2_; clear n0_ n1_ n2_
          refine start_ (n := 9) (S := fun w' => True) (ds := []) #[false, false, false, false, false, false, false, false, false] (by kernel_rfl) rfl rfl trivial (fun hHeld => ?_); refine with_tabW spec_l01Damage.tab9 spec_l01Damage.bits9 (fun HT_ HW_ => ?_)
          generalize w38.drew = w39 at HI0 HK HB hHeld ⊢
          refine pd_ (i := 0) (N := some 39) #[true, false, false, false, false, false, false, false, false] rfl rfl ?_
          refine pd_ (i := 1) (N := some 40) #[true, true, false, false, false, false, false, false, false] rfl rfl ?_
          refine pd_ (i := 2) (N := some 41) #[true, true, true, false, false, false, false, false, false] rfl rfl ?_
          refine pd_ (i := 3) (N := some 42) #[true, true, true, true, false, false, false, false, false] rfl rfl ?_
          refine pd_ (i := 4) (N := some 43) #[true, true, true, true, true, false, false, false, false] rfl rfl ?_
          refine pd_ (i := 5) (N := some 44) #[true, true, true, true, true, true, false, false, false] rfl rfl ?_
          refine pd_ (i := 6) (N := some 45) #[true, true, true, true, true, true, true, false, false] rfl rfl ?_
          refine pd_ (i := 7) (N := some 46) #[true, true, true, true, true, true, true, true, false] rfl rfl ?_
          refine pd_ (i := 8) (N := some 4) #[true, true, true, true, true, true, true, true, true] rfl rfl ?_
          refine done_ (done_of HT_.out (by kernel_rfl)) ?_
          try go_wp2
          go_ret
          exact ⟨(by first | rfl | (simp [errW_none, errW_some] <;> rfl) | (simp only [← hji33]; first | rfl | (simp [errW_none, errW_some] <;> rfl)) | (simp [*, errW_none, errW_some] <;> rfl)), w1g14_, w2g14_, w3g14_⟩
         ·
          rw [if_neg c36] at H
          exact absurd H (by simp)
        ·
         rw [if_neg c35] at H
         exact absurd H (by simp)
       ·
        rw [if_neg c34] at H
        exact absurd H (by simp)
      ·
       rw [if_neg c32] at H
       exact absurd H (by simp)
     ·
      rw [if_neg c31] at H
      exact absurd H (by simp)
    ·
     rw [if_neg c30] at H
     have c30b0 : decide (t340 < (a1.size : Int)) = false := decide_eq_false c30; clear c30
     simp only [Option.some.injEq, Prod.mk.injEq] at H
     obtain ⟨rfl, rfl, rfl⟩ := H
     go_enter Tryd.func159, Tryd.ntmps159
     go_wp2_with (first | ((with_reducible refine gate_callee (f := 102) rfl ?_); refine goesL_ (some 10) rfl rfl Tryd.func102 (by kernel_rfl) rfl #[.pointer (some ⟨g, 0, none⟩), .int .i64 (wrap64 ((a1.size : Int) + 1))] rfl w4g14_ ?_; (with_reducible refine (spec_l01Next.calls g s0_0 s0_1 s0_2 (wrap64 ((a1.size : Int) + 1)) t340 t341 t342 w0 _ ?side1 ?side2 A3.out).mono ?_); (case side1 => exact w1g14_); (case side2 => exact w2g14_); rintro e w40 ⟨rfl, hi, hb, hk⟩; refine ⟨_, rfl, ?_⟩; have n0_ := ag14_ (KeepBut.trans w3g14_ hk (.inl rfl)); have n1_ := ag14_ (hb); have n2_ := ag14_ (hi); clear HK; clear HB; clear HI0; have HK := n0_; have HB := n1_; have HI0 := n2_; clear n0_ n1_ n2_; clear hb hk hi) | ((with_reducible refine gate_callee (f := 102) rfl ?_); refine goesL_ (some 12) rfl rfl Tryd.func102 (by kernel_rfl) rfl #[.pointer (some ⟨g, 0, none⟩), .int .i64 8] rfl w4g14_ ?_; (with_reducible refine (spec_l01Next.calls g s0_0 t341 t342 8 t343 t344 t345 w0 _ ?side1 ?side2 A4.out).mono ?_); (case side1 => exact w1g14_); (case side2 => exact w2g14_); rintro e w41 ⟨rfl, hi, hb, hk⟩; refine ⟨_, rfl, ?_⟩; replace HK := ag14_ (KeepBut.trans w3g14_ hk (.inl rfl)); replace HB := ag14_ (hb); replace HI0 := ag14_ (hi); clear hb hk hi))
     go_ret
     exact ⟨w5g14_, w1g14_, w2g14_, w3g14_⟩
   ·
    rw [if_neg c29] at H
    have c29b0 : (t343 == 2) = false := beq_eq_false_iff_ne.mpr c29; have c29b1 : (t343 != 2) = true := bne_iff_ne.mpr c29
    simp only [Option.some.injEq, Prod.mk.injEq] at H
    obtain ⟨rfl, rfl, rfl⟩ := H
    go_enter Tryd.func159, Tryd.ntmps159
    go_wp2_with (first | ((with_reducible refine gate_callee (f := 102) rfl ?_); refine goesL_ (some 10) rfl rfl Tryd.func102 (by kernel_rfl) rfl #[.pointer (some ⟨g, 0, none⟩), .int .i64 (wrap64 ((a1.size : Int) + 1))] rfl w4g14_ ?_; (with_reducible refine (spec_l01Next.calls g s0_0 s0_1 s0_2 (wrap64 ((a1.size : Int) + 1)) t340 t341 t342 w0 _ ?side1 ?side2 A3.out).mono ?_); (case side1 => exact w1g14_); (case side2 => exact w2g14_); rintro e w42 ⟨rfl, hi, hb, hk⟩; refine ⟨_, rfl, ?_⟩; replace HK := ag14_ (KeepBut.trans w3g14_ hk (.inl rfl)); replace HB := ag14_ (hb); replace HI0 := ag14_ (hi); clear hb hk hi) | ((with_reducible refine gate_callee (f := 102) rfl ?_); refine goesL_ (some 12) rfl rfl Tryd.func102 (by kernel_rfl) rfl #[.pointer (some ⟨g, 0, none⟩), .int .i64 8] rfl w4g14_ ?_; (with_reducible refine (spec_l01Next.calls g s0_0 t341 t342 8 t343 t344 t345 w0 _ ?side1 ?side2 A4.out).mono ?_); (case side1 => exact w1g14_); (case side2 => exact w2g14_); rintro e w43 ⟨rfl, hi, hb, hk⟩; refine ⟨_, rfl, ?_⟩; replace HK := ag14_ (KeepBut.trans w3g14_ hk (.inl rfl)); replace HB := ag14_ (hb); replace HI0 := ag14_ (hi); clear hb hk hi))
    go_ret
    exact ⟨w5g14_, w1g14_, w2g14_, w3g14_⟩
end Go.Proofs.YtoiioapkebglgaaDoor.PG
end
section
namespace Go.Proofs.YtoiioapkebglgaaDoor.PG
open Go.RowKit Go.Proofs.YtoiioapkebglgaaDoorW.PrintWords Go.Proofs.YtoiioapkebglgaaDoorW.PrintLast Go.Proofs.YtoiioapkebglgaaDoorW.PrintMore
attribute [local go_sem] max2_int min2_int max_two min_two max_three min_three max_four min_four   -- for this text's walks alone
set_option linter.unusedVariables false
set_option linter.unusedSimpArgs false
def spec_l29DrawText.f (k : Nat) (s0_0 : List Int) (s0_1 : Int) (s0_2 : Int) : Option (ByteArray × Int × Int) := (spec_l29Draw.f k s0_0 s0_1 s0_2).bind fun bt353 => ((spec_JournalText.f k bt353.1).bind fun bt358 => ((spec_l01Next.f s0_0 bt353.2.1 bt353.2.2 3).bind fun bt360 => (if bt360.1 = 0 then ((spec_l01Damage.f s0_0 bt360.2.1 bt360.2.2 bt358.1).bind fun bt363 => (some (bt363.1, bt363.2.1, bt363.2.2))) else ((spec_l01Next.f s0_0 bt360.2.1 bt360.2.2 50).bind fun bt366 => (if bt366.1 = 0 then ((spec_l01Next.f s0_0 bt366.2.1 bt366.2.2 2).bind fun bt369 => (if 0 ≤ (wrap64 (8000 + bt369.1)) then (if (wrap64 (8000 + bt369.1) : Int).toNat ≤ 281474976710656 then (some (strOfNums (List.replicate (wrap64 (8000 + bt369.1) : Int).toNat 0), bt369.2.1, bt369.2.2)) else (none)) else (none))) else (some (bt358.1, bt366.2.1, bt366.2.2)))))))
theorem ag15_ {p : Prop} (h : p) : Aside0 p := ⟨h⟩
theorem w1g15_ {p : Prop} (h : p := by repeat (first | (with_reducible first | exact HI0.out | apply IsS200.alloc | apply IsS200.drewN | apply IsS200.drew | apply IsS200.set_1 | apply IsS200.set_2) | exact HI0.out)) : p := h
theorem w2g15_ {p : Prop} (h : p := by repeat (first | (with_reducible first | exact HK.out | apply KeepBut.set_ | apply keep_drewN | apply keep_drew | apply keep_alloc) | exact HK.out)) : p := h
theorem w3g15_ {p : Prop} (h : p := by repeat (first | (with_reducible first | exact HB.out | apply below_alloc | apply pw_below_drewN | apply below_drew1 | refine below_set ?_ (IsS200.ge HI0.out)) | exact HB.out)) : p := h
theorem w4g15_ {p : Prop} (h : p := by (try simp only [List.map_toArray, List.map_cons, List.map_nil]); first | done | rfl | (simp only [List.length_drop, List.length_take]; rfl)) : p := h
theorem w5g15_ {p : Prop} (h : p := by (with_reducible repeat (first | apply Kd.R_alloc | apply Kd.R_drewN | apply Kd.R_drew)); exact HO355.out) : p := h
theorem w6g15_ {p : Prop} (h : p := by repeat (first | exact (Kd.R_reads' HO355.out).2.2 | (with_reducible refine Kd.C_alloc ?_ _) | (with_reducible refine Kd.C_drewN ?_ _) | (with_reducible refine Kd.C_drew ?_))) : p := h
set_option maxHeartbeats 8000000 in
set_option maxRecDepth 100000 in
theorem spec_l29DrawText.calls (k : Nat) (g : Nat) (s0_0 : List Int) (s0_1 : Int) (s0_2 : Int) (r1 : ByteArray) (r2 : Int) (r3 : Int) (w0 w : World) (hI : IsS200 w0 w g s0_0 s0_1 s0_2) (hB : Below w0.heap.size w0 w) (h : spec_l29DrawText.f k s0_0 s0_1 s0_2 = some (r1, r2, r3)) :
 Calls Tryd.prog 100 #[.pointer (some ⟨g, 0, none⟩)] w fun e w' => e = .returned (.string r1) ∧ IsS200 w0 w' g s0_0 r2 r3 ∧ Below w0.heap.size w0 w' ∧ KeepBut w w' g none := by
 have HI0 := ag15_ hI; have HK := ag15_ (KeepBut.refl w g none); have HL := ag15_ hB.size; clear hI; have HW0 := ag15_ hB.size; have HB := ag15_ hB; clear hB; have H : ((spec_l29Draw.f k s0_0 s0_1 s0_2).bind fun bt353 => ((spec_JournalText.f k bt353.1).bind fun bt358 => ((spec_l01Next.f s0_0 bt353.2.1 bt353.2.2 3).bind fun bt360 => (if bt360.1 = 0 then ((spec_l01Damage.f s0_0 bt360.2.1 bt360.2.2 bt358.1).bind fun bt363 => (some (bt363.1, bt363.2.1, bt363.2.2))) else ((spec_l01Next.f s0_0 bt360.2.1 bt360.2.2 50).bind fun bt366 => (if bt366.1 = 0 then ((spec_l01Next.f s0_0 bt366.2.1 bt366.2.2 2).bind fun bt369 => (if 0 ≤ (wrap64 (8000 + bt369.1)) then (if (wrap64 (8000 + bt369.1) : Int).toNat ≤ 281474976710656 then (some (strOfNums (List.replicate (wrap64 (8000 + bt369.1) : Int).toNat 0), bt369.2.1, bt369.2.2)) else (none)) else (none))) else (some (bt358.1, bt366.2.1, bt366.2.2)))))))) = some (r1, r2, r3) := h; clear h
 replace H := Option.bind_eq_some_iff.mp H
 obtain ⟨⟨t353, t356, t357⟩, A20, H⟩ := H
 try dsimp only at H
 have A2 := ag15_ A20; clear A20
 replace H := Option.bind_eq_some_iff.mp H
 obtain ⟨⟨t358, t359⟩, A30, H⟩ := H
 try dsimp only at H
 have A3 := ag15_ A30; clear A30
 replace H := Option.bind_eq_some_iff.mp H
 obtain ⟨⟨t360, t361, t362⟩, A40, H⟩ := H
 try dsimp only at H
 have A4 := ag15_ A40; clear A40
 by_cases c5 : t360 = 0
 ·
  rw [if_pos c5] at H
  have c5b0 : (t360 == 0) = true := beq_iff_eq.mpr c5; have c5b1 : (t360 != 0) = false := bne_eq_false_iff_eq.mpr c5; clear c5
  replace H := Option.bind_eq_some_iff.mp H
  obtain ⟨⟨t363, t364, t365⟩, A60, H⟩ := H
  try dsimp only at H
  have A6 := ag15_ A60; clear A60
  simp only [Option.some.injEq, Prod.mk.injEq] at H
  obtain ⟨rfl, rfl, rfl⟩ := H
  go_enter Tryd.func100, Tryd.ntmps100
  go_wp2_with (first | ((with_reducible refine gate_callee (f := 109) rfl ?_); refine goesL_ (some 7) rfl rfl Tryd.func109 (by kernel_rfl) rfl #[.pointer (some ⟨g, 0, none⟩)] rfl w4g15_ ?_; (with_reducible refine (spec_l29Draw.calls k g s0_0 s0_1 s0_2 t353 t356 t357 w0 _ ?side1 ?side2 A2.out).mono ?_); (case side1 => exact w1g15_); (case side2 => exact w3g15_); rintro e w7 ⟨v354, rfl, ho0, hi, hb, hk⟩; refine ⟨_, rfl, ?_⟩; have n0_ := ag15_ (Kd.R_lower ho0 (keep_size (w := w) (g := g) (row := none) w2g15_)); have n1_ := ag15_ (KeepBut.trans w2g15_ hk (.inl rfl)); have n2_ := ag15_ (hb); have n3_ := ag15_ (hi); clear HK; clear HB; clear HI0; have HO355 := n0_; have HK := n1_; have HB := n2_; have HI0 := n3_; clear n0_ n1_ n2_ n3_; (try clear hb); (try clear hb2); (try clear hk); (try clear hi); (try clear ho0); obtain ⟨Ao8, co8, eo8⟩ := Kd.R_slice HO355.out; subst eo8) | ((with_reducible refine gate_callee (f := 43) rfl ?_); refine goesL_ (some 8) rfl rfl Tryd.func43 (by kernel_rfl) rfl #[.slice Ao8 t353.length co8] rfl w4g15_ ?_; (with_reducible refine (spec_JournalText.calls k _ _ t353 t358 t359 _ ?side1 ?side2 A3.out).mono ?_); (case side1 => exact w6g15_); (case side2 => exact (Kd.R_reads' HO355.out).2.1); rintro e w9 ⟨rfl, hb⟩; refine ⟨_, rfl, ?_⟩; have n0_ := ag15_ (Kd.R_below w5g15_ hb); have n1_ := ag15_ (IsS200.below w1g15_ hb); have n2_ := ag15_ (KeepBut.trans w2g15_ (KeepBut.of_below hb g none) (.inl rfl)); have n3_ := ag15_ (below_step w3g15_ hb); clear HO355; clear HI0; clear HK; clear HB; have HO355 := n0_; have HI0 := n1_; have HK := n2_; have HB := n3_; clear n0_ n1_ n2_ n3_; clear hb) | ((with_reducible refine gate_callee (f := 102) rfl ?_); refine goesL_ (some 12) rfl rfl Tryd.func102 (by kernel_rfl) rfl #[.pointer (some ⟨g, 0, none⟩), .int .i64 3] rfl w4g15_ ?_; (with_reducible refine (spec_l01Next.calls g s0_0 t356 t357 3 t360 t361 t362 w0 _ ?side1 ?side2 A4.out).mono ?_); (case side1 => exact w1g15_); (case side2 => exact w3g15_); rintro e w10 ⟨rfl, hi, hb, hk⟩; refine ⟨_, rfl, ?_⟩; replace HO355 := ag15_ (Kd.R_mono (Kd.R_keep (IsS200.apart (show IsS200 w0 _ g s0_0 t356 t357 from w1g15_) w5g15_ (by decide)) hk (fun _ h => h.2)) (fun _ h => h.1)); replace HK := ag15_ (KeepBut.trans w2g15_ hk (.inl rfl)); replace HB := ag15_ (hb); replace HI0 := ag15_ (hi); clear hb hk hi) | ((with_reducible refine gate_callee (f := 159) rfl ?_); refine goesL_ (some 16) rfl rfl Tryd.func159 (by kernel_rfl) rfl #[.pointer (some ⟨g, 0, none⟩), .string t358] rfl w4g15_ ?_; (with_reducible refine (spec_l01Damage.calls g s0_0 t361 t362 t358 t363 t364 t365 w0 _ ?side1 ?side2 A6.out).mono ?_); (case side1 => exact w1g15_); (case side2 => exact w3g15_); rintro e w11 ⟨rfl, hi, hb, hk⟩; refine ⟨_, rfl, ?_⟩; replace HO355 := ag15_ (Kd.R_mono (Kd.R_keep (IsS200.apart (show IsS200 w0 _ g s0_0 t361 t362 from w1g15_) w5g15_ (by decide)) hk (fun _ h => h.2)) (fun _ h => h.1)); replace HK := ag15_ (KeepBut.trans w2g15_ hk (.inl rfl)); replace HB := ag15_ (hb); replace HI0 := ag15_ (hi); clear hb hk hi))
  go_ret
  exact ⟨(by first | rfl | (simp [errW_none, errW_some] <;> rfl) | (simp [*, errW_none, errW_some] <;> rfl)), w1g15_, w3g15_, w2g15_⟩
 ·
  rw [if_neg c5] at H
  have c5b0 : (t360 == 0) = false := beq_eq_false_iff_ne.mpr c5; have c5b1 : (t360 != 0) = true := bne_iff_ne.mpr c5
  replace H := Option.bind_eq_some_iff.mp H
  obtain ⟨⟨t366, t367, t368⟩, A120, H⟩ := H
  try dsimp only at H
  have A12 := ag15_ A120; clear A120
  by_cases c13 : t366 = 0
  ·
   rw [if_pos c13] at H
   have c13b0 : (t366 == 0) = true := beq_iff_eq.mpr c13; have c13b1 : (t366 != 0) = false := bne_eq_false_iff_eq.mpr c13; clear c13
   replace H := Option.bind_eq_some_iff.mp H
   obtain ⟨⟨t369, t370, t371⟩, A140, H⟩ := H
   try dsimp only at H
   have A14 := ag15_ A140; clear A140; obtain ⟨ji15, hji15⟩ : ∃ j_ : Int, (wrap64 (8000 + t369)) = j_ := ⟨_, rfl⟩
   replace H : (if 0 ≤ (ji15) then (if (ji15 : Int).toNat ≤ 281474976710656 then (some (strOfNums (List.replicate (ji15 : Int).toNat 0), t370, t371)) else (none)) else (none)) = some (r1, r2, r3) := by first | (rw [hji15] at H; exact H) | (simp only [hji15] at H ⊢; exact H)
   (try rw [hji15] at A2)
   (try rw [hji15] at A3)
   (try rw [hji15] at A4)
   (try rw [hji15] at A12)
   (try rw [hji15] at A14)
   have hji15w : (IntKind.i64.wrap (8000 + t369)) = ji15 := (i64_w _).trans hji15
   by_cases c16 : 0 ≤ (ji15)
   ·
    rw [if_pos c16] at H
    have c16b0 := eq_true c16; have c16b1 : decide (0 ≤ (ji15)) = true := decide_eq_true c16; clear c16
    by_cases c17 : (ji15 : Int).toNat ≤ 281474976710656
    ·
     rw [if_pos c17] at H
     have c17b0 := eq_true c17; have c17b1 : decide ((ji15 : Int).toNat ≤ 281474976710656) = true := decide_eq_true c17; clear c17; obtain ⟨y372, hy372⟩ : ∃ y_ : List Int, y_ = (List.replicate (ji15 : Int).toNat 0) := ⟨_, rfl⟩
     replace H : (some (strOfNums y372, t370, t371)) = some (r1, r2, r3) := by first | (rw [hy372]; with_reducible exact H) | (have H2_ := (Option.bind_some _ _).symm.trans H; rw [hy372]; with_reducible exact H2_) | (have H2_ := (Option.bind_some _ _).symm.trans H; with_reducible exact H2_) | with_reducible exact H | (rw [hy372]; exact H) | exact H
     have Ny372 := ag15_ hy372; clear hy372
     simp only [Option.some.injEq, Prod.mk.injEq] at H
     obtain ⟨rfl, rfl, rfl⟩ := H
     go_enter Tryd.func100, Tryd.ntmps100
     go_wp2_with (first | ((with_reducible refine gate_callee (f := 109) rfl ?_); refine goesL_ (some 7) rfl rfl Tryd.func109 (by kernel_rfl) rfl #[.pointer (some ⟨g, 0, none⟩)] rfl w4g15_ ?_; (with_reducible refine (spec_l29Draw.calls k g s0_0 s0_1 s0_2 t353 t356 t357 w0 _ ?side1 ?side2 A2.out).mono ?_); (case side1 => exact w1g15_); (case side2 => exact w3g15_); rintro e w18 ⟨v354, rfl, ho0, hi, hb, hk⟩; refine ⟨_, rfl, ?_⟩; have n0_ := ag15_ (Kd.R_lower ho0 (keep_size (w := w) (g := g) (row := none) w2g15_)); have n1_ := ag15_ (KeepBut.trans w2g15_ hk (.inl rfl)); have n2_ := ag15_ (hb); have n3_ := ag15_ (hi); clear HK; clear HB; clear HI0; have HO355 := n0_; have HK := n1_; have HB := n2_; have HI0 := n3_; clear n0_ n1_ n2_ n3_; (try clear hb); (try clear hb2); (try clear hk); (try clear hi); (try clear ho0); obtain ⟨Ao19, co19, eo19⟩ := Kd.R_slice HO355.out; subst eo19) | ((with_reducible refine gate_callee (f := 43) rfl ?_); refine goesL_ (some 8) rfl rfl Tryd.func43 (by kernel_rfl) rfl #[.slice Ao19 t353.length co19] rfl w4g15_ ?_; (with_reducible refine (spec_JournalText.calls k _ _ t353 t358 t359 _ ?side1 ?side2 A3.out).mono ?_); (case side1 => exact w6g15_); (case side2 => exact (Kd.R_reads' HO355.out).2.1); rintro e w20 ⟨rfl, hb⟩; refine ⟨_, rfl, ?_⟩; have n0_ := ag15_ (Kd.R_below w5g15_ hb); have n1_ := ag15_ (IsS200.below w1g15_ hb); have n2_ := ag15_ (KeepBut.trans w2g15_ (KeepBut.of_below hb g none) (.inl rfl)); have n3_ := ag15_ (below_step w3g15_ hb); clear HO355; clear HI0; clear HK; clear HB; have HO355 := n0_; have HI0 := n1_; have HK := n2_; have HB := n3_; clear n0_ n1_ n2_ n3_; clear hb) | ((with_reducible refine gate_callee (f := 102) rfl ?_); refine goesL_ (some 12) rfl rfl Tryd.func102 (by kernel_rfl) rfl #[.pointer (some ⟨g, 0, none⟩), .int .i64 3] rfl w4g15_ ?_; (with_reducible refine (spec_l01Next.calls g s0_0 t356 t357 3 t360 t361 t362 w0 _ ?side1 ?side2 A4.out).mono ?_); (case side1 => exact w1g15_); (case side2 => exact w3g15_); rintro e w21 ⟨rfl, hi, hb, hk⟩; refine ⟨_, rfl, ?_⟩; replace HO355 := ag15_ (Kd.R_mono (Kd.R_keep (IsS200.apart (show IsS200 w0 _ g s0_0 t356 t357 from w1g15_) w5g15_ (by decide)) hk (fun _ h => h.2)) (fun _ h => h.1)); replace HK := ag15_ (KeepBut.trans w2g15_ hk (.inl rfl)); replace HB := ag15_ (hb); replace HI0 := ag15_ (hi); clear hb hk hi) | ((with_reducible refine gate_callee (f := 102) rfl ?_); refine goesL_ (some 18) rfl rfl Tryd.func102 (by kernel_rfl) rfl #[.pointer (some ⟨g, 0, none⟩), .int .i64 50] rfl w4g15_ ?_; (with_reducible refine (spec_l01Next.calls g s0_0 t361 t362 50 t366 t367 t368 w0 _ ?side1 ?side2 A12.out).mono ?_); (case side1 => exact w1g15_); (case side2 => exact w3g15_); rintro e w22 ⟨rfl, hi, hb, hk⟩; refine ⟨_, rfl, ?_⟩; replace HO355 := ag15_ (Kd.R_mono (Kd.R_keep (IsS200.apart (show IsS200 w0 _ g s0_0 t361 t362 from w1g15_) w5g15_ (by decide)) hk (fun _ h => h.2)) (fun _ h => h.1)); replace HK := ag15_ (KeepBut.trans w2g15_ hk (.inl rfl)); replace HB := ag15_ (hb); replace HI0 := ag15_ (hi); clear hb hk hi) | ((with_reducible refine gate_callee (f := 102) rfl ?_); refine goesL_ (some 21) rfl rfl Tryd.func102 (by kernel_rfl) rfl #[.pointer (some ⟨g, 0, none⟩), .int .i64 2] rfl w4g15_ ?_; (with_reducible refine (spec_l01Next.calls g s0_0 t367 t368 2 t369 t370 t371 w0 _ ?side1 ?side2 A14.out).mono ?_); (case side1 => exact w1g15_); (case side2 => exact w3g15_); rintro e w23 ⟨rfl, hi, hb, hk⟩; refine ⟨_, rfl, ?_⟩; replace HO355 := ag15_ (Kd.R_mono (Kd.R_keep (IsS200.apart (show IsS200 w0 _ g s0_0 t367 t368 from w1g15_) w5g15_ (by decide)) hk (fun _ h => h.2)) (fun _ h => h.1)); replace HK := ag15_ (KeepBut.trans w2g15_ hk (.inl rfl)); replace HB := ag15_ (hb); replace HI0 := ag15_ (hi); clear hb hk hi) | ((with_reducible refine gate_dst (N := 23) rfl ?_); refine Kd.R_make (Kd.int .u8) _ 5 rfl (N := 23) rfl 63 _ _ rfl ji15 rfl rfl Tryd.underlying63 (.int .u8 0) 1 info5 rfl (by decide) (by omega) 0 (ok := fun _ => True) (okp := fun _ => True) rfl (fun _ hk => hk) trivial (of_decide_eq_true (by first | (with_reducible assumption) | assumption)) (Nat.le_trans (Nat.mul_le_mul_right _ (of_decide_eq_true (by first | (with_reducible assumption) | assumption) : ji15.toNat ≤ 281474976710656)) (by omega)) (Below.refl _ _) (Nat.le_refl _) ?_; intro v373 w24 ho25 hb hg_ hnew_; clear hg_ hnew_; (first | rw [← Ny372.out] at ho25 | (simp only [Int.reduceToNat] at ho25; rw [← Ny372.out] at ho25)); have HO374 := ag15_ (Kd.R_lower ho25 (keep_size (w := w) (g := g) (row := none) w2g15_)); replace HO355 := ag15_ (Kd.R_below w5g15_ hb); replace HK := ag15_ (KeepBut.trans w2g15_ (KeepBut.of_below hb g none) (.inl rfl)); replace HB := ag15_ (below_step w3g15_ hb); replace HI0 := ag15_ (IsS200.below w1g15_ hb); clear hb ho25; have hcv26 := own_string (P := Tryd.prog) Tryd.underlying63 Tryd.underlying5 Tryd.underlying9 (Kd.own_of_R HO374.out)))
     go_ret
     exact ⟨(by first | rfl | (simp [errW_none, errW_some] <;> rfl) | (simp only [← hji15]; first | rfl | (simp [errW_none, errW_some] <;> rfl)) | (simp [*, errW_none, errW_some] <;> rfl)), w1g15_, w3g15_, w2g15_⟩
    ·
     rw [if_neg c17] at H
     exact absurd H (by simp)
   ·
    rw [if_neg c16] at H
    exact absurd H (by simp)
  ·
   rw [if_neg c13] at H
   have c13b0 : (t366 == 0) = false := beq_eq_false_iff_ne.mpr c13; have c13b1 : (t366 != 0) = true := bne_iff_ne.mpr c13
   simp only [Option.some.injEq, Prod.mk.injEq] at H
   obtain ⟨rfl, rfl, rfl⟩ := H
   go_enter Tryd.func100, Tryd.ntmps100
   go_wp2_with (first | ((with_reducible refine gate_callee (f := 109) rfl ?_); refine goesL_ (some 7) rfl rfl Tryd.func109 (by kernel_rfl) rfl #[.pointer (some ⟨g, 0, none⟩)] rfl w4g15_ ?_; (with_reducible refine (spec_l29Draw.calls k g s0_0 s0_1 s0_2 t353 t356 t357 w0 _ ?side1 ?side2 A2.out).mono ?_); (case side1 => exact w1g15_); (case side2 => exact w3g15_); rintro e w27 ⟨v354, rfl, ho0, hi, hb, hk⟩; refine ⟨_, rfl, ?_⟩; have n0_ := ag15_ (Kd.R_lower ho0 (keep_size (w := w) (g := g) (row := none) w2g15_)); have n1_ := ag15_ (KeepBut.trans w2g15_ hk (.inl rfl)); have n2_ := ag15_ (hb); have n3_ := ag15_ (hi); clear HK; clear HB; clear HI0; have HO355 := n0_; have HK := n1_; have HB := n2_; have HI0 := n3_; clear n0_ n1_ n2_ n3_; (try clear hb); (try clear hb2); (try clear hk); (try clear hi); (try clear ho0); obtain ⟨Ao28, co28, eo28⟩ := Kd.R_slice HO355.out; subst eo28) | ((with_reducible refine gate_callee (f := 43) rfl ?_); refine goesL_ (some 8) rfl rfl Tryd.func43 (by kernel_rfl) rfl #[.slice Ao28 t353.length co28] rfl w4g15_ ?_; (with_reducible refine (spec_JournalText.calls k _ _ t353 t358 t359 _ ?side1 ?side2 A3.out).mono ?_); (case side1 => exact w6g15_); (case side2 => exact (Kd.R_reads' HO355.out).2.1); rintro e w29 ⟨rfl, hb⟩; refine ⟨_, rfl, ?_⟩; have n0_ := ag15_ (Kd.R_below w5g15_ hb); have n1_ := ag15_ (IsS200.below w1g15_ hb); have n2_ := ag15_ (KeepBut.trans w2g15_ (KeepBut.of_below hb g none) (.inl rfl)); have n3_ := ag15_ (below_step w3g15_ hb); clear HO355; clear HI0; clear HK; clear HB; have HO355 := n0_; have HI0 := n1_; have HK := n2_; have HB := n3_; clear n0_ n1_ n2_ n3_; clear hb) | ((with_reducible refine gate_callee (f := 102) rfl ?_); refine goesL_ (some 12) rfl rfl Tryd.func102 (by kernel_rfl) rfl #[.pointer (some ⟨g, 0, none⟩), .int .i64 3] rfl w4g15_ ?_; (with_reducible refine (spec_l01Next.calls g s0_0 t356 t357 3 t360 t361 t362 w0 _ ?side1 ?side2 A4.out).mono ?_); (case side1 => exact w1g15_); (case side2 => exact w3g15_); rintro e w30 ⟨rfl, hi, hb, hk⟩; refine ⟨_, rfl, ?_⟩; replace HO355 := ag15_ (Kd.R_mono (Kd.R_keep (IsS200.apart (show IsS200 w0 _ g s0_0 t356 t357 from w1g15_) w5g15_ (by decide)) hk (fun _ h => h.2)) (fun _ h => h.1)); replace HK := ag15_ (KeepBut.trans w2g15_ hk (.inl rfl)); replace HB := ag15_ (hb); replace HI0 := ag15_ (hi); clear hb hk hi) | ((with_reducible refine gate_callee (f := 102) rfl ?_); refine goesL_ (some 18) rfl rfl Tryd.func102 (by kernel_rfl) rfl #[.pointer (some ⟨g, 0, none⟩), .int .i64 50] rfl w4g15_ ?_; (with_reducible refine (spec_l01Next.calls g s0_0 t361 t362 50 t366 t367 t368 w0 _ ?side1 ?side2 A12.out).mono ?_); (case side1 => exact w1g15_); (case side2 => exact w3g15_); rintro e w31 ⟨rfl, hi, hb, hk⟩; refine ⟨_, rfl, ?_⟩; replace HO355 := ag15_ (Kd.R_mono (Kd.R_keep (IsS200.apart (show IsS200 w0 _ g s0_0 t361 t362 from w1g15_) w5g15_ (by decide)) hk (fun _ h => h.2)) (fun _ h => h.1)); replace HK := ag15_ (KeepBut.trans w2g15_ hk (.inl rfl)); replace HB := ag15_ (hb); replace HI0 := ag15_ (hi); clear hb hk hi))
   go_ret
   exact ⟨(by first | rfl | (simp [errW_none, errW_some] <;> rfl) | (simp [*, errW_none, errW_some] <;> rfl)), w1g15_, w3g15_, w2g15_⟩
end Go.Proofs.YtoiioapkebglgaaDoor.PG
end
section
namespace Go.Proofs.YtoiioapkebglgaaDoor.PG
open Go.RowKit Go.Proofs.YtoiioapkebglgaaDoorW.PrintWords Go.Proofs.YtoiioapkebglgaaDoorW.PrintLast Go.Proofs.YtoiioapkebglgaaDoorW.PrintMore
attribute [local go_sem] max2_int min2_int max_two min_two max_three min_three max_four min_four   -- for this text's walks alone
set_option linter.unusedVariables false
set_option linter.unusedSimpArgs false
def spec_DrawResumeJob.f (k : Nat) (l0 : List Int) : Option (ByteArray × Int) := (spec_l01From.f k l0).bind fun bt375 => ((spec_l29DrawText.f k bt375.1 bt375.2.1 bt375.2.2).bind fun bt379 => ((spec_l01Next.f bt375.1 bt379.2.1 bt379.2.2 400).bind fun bt382 => ((spec_l01Next.f bt375.1 bt382.2.1 bt382.2.2 400).bind fun bt385 => ((spec_l01Pick.f bt375.1 bt385.2.1 bt385.2.2 (([(-1), 0, 1000000, 1000001] : List Int))).bind fun bt391 => ((spec_l01Pick.f bt375.1 bt391.2.1 bt391.2.2 (([bt382.1, bt385.1, bt391.1] : List Int))).bind fun bt397 => (some (bt379.1, bt397.1)))))))
theorem ag16_ {p : Prop} (h : p) : Aside0 p := ⟨h⟩
theorem w1g16_ {p : Prop} (h : p := by repeat (first | (with_reducible first | exact HI378.out | apply IsS200.alloc | apply IsS200.drewN | apply IsS200.drew | apply IsS200.set_1 | apply IsS200.set_2) | exact HI378.out)) : p := h
theorem w2g16_ {p : Prop} (h : p := by repeat (first | (with_reducible first | exact HB.out | apply below_alloc | apply pw_below_drewN | apply below_drew1 | refine below_set ?_ (IsS200.ge HI378.out)) | exact HB.out)) : p := h
theorem w3g16_ {p : Prop} (h : p := by (try simp only [List.map_toArray, List.map_cons, List.map_nil]); first | done | rfl | (simp only [List.length_drop, List.length_take]; rfl)) : p := h
theorem w4g16_ {p : Prop} (h : p := by (with_reducible repeat (first | apply Kd.R_alloc | apply Kd.R_drewN | apply Kd.R_drew)); exact HO390.out) : p := h
set_option maxHeartbeats 8000000 in
set_option maxRecDepth 100000 in
theorem spec_DrawResumeJob.calls (k : Nat) (A0 : Option Addr) (c0 : Nat) (l0 : List Int) (r1 : ByteArray) (r2 : Int) (w : World) (hr0 : Kd.C (Kd.int .u8) w A0 l0.length l0) (hc0 : l0.length ≤ c0) (h : spec_DrawResumeJob.f k l0 = some (r1, r2)) :
 Calls Tryd.prog 34 #[.slice A0 l0.length c0] w fun e w' => e = .returned (.tuple #[.string r1, .int .i64 r2]) ∧ Below w.heap.size w w' := by
 have HR0 := ag16_ hr0; have HC0 := ag16_ hc0; clear hr0 hc0; have HB := ag16_ (Below.refl w.heap.size w); have H : ((spec_l01From.f k l0).bind fun bt375 => ((spec_l29DrawText.f k bt375.1 bt375.2.1 bt375.2.2).bind fun bt379 => ((spec_l01Next.f bt375.1 bt379.2.1 bt379.2.2 400).bind fun bt382 => ((spec_l01Next.f bt375.1 bt382.2.1 bt382.2.2 400).bind fun bt385 => ((spec_l01Pick.f bt375.1 bt385.2.1 bt385.2.2 (([(-1), 0, 1000000, 1000001] : List Int))).bind fun bt391 => ((spec_l01Pick.f bt375.1 bt391.2.1 bt391.2.2 (([bt382.1, bt385.1, bt391.1] : List Int))).bind fun bt397 => (some (bt379.1, bt397.1)))))))) = some (r1, r2) := h; clear h
 replace H := Option.bind_eq_some_iff.mp H
 obtain ⟨⟨t375, t376, t377⟩, A20, H⟩ := H
 try dsimp only at H
 have A2 := ag16_ A20; clear A20
 replace H := Option.bind_eq_some_iff.mp H
 obtain ⟨⟨t379, t380, t381⟩, A30, H⟩ := H
 try dsimp only at H
 have A3 := ag16_ A30; clear A30
 replace H := Option.bind_eq_some_iff.mp H
 obtain ⟨⟨t382, t383, t384⟩, A40, H⟩ := H
 try dsimp only at H
 have A4 := ag16_ A40; clear A40
 replace H := Option.bind_eq_some_iff.mp H
 obtain ⟨⟨t385, t386, t387⟩, A50, H⟩ := H
 try dsimp only at H
 have A5 := ag16_ A50; clear A50; obtain ⟨y388, hy388⟩ : ∃ y_ : List Int, y_ = (([(-1), 0, 1000000, 1000001] : List Int)) := ⟨_, rfl⟩
 replace H : ((spec_l01Pick.f t375 t386 t387 y388).bind fun bt391 => ((spec_l01Pick.f t375 bt391.2.1 bt391.2.2 (([t382, t385, bt391.1] : List Int))).bind fun bt397 => (some (t379, bt397.1)))) = some (r1, r2) := by first | (rw [hy388]; with_reducible exact H) | (have H2_ := (Option.bind_some _ _).symm.trans H; rw [hy388]; with_reducible exact H2_) | (have H2_ := (Option.bind_some _ _).symm.trans H; with_reducible exact H2_) | with_reducible exact H | (rw [hy388]; exact H) | exact H
 have Ny388 := ag16_ hy388; clear hy388
 replace H := Option.bind_eq_some_iff.mp H
 obtain ⟨⟨t391, t392, t393⟩, A60, H⟩ := H
 try dsimp only at H
 have A6 := ag16_ A60; clear A60; obtain ⟨y394, hy394⟩ : ∃ y_ : List Int, y_ = (([t382, t385, t391] : List Int)) := ⟨_, rfl⟩
 replace H : ((spec_l01Pick.f t375 t392 t393 y394).bind fun bt397 => (some (t379, bt397.1))) = some (r1, r2) := by first | (rw [hy394]; with_reducible exact H) | (have H2_ := (Option.bind_some _ _).symm.trans H; rw [hy394]; with_reducible exact H2_) | (have H2_ := (Option.bind_some _ _).symm.trans H; with_reducible exact H2_) | with_reducible exact H | (rw [hy394]; exact H) | exact H
 have Ny394 := ag16_ hy394; clear hy394
 replace H := Option.bind_eq_some_iff.mp H
 obtain ⟨⟨t397, t398, t399⟩, A70, H⟩ := H
 try dsimp only at H
 have A7 := ag16_ A70; clear A70
 simp only [Option.some.injEq, Prod.mk.injEq] at H
 obtain ⟨rfl, rfl⟩ := H
 go_enter Tryd.func34, Tryd.ntmps34
 go_wp2_with (first | ((with_reducible refine gate_callee (f := 99) rfl ?_); refine goesL_ (some 6) rfl rfl Tryd.func99 (by kernel_rfl) rfl #[.slice A0 l0.length c0] rfl w3g16_ ?_; (with_reducible refine (spec_l01From.calls k _ _ l0 t375 t376 t377 w _ ?side1 ?side2 ?side3 A2.out).mono ?_); (case side1 => exact (by repeat (first | (with_reducible first | exact HB.out | apply below_alloc | apply pw_below_drewN | apply below_drew1) | exact HB.out))); (case side2 => exact HR0.out); (case side3 => exact HC0.out); rintro e w8 ⟨g378, rfl, hi, hb, hb2⟩; refine ⟨_, rfl, ?_⟩; have HI378 := ag16_ (hi); replace HB := ag16_ (hb); (try clear hb); (try clear hb2); (try clear hk); (try clear hi)) | ((with_reducible refine gate_callee (f := 100) rfl ?_); refine goesL_ (some 8) rfl rfl Tryd.func100 (by kernel_rfl) rfl #[.pointer (some ⟨g378, 0, none⟩)] rfl w3g16_ ?_; (with_reducible refine (spec_l29DrawText.calls k g378 t375 t376 t377 t379 t380 t381 w _ ?side1 ?side2 A3.out).mono ?_); (case side1 => exact w1g16_); (case side2 => exact w2g16_); rintro e w9 ⟨rfl, hi, hb, hk⟩; refine ⟨_, rfl, ?_⟩; replace HB := ag16_ (hb); replace HI378 := ag16_ (hi); clear hb hk hi) | ((with_reducible refine gate_callee (f := 102) rfl ?_); refine goesL_ (some 11) rfl rfl Tryd.func102 (by kernel_rfl) rfl #[.pointer (some ⟨g378, 0, none⟩), .int .i64 400] rfl w3g16_ ?_; (with_reducible refine (spec_l01Next.calls g378 t375 t380 t381 400 t382 t383 t384 w _ ?side1 ?side2 A4.out).mono ?_); (case side1 => exact w1g16_); (case side2 => exact w2g16_); rintro e w10 ⟨rfl, hi, hb, hk⟩; refine ⟨_, rfl, ?_⟩; replace HB := ag16_ (hb); replace HI378 := ag16_ (hi); clear hb hk hi) | ((with_reducible refine gate_callee (f := 102) rfl ?_); refine goesL_ (some 13) rfl rfl Tryd.func102 (by kernel_rfl) rfl #[.pointer (some ⟨g378, 0, none⟩), .int .i64 400] rfl w3g16_ ?_; (with_reducible refine (spec_l01Next.calls g378 t375 t383 t384 400 t385 t386 t387 w _ ?side1 ?side2 A5.out).mono ?_); (case side1 => exact w1g16_); (case side2 => exact w2g16_); rintro e w11 ⟨rfl, hi, hb, hk⟩; refine ⟨_, rfl, ?_⟩; replace HB := ag16_ (hb); replace HI378 := ag16_ (hi); clear hb hk hi) | ((with_reducible refine gate_dst (N := 15) rfl ?_); refine Kd.R_lit (Kd.int .i64) _ 2 ?hg (N := 15) ?hd (xs := ([(-1), 0, 1000000, 1000001] : List Int)) (inner := [.int .i64 (-1), .int .i64 0, .int .i64 1000000, .int .i64 1000001]) (ok := fun _ => True) (okp := fun _ => True) ?hr ?hp (fun _ hk => hk) trivial (Below.refl _ _) (Nat.le_refl _) (by simp) ?_; (case hd => rfl); (case hg => rfl); (case hr => first | (go_simp; done) | (go_simp; rfl)); (case hp => exact (by exact (Reps.one (show Kd.M (Kd.int .i64) _ _ _ (-1) [.int .i64 (-1)] from rfl) (Reps.one (show Kd.M (Kd.int .i64) _ _ _ 0 [.int .i64 0] from rfl) (Reps.one (show Kd.M (Kd.int .i64) _ _ _ 1000000 [.int .i64 1000000] from rfl) (Reps.one (show Kd.M (Kd.int .i64) _ _ _ 1000001 [.int .i64 1000001] from rfl) (Reps.none _ _))))))); intro v389 w12 ho13 hb hg_ hnew_; clear hg_ hnew_; (first | rw [← Ny388.out] at ho13 | (simp only [Int.reduceToNat] at ho13; rw [← Ny388.out] at ho13)); have n0_ := ag16_ (Kd.R_lower ho13 (below_size w2g16_)); have n1_ := ag16_ (IsS200.below w1g16_ hb); have n2_ := ag16_ (below_step w2g16_ hb); clear HI378; clear HB; have HO390 := n0_; have HI378 := n1_; have HB := n2_; clear n0_ n1_ n2_; clear hb ho13; obtain ⟨Ao14, co14, eo14⟩ := Kd.R_slice HO390.out; subst eo14) | ((with_reducible refine gate_callee (f := 101) rfl ?_); refine goesL_ (some 16) rfl rfl Tryd.func101 (by kernel_rfl) rfl #[.pointer (some ⟨g378, 0, none⟩), .slice Ao14 y388.length co14] rfl w3g16_ ?_; (with_reducible refine (spec_l01Pick.calls g378 t375 t386 t387 _ _ y388 t391 t392 t393 w _ ?side1 ?side2 ?side3 ?side4 ?side5 A6.out).mono ?_); (case side1 => exact w1g16_); (case side2 => exact w2g16_); (case side3 => exact (by repeat (first | exact (Kd.R_reads' HO390.out).2.2 | (with_reducible refine Kd.C_alloc ?_ _) | (with_reducible refine Kd.C_drewN ?_ _) | (with_reducible refine Kd.C_drew ?_)))); (case side4 => exact (Kd.R_reads' HO390.out).2.1); (case side5 => exact far_slice (IsS200.own_ne HI378.out HO390.out (by decide))); rintro e w15 ⟨rfl, hi, hb, hk⟩; refine ⟨_, rfl, ?_⟩; have n0_ := ag16_ (Kd.R_mono (Kd.R_keep (IsS200.apart (show IsS200 w _ g378 t375 t386 t387 from w1g16_) w4g16_ (by decide)) hk (fun _ h => h.2)) (fun _ h => h.1)); have n1_ := ag16_ (hb); have n2_ := ag16_ (hi); clear HO390; clear HB; clear HI378; have HO390 := n0_; have HB := n1_; have HI378 := n2_; clear n0_ n1_ n2_; clear hb hk hi) | ((with_reducible refine gate_dst (N := 17) rfl ?_); refine Kd.R_lit (Kd.int .i64) _ 2 ?hg (N := 17) ?hd (xs := ([t382, t385, t391] : List Int)) (inner := [.int .i64 t382, .int .i64 t385, .int .i64 t391]) (ok := fun _ => True) (okp := fun _ => True) ?hr ?hp (fun _ hk => hk) trivial (Below.refl _ _) (Nat.le_refl _) (by simp) ?_; (case hd => rfl); (case hg => rfl); (case hr => first | (go_simp; done) | (go_simp; rfl)); (case hp => exact (by exact (Reps.one (show Kd.M (Kd.int .i64) _ _ _ t382 [.int .i64 t382] from rfl) (Reps.one (show Kd.M (Kd.int .i64) _ _ _ t385 [.int .i64 t385] from rfl) (Reps.one (show Kd.M (Kd.int .i64) _ _ _ t391 [.int .i64 t391] from rfl) (Reps.none _ _)))))); intro v395 w16 ho17 hb hg_ hnew_; clear hg_ hnew_; (first | rw [← Ny394.out] at ho17 | (simp only [Int.reduceToNat] at ho17; rw [← Ny394.out] at ho17)); have HO396 := ag16_ (Kd.R_lower (Kd.R_new' ho17 (Kd.R_lt w4g16_)) (below_size w2g16_)); replace HO390 := ag16_ (Kd.R_elder' w4g16_ (Kd.R_base ho17) hb); replace HB := ag16_ (below_step w2g16_ hb); replace HI378 := ag16_ (IsS200.below w1g16_ hb); clear hb ho17; obtain ⟨Ao18, co18, eo18⟩ := Kd.R_slice HO396.out; subst eo18) | ((with_reducible refine gate_callee (f := 101) rfl ?_); refine goesL_ (some 18) rfl rfl Tryd.func101 (by kernel_rfl) rfl #[.pointer (some ⟨g378, 0, none⟩), .slice Ao18 y394.length co18] rfl w3g16_ ?_; (with_reducible refine (spec_l01Pick.calls g378 t375 t392 t393 _ _ y394 t397 t398 t399 w _ ?side1 ?side2 ?side3 ?side4 ?side5 A7.out).mono ?_); (case side1 => exact w1g16_); (case side2 => exact w2g16_); (case side3 => exact (by repeat (first | exact (Kd.R_reads' HO396.out).2.2 | (with_reducible refine Kd.C_alloc ?_ _) | (with_reducible refine Kd.C_drewN ?_ _) | (with_reducible refine Kd.C_drew ?_)))); (case side4 => exact (Kd.R_reads' HO396.out).2.1); (case side5 => exact far_slice (IsS200.own_ne HI378.out HO396.out (by decide))); rintro e w19 ⟨rfl, hi, hb, hk⟩; refine ⟨_, rfl, ?_⟩; replace HO390 := ag16_ (Kd.R_mono (Kd.R_keep (IsS200.apart (show IsS200 w _ g378 t375 t392 t393 from w1g16_) w4g16_ (by decide)) hk (fun _ h => h.2)) (fun _ h => h.1)); replace HO396 := ag16_ (Kd.R_mono (Kd.R_keep (IsS200.apart (show IsS200 w _ g378 t375 t392 t393 from w1g16_) (by (with_reducible repeat (first | apply Kd.R_alloc | apply Kd.R_drewN | apply Kd.R_drew)); exact HO396.out) (by decide)) hk (fun _ h => h.2)) (fun _ h => h.1)); replace HB := ag16_ (hb); replace HI378 := ag16_ (hi); clear hb hk hi))
 go_ret2
 exact ⟨(by first | rfl | (simp [errW_none, errW_some] <;> rfl) | (simp [*, errW_none, errW_some] <;> rfl)), w2g16_⟩
end Go.Proofs.YtoiioapkebglgaaDoor.PG
end
section
namespace Go.Proofs.YtoiioapkebglgaaDoor.PG
open Go.RowKit Go.Proofs.YtoiioapkebglgaaDoorW.PrintWords Go.Proofs.YtoiioapkebglgaaDoorW.PrintLast Go.Proofs.YtoiioapkebglgaaDoorW.PrintMore
attribute [local go_sem] max2_int min2_int max_two min_two max_three min_three max_four min_four   -- for this text's walks alone
set_option linter.unusedVariables false
set_option linter.unusedSimpArgs false
def spec_l29DrawMachine.j0 : Nat → List Int → Int → Int → Int → Int → Int → Int → Option (Int × Int × Int × Int × Int × Int)
  | 0, _, _, _, _, _, _, _ => none
  | k + 1, x1000, x1001, x1002, x405000, x405001, x405002, x405003 => (spec_l01Next.f x1000 x1001 x1002 30).bind fun bt417 => (if bt417.1 = 0 then ((spec_l01Pick.f x1000 bt417.2.1 bt417.2.2 (([(-1), 1, 1000000, 1000001] : List Int))).bind fun bt423 => (some (x405000, bt423.1, x405002, x405003, bt423.2.1, bt423.2.2))) else (if bt417.1 = 1 then ((spec_l01Pick.f x1000 bt417.2.1 bt417.2.2 (([(-1), 1000000000, 1000000001] : List Int))).bind fun bt429 => (some (x405000, x405001, x405002, bt429.1, bt429.2.1, bt429.2.2))) else (if bt417.1 = 2 then ((spec_l01Pick.f x1000 bt417.2.1 bt417.2.2 (([(-1), 0, 1000000000, 1000000001] : List Int))).bind fun bt435 => (some (bt435.1, x405001, x405002, x405003, bt435.2.1, bt435.2.2))) else (some (x405000, x405001, x405002, x405003, bt417.2.1, bt417.2.2)))))
def spec_l29DrawMachine.f (k : Nat) (s0_0 : List Int) (s0_1 : Int) (s0_2 : Int) : Option (Int × Int × Int × Int × Int × Int) := (spec_l01Next.f s0_0 s0_1 s0_2 5).bind fun bt401 => ((spec_l01Next.f s0_0 bt401.2.1 bt401.2.2 3).bind fun bt405 => (if bt405.1 > 0 then ((spec_l01Next.f s0_0 bt405.2.1 bt405.2.2 9).bind fun bt408 => ((spec_l01Next.f s0_0 bt408.2.1 bt408.2.2 300).bind fun bt411 => ((spec_l01Next.f s0_0 bt411.2.1 bt411.2.2 4).bind fun bt414 => (spec_l29DrawMachine.j0 k s0_0 bt414.2.1 bt414.2.2 (wrap64 (1 + bt408.1)) bt411.1 bt414.1 bt401.1)))) else (spec_l29DrawMachine.j0 k s0_0 bt405.2.1 bt405.2.2 0 0 0 bt401.1)))
theorem ag17_ {p : Prop} (h : p) : Aside0 p := ⟨h⟩
theorem w1g17_ {p : Prop} (h : p := by repeat (first | (with_reducible first | exact HI0.out | apply IsS200.alloc | apply IsS200.drewN | apply IsS200.drew | apply IsS200.set_1 | apply IsS200.set_2 | refine IsS200.far ?_ NB0_400.out _ | refine IsS200.far ?_ NB0_404.out _) | exact HI0.out)) : p := h
theorem w2g17_ {p : Prop} (h : p := by repeat (first | (with_reducible first | exact HK.out | apply KeepBut.set_ | apply keep_drewN | apply keep_drew | apply keep_alloc | refine keep_far ?_ GW400.out _ | refine keep_far ?_ GW404.out _) | exact HK.out)) : p := h
theorem w3g17_ {p : Prop} (h : p := by repeat (first | (with_reducible first | exact HB.out | apply below_alloc | apply pw_below_drewN | apply below_drew1 | refine below_set ?_ (IsS200.ge HI0.out) | refine below_set ?_ GE400.out | refine below_set ?_ GE404.out) | exact HB.out)) : p := h
theorem w4g17_ {p : Prop} (h : p := by (with_reducible repeat (first | refine blk_drewN ?_ _ | refine blk_drew ?_ | refine blk_alloc ?_ _)); exact BK400.out) : p := h
theorem w5g17_ {p : Prop} (h : p := by (try simp only [List.map_toArray, List.map_cons, List.map_nil]); first | done | rfl | (simp only [List.length_drop, List.length_take]; rfl)) : p := h
theorem w6g17_ {p : Prop} (h : p := by (with_reducible repeat (first | refine blk_drewN ?_ _ | refine blk_drew ?_ | refine blk_alloc ?_ _)); exact BK404.out) : p := h
theorem w7g17_ {p : Prop} (h : p := by repeat (first | (with_reducible first | exact HI0.out | apply IsS200.alloc | apply IsS200.drewN | apply IsS200.drew | apply IsS200.set_1 | apply IsS200.set_2 | refine IsS200.far ?_ NB0_400.out _) | exact HI0.out)) : p := h
theorem w8g17_ {p : Prop} (h : p := by repeat (first | (with_reducible first | exact HK.out | apply KeepBut.set_ | apply keep_drewN | apply keep_drew | apply keep_alloc | refine keep_far ?_ GW400.out _) | exact HK.out)) : p := h
theorem w9g17_ {p : Prop} (h : p := by (with_reducible repeat (first | refine blk_far ?_ NB400_404.out _ | refine blk_drewN ?_ _ | refine blk_drew ?_ | refine blk_alloc ?_ _)); exact BK400.out) : p := h
theorem w10g17_ {p : Prop} (h : p := by repeat (first | (with_reducible first | exact HI0.out | apply IsS200.alloc | apply IsS200.drewN | apply IsS200.drew | apply IsS200.set_1 | apply IsS200.set_2) | exact HI0.out)) : p := h
theorem w11g17_ {p : Prop} (h : p := by repeat (first | (with_reducible first | exact HK.out | apply KeepBut.set_ | apply keep_drewN | apply keep_drew | apply keep_alloc) | exact HK.out)) : p := h
theorem w12g17_ {p : Prop} (h : p := by first | rfl | (simp [errW_none, errW_some] <;> rfl) | (simp [*, errW_none, errW_some] <;> rfl)) : p := h
theorem w13g17_ {p : Prop} (h : p := by repeat (first | (with_reducible first | exact HB.out | apply below_alloc | apply pw_below_drewN | apply below_drew1 | refine below_set ?_ (IsS200.ge HI0.out) | refine below_set ?_ GE400.out) | exact HB.out)) : p := h
set_option maxHeartbeats 8000000 in
set_option maxRecDepth 100000 in
theorem spec_l29DrawMachine.calls (k : Nat) (g : Nat) (s0_0 : List Int) (s0_1 : Int) (s0_2 : Int) (r1 : Int) (r2 : Int) (r3 : Int) (r4 : Int) (r5 : Int) (r6 : Int) (w0 w : World) (hI : IsS200 w0 w g s0_0 s0_1 s0_2) (hB : Below w0.heap.size w0 w) (h : spec_l29DrawMachine.f k s0_0 s0_1 s0_2 = some (r1, r2, r3, r4, r5, r6)) :
 Calls Tryd.prog 103 #[.pointer (some ⟨g, 0, none⟩)] w fun e w' => e = .returned (.agg #[.int .i64 r1, .int .i64 r2, .int .i64 r3, .int .i64 r4]) ∧ IsS200 w0 w' g s0_0 r5 r6 ∧ Below w0.heap.size w0 w' ∧ KeepBut w w' g none := by
 have hu68 := Tryd.underlying68; have HI0 := ag17_ hI; have HK := ag17_ (KeepBut.refl w g none); have HL := ag17_ hB.size; clear hI; have HW0 := ag17_ hB.size; have HB := ag17_ hB; clear hB; have H : ((spec_l01Next.f s0_0 s0_1 s0_2 5).bind fun bt401 => ((spec_l01Next.f s0_0 bt401.2.1 bt401.2.2 3).bind fun bt405 => (if bt405.1 > 0 then ((spec_l01Next.f s0_0 bt405.2.1 bt405.2.2 9).bind fun bt408 => ((spec_l01Next.f s0_0 bt408.2.1 bt408.2.2 300).bind fun bt411 => ((spec_l01Next.f s0_0 bt411.2.1 bt411.2.2 4).bind fun bt414 => (spec_l29DrawMachine.j0 k s0_0 bt414.2.1 bt414.2.2 (wrap64 (1 + bt408.1)) bt411.1 bt414.1 bt401.1)))) else (spec_l29DrawMachine.j0 k s0_0 bt405.2.1 bt405.2.2 0 0 0 bt401.1)))) = some (r1, r2, r3, r4, r5, r6) := h; clear h
 replace H := Option.bind_eq_some_iff.mp H
 obtain ⟨⟨t401, t402, t403⟩, A20, H⟩ := H
 try dsimp only at H
 have A2 := ag17_ A20; clear A20
 replace H := Option.bind_eq_some_iff.mp H
 obtain ⟨⟨t405, t406, t407⟩, A30, H⟩ := H
 try dsimp only at H
 have A3 := ag17_ A30; clear A30; have HC4 := ag17_ H; clear H
 go_enter Tryd.func103, Tryd.ntmps103
 go_upto_if 9 with (first | ((with_reducible refine gate_dst (N := 2) rfl ?_); refine be_ (N := 2) (cs := #[.int .i64 0, .int .i64 0, .int .i64 0, .int .i64 0]) (t := 68) ?_; intro gb400 hg w5 hbox hb; have BK400 := ag17_ (hbox); have GW400 := ag17_ ((by rw [hg]; exact (keep_size (w := w) (g := g) (row := none) w11g17_) : w.heap.size ≤ gb400)); have GE400 := ag17_ ((Nat.le_trans HW0.out (by rw [hg]; exact (keep_size (w := w) (g := g) (row := none) w11g17_) : w.heap.size ≤ gb400) : w0.heap.size ≤ gb400)); have NB0_400 := ag17_ ((by rw [hg]; exact Nat.ne_of_lt (IsS200.lt (show IsS200 w0 _ g s0_0 s0_1 s0_2 from w10g17_)) : g ≠ gb400)); have NB400_0 := ag17_ ((by rw [hg]; exact Nat.ne_of_gt (IsS200.lt (show IsS200 w0 _ g s0_0 s0_1 s0_2 from w10g17_)) : gb400 ≠ g)); replace HK := ag17_ (KeepBut.trans w11g17_ (KeepBut.of_below hb g none) (.inl rfl)); replace HB := ag17_ (below_step (by repeat (first | (with_reducible first | exact HB.out | apply below_alloc | apply pw_below_drewN | apply below_drew1 | refine below_set ?_ (IsS200.ge HI0.out)) | exact HB.out)) hb); replace HI0 := ag17_ (IsS200.below w10g17_ hb); clear hb hbox hg) | ((with_reducible refine gate_callee (f := 102) rfl ?_); refine goesL_ (some 5) rfl rfl Tryd.func102 (by kernel_rfl) rfl #[.pointer (some ⟨g, 0, none⟩), .int .i64 5] rfl w5g17_ ?_; (with_reducible refine (spec_l01Next.calls g s0_0 s0_1 s0_2 5 t401 t402 t403 w0 _ ?side1 ?side2 A2.out).mono ?_); (case side1 => exact w7g17_); (case side2 => exact w13g17_); rintro e w6 ⟨rfl, hi, hb, hk⟩; refine ⟨_, rfl, ?_⟩; replace BK400 := ag17_ (KeepBut.blk hk (g' := gb400) (o := .cells #[.int .i64 0, .int .i64 0, .int .i64 0, .int .i64 0] 68 (0, 0)) w4g17_ NB400_0.out (by simp)); replace HK := ag17_ (KeepBut.trans w8g17_ hk (.inl rfl)); replace HB := ag17_ (hb); replace HI0 := ag17_ (hi); clear hb hk hi) | ((with_reducible refine gate_dst (N := 3) rfl ?_); refine be_ (N := 3) (cs := #[.int .i64 0, .int .i64 0, .int .i64 0, .int .i64 0]) (t := 68) ?_; intro gb404 hg w7 hbox hb; have BK404 := ag17_ (hbox); have GW404 := ag17_ ((by rw [hg]; exact (keep_size (w := w) (g := g) (row := none) w8g17_) : w.heap.size ≤ gb404)); have GE404 := ag17_ ((Nat.le_trans HW0.out (by rw [hg]; exact (keep_size (w := w) (g := g) (row := none) w8g17_) : w.heap.size ≤ gb404) : w0.heap.size ≤ gb404)); obtain ⟨NB400_404, NB404_400⟩ := nb2_ hg w4g17_; have NB0_404 := ag17_ ((by rw [hg]; exact Nat.ne_of_lt (IsS200.lt (show IsS200 w0 _ g s0_0 t402 t403 from w7g17_)) : g ≠ gb404)); have NB404_0 := ag17_ ((by rw [hg]; exact Nat.ne_of_gt (IsS200.lt (show IsS200 w0 _ g s0_0 t402 t403 from w7g17_)) : gb404 ≠ g)); replace BK400 := ag17_ (blk_below w4g17_ hb); replace HK := ag17_ (KeepBut.trans w8g17_ (KeepBut.of_below hb g none) (.inl rfl)); replace HB := ag17_ (below_step w13g17_ hb); replace HI0 := ag17_ (IsS200.below w7g17_ hb); clear hb hbox hg; have hnb8 := NB404_400.out; have hnc8 := NB400_404.out; have hnb9 := NB404_0.out; have hnc9 := NB0_404.out; obtain ⟨hcz10_0, hcz10_1, hcz10_2, hcz10_3⟩ := blk4 BK404.out; obtain ⟨hfz10_0, hfz10_1, hfz10_2, hfz10_3⟩ := frz4 BK404.out) | ((with_reducible refine gate_callee (f := 102) rfl ?_); refine goesL_ (some 8) rfl rfl Tryd.func102 (by kernel_rfl) rfl #[.pointer (some ⟨g, 0, none⟩), .int .i64 3] rfl w5g17_ ?_; (with_reducible refine (spec_l01Next.calls g s0_0 t402 t403 3 t405 t406 t407 w0 _ ?side1 ?side2 A3.out).mono ?_); (case side1 => exact w1g17_); (case side2 => exact w3g17_); rintro e w11 ⟨rfl, hi, hb, hk⟩; refine ⟨_, rfl, ?_⟩; replace BK400 := ag17_ (KeepBut.blk hk (g' := gb400) (o := .cells #[.int .i64 0, .int .i64 0, .int .i64 0, .int .i64 0] 68 (0, 0)) (by (with_reducible repeat (first | refine blk_far ?_ NB400_404.out _ | refine blk_drewN ?_ _ | refine blk_drew ?_ | refine blk_alloc ?_ _)); exact BK400.out) NB400_0.out (by simp)); replace BK404 := ag17_ (KeepBut.blk hk (g' := gb404) (o := .cells #[.int .i64 0, .int .i64 0, .int .i64 0, .int .i64 t401] 68 (0, 0)) (by (with_reducible repeat (first | refine blk_drewN ?_ _ | refine blk_drew ?_ | refine blk_alloc ?_ _)); refine blk_put (cs := #[.int .i64 0, .int .i64 0, .int .i64 0, .int .i64 0]) ?_ 3 _ rfl; (with_reducible repeat (first | refine blk_drewN ?_ _ | refine blk_drew ?_ | refine blk_alloc ?_ _)); refine blk_put (cs := #[.int .i64 0, .int .i64 0, .int .i64 0, .int .i64 0]) ?_ 2 _ rfl; (with_reducible repeat (first | refine blk_drewN ?_ _ | refine blk_drew ?_ | refine blk_alloc ?_ _)); refine blk_put (cs := #[.int .i64 0, .int .i64 0, .int .i64 0, .int .i64 0]) ?_ 1 _ rfl; (with_reducible repeat (first | refine blk_drewN ?_ _ | refine blk_drew ?_ | refine blk_alloc ?_ _)); refine blk_put (cs := #[.int .i64 0, .int .i64 0, .int .i64 0, .int .i64 0]) ?_ 0 _ rfl; (with_reducible repeat (first | refine blk_drewN ?_ _ | refine blk_drew ?_ | refine blk_alloc ?_ _)); exact BK404.out) NB404_0.out (by simp)); replace HK := ag17_ (KeepBut.trans w2g17_ hk (.inl rfl)); replace HB := ag17_ (hb); replace HI0 := ag17_ (hi); clear hb hk hi))
 (try simp only [Act.put, List.setIfInBounds_toArray, List.set_cons_zero, List.set_cons_succ])
 go_cut [] (fun wc => ∃ (kq : Nat) (x1001_3 : Int) (x1002_3 : Int) (x405000_3 : Int) (x405001_3 : Int) (x405002_3 : Int), Aside0 (spec_l29DrawMachine.j0 kq s0_0 x1001_3 x1002_3 x405000_3 x405001_3 x405002_3 t401 = some (r1, r2, r3, r4, r5, r6)) ∧ Aside0 (kq ≤ k) ∧ Aside0 (wc.heap[gb400]? = some (.cells #[.int .i64 0, .int .i64 0, .int .i64 0, .int .i64 0] 68 (0, 0))) ∧ Aside0 (wc.heap[gb404]? = some (.cells #[.int .i64 x405000_3, .int .i64 x405001_3, .int .i64 x405002_3, .int .i64 t401] 68 (0, 0))) ∧ Aside0 (IsS200 w0 wc g s0_0 x1001_3 x1002_3) ∧ Aside0 (KeepBut w wc g none) ∧ Aside0 (Below w0.heap.size w0 wc))
 case first =>
  have H := HC4.out; clear HC4
  by_cases c12 : t405 > 0
  ·
   rw [if_pos c12] at H
   have c12b0 : decide (0 < t405) = true := decide_eq_true c12; clear c12
   (first | rw [c12b0] | (simp only [i64_w, i32_w]; rw [c12b0]) | skip)
   replace H := Option.bind_eq_some_iff.mp H
   obtain ⟨⟨t408, t409, t410⟩, A130, H⟩ := H
   try dsimp only at H
   have A13 := ag17_ A130; clear A130
   replace H := Option.bind_eq_some_iff.mp H
   obtain ⟨⟨t411, t412, t413⟩, A140, H⟩ := H
   try dsimp only at H
   have A14 := ag17_ A140; clear A140
   replace H := Option.bind_eq_some_iff.mp H
   obtain ⟨⟨t414, t415, t416⟩, A150, H⟩ := H
   try dsimp only at H
   have A15 := ag17_ A150; clear A150; have H' := ag17_ H; clear H
   go_wp2_with (first | ((with_reducible refine gate_callee (f := 102) rfl ?_); refine goesL_ (some 11) rfl rfl Tryd.func102 (by kernel_rfl) rfl #[.pointer (some ⟨g, 0, none⟩), .int .i64 9] rfl w5g17_ ?_; (with_reducible refine (spec_l01Next.calls g s0_0 t406 t407 9 t408 t409 t410 w0 _ ?side1 ?side2 A13.out).mono ?_); (case side1 => exact w1g17_); (case side2 => exact w3g17_); rintro e w16 ⟨rfl, hi, hb, hk⟩; refine ⟨_, rfl, ?_⟩; replace BK400 := ag17_ (KeepBut.blk hk (g' := gb400) (o := .cells #[.int .i64 0, .int .i64 0, .int .i64 0, .int .i64 0] 68 (0, 0)) w4g17_ NB400_0.out (by simp)); replace BK404 := ag17_ (KeepBut.blk hk (g' := gb404) (o := .cells #[.int .i64 0, .int .i64 0, .int .i64 0, .int .i64 t401] 68 (0, 0)) w6g17_ NB404_0.out (by simp)); replace HK := ag17_ (KeepBut.trans w2g17_ hk (.inl rfl)); replace HB := ag17_ (hb); replace HI0 := ag17_ (hi); clear hb hk hi; have hnb17 := NB404_400.out; have hnc17 := NB400_404.out; have hnb18 := NB404_0.out; have hnc18 := NB0_404.out; obtain ⟨hcz19_0, hcz19_1, hcz19_2, hcz19_3⟩ := blk4 BK404.out; obtain ⟨hfz19_0, hfz19_1, hfz19_2, hfz19_3⟩ := frz4 BK404.out) | ((with_reducible refine gate_callee (f := 102) rfl ?_); refine goesL_ (some 15) rfl rfl Tryd.func102 (by kernel_rfl) rfl #[.pointer (some ⟨g, 0, none⟩), .int .i64 300] rfl w5g17_ ?_; (with_reducible refine (spec_l01Next.calls g s0_0 t409 t410 300 t411 t412 t413 w0 _ ?side1 ?side2 A14.out).mono ?_); (case side1 => exact w1g17_); (case side2 => exact w3g17_); rintro e w20 ⟨rfl, hi, hb, hk⟩; refine ⟨_, rfl, ?_⟩; replace BK400 := ag17_ (KeepBut.blk hk (g' := gb400) (o := .cells #[.int .i64 0, .int .i64 0, .int .i64 0, .int .i64 0] 68 (0, 0)) w9g17_ NB400_0.out (by simp)); replace BK404 := ag17_ (KeepBut.blk hk (g' := gb404) (o := .cells #[.int .i64 (wrap64 (1 + t408)), .int .i64 0, .int .i64 0, .int .i64 t401] 68 (0, 0)) (by (with_reducible repeat (first | refine blk_drewN ?_ _ | refine blk_drew ?_ | refine blk_alloc ?_ _)); refine blk_put (cs := #[.int .i64 0, .int .i64 0, .int .i64 0, .int .i64 t401]) ?_ 0 _ rfl; (with_reducible repeat (first | refine blk_drewN ?_ _ | refine blk_drew ?_ | refine blk_alloc ?_ _)); exact BK404.out) NB404_0.out (by simp)); replace HK := ag17_ (KeepBut.trans w2g17_ hk (.inl rfl)); replace HB := ag17_ (hb); replace HI0 := ag17_ (hi); clear hb hk hi; obtain ⟨hcz21_0, hcz21_1, hcz21_2, hcz21_3⟩ := blk4 BK404.out; obtain ⟨hfz21_0, hfz21_1, hfz21_2, hfz21_3⟩ := frz4 BK404.out) | ((with_reducible refine gate_callee (f := 102) rfl ?_); refine goesL_ (some 18) rfl rfl Tryd.func102 (by kernel_rfl) rfl #[.pointer (some ⟨g, 0, none⟩), .int .i64 4] rfl w5g17_ ?_; (with_reducible refine (spec_l01Next.calls g s0_0 t412 t413 4 t414 t415 t416 w0 _ ?side1 ?side2 A15.out).mono ?_); (case side1 => exact w1g17_); (case side2 => exact w3g17_); rintro e w22 ⟨rfl, hi, hb, hk⟩; refine ⟨_, rfl, ?_⟩; replace BK400 := ag17_ (KeepBut.blk hk (g' := gb400) (o := .cells #[.int .i64 0, .int .i64 0, .int .i64 0, .int .i64 0] 68 (0, 0)) w9g17_ NB400_0.out (by simp)); replace BK404 := ag17_ (KeepBut.blk hk (g' := gb404) (o := .cells #[.int .i64 (wrap64 (1 + t408)), .int .i64 t411, .int .i64 0, .int .i64 t401] 68 (0, 0)) (by (with_reducible repeat (first | refine blk_drewN ?_ _ | refine blk_drew ?_ | refine blk_alloc ?_ _)); refine blk_put (cs := #[.int .i64 (wrap64 (1 + t408)), .int .i64 0, .int .i64 0, .int .i64 t401]) ?_ 1 _ rfl; (with_reducible repeat (first | refine blk_drewN ?_ _ | refine blk_drew ?_ | refine blk_alloc ?_ _)); exact BK404.out) NB404_0.out (by simp)); replace HK := ag17_ (KeepBut.trans w2g17_ hk (.inl rfl)); replace HB := ag17_ (hb); replace HI0 := ag17_ (hi); clear hb hk hi; obtain ⟨hcz23_0, hcz23_1, hcz23_2, hcz23_3⟩ := blk4 BK404.out; obtain ⟨hfz23_0, hfz23_1, hfz23_2, hfz23_3⟩ := frz4 BK404.out))
   go_meet
   case rel => exact ⟨_, (t415), (t416), (wrap64 (1 + t408)), (t411), (t414), H', ⟨(by first | omega | exact Nat.le_refl _)⟩, ⟨w9g17_⟩, ⟨(by (with_reducible repeat (first | refine blk_drewN ?_ _ | refine blk_drew ?_ | refine blk_alloc ?_ _)); refine blk_put (cs := #[.int .i64 (wrap64 (1 + t408)), .int .i64 t411, .int .i64 0, .int .i64 t401]) ?_ 2 _ rfl; (with_reducible repeat (first | refine blk_drewN ?_ _ | refine blk_drew ?_ | refine blk_alloc ?_ _)); exact BK404.out)⟩, ⟨w1g17_⟩, ⟨w2g17_⟩, ⟨w3g17_⟩⟩
  ·
   rw [if_neg c12] at H
   have c12b0 : decide (0 < t405) = false := decide_eq_false c12; clear c12
   (first | rw [c12b0] | (simp only [i64_w, i32_w]; rw [c12b0]) | skip)
   have H' := ag17_ H; clear H
   go_wp2
   go_meet
   case rel => exact ⟨_, (t406), (t407), (0), (0), (0), H', ⟨(by first | omega | exact Nat.le_refl _)⟩, ⟨w4g17_⟩, ⟨w6g17_⟩, ⟨w1g17_⟩, ⟨w2g17_⟩, ⟨w3g17_⟩⟩
 case rest =>
  clear HC4
  try clear c12
  try clear c12b0
  try clear hcz10_0
  try clear hcz10_1
  try clear hcz10_2
  try clear hcz10_3
  try clear hcz19_0
  try clear hcz19_1
  try clear hcz19_2
  try clear hcz19_3
  try clear hcz21_0
  try clear hcz21_1
  try clear hcz21_2
  try clear hcz21_3
  try clear hcz23_0
  try clear hcz23_1
  try clear hcz23_2
  try clear hcz23_3
  try clear hfz10_0
  try clear hfz10_1
  try clear hfz10_2
  try clear hfz10_3
  try clear hfz19_0
  try clear hfz19_1
  try clear hfz19_2
  try clear hfz19_3
  try clear hfz21_0
  try clear hfz21_1
  try clear hfz21_2
  try clear hfz21_3
  try clear hfz23_0
  try clear hfz23_1
  try clear hfz23_2
  try clear hfz23_3
  obtain ⟨kq, x1001_3, x1002_3, x405000_3, x405001_3, x405002_3, HA, HJ3, BK400, BK404, HI0, HK, HB⟩ := hcut
  cases kq with
  | zero => exact absurd HA.out (by simp [spec_l29DrawMachine.j0])
  | succ kj3 =>
   have H := HA.out; clear HA
   simp only [spec_l29DrawMachine.j0] at H
   replace H := Option.bind_eq_some_iff.mp H
   obtain ⟨⟨t417, t418, t419⟩, A240, H⟩ := H
   try dsimp only at H
   have A24 := ag17_ A240; clear A240
   by_cases c25 : t417 = 0
   ·
    rw [if_pos c25] at H
    have c25b0 : (t417 == 0) = true := beq_iff_eq.mpr c25; have c25b1 : (t417 != 0) = false := bne_eq_false_iff_eq.mpr c25; clear c25; obtain ⟨y420, hy420⟩ : ∃ y_ : List Int, y_ = (([(-1), 1, 1000000, 1000001] : List Int)) := ⟨_, rfl⟩
    replace H : ((spec_l01Pick.f s0_0 t418 t419 y420).bind fun bt423 => (some (x405000_3, bt423.1, x405002_3, t401, bt423.2.1, bt423.2.2))) = some (r1, r2, r3, r4, r5, r6) := by first | (rw [hy420]; with_reducible exact H) | (have H2_ := (Option.bind_some _ _).symm.trans H; rw [hy420]; with_reducible exact H2_) | (have H2_ := (Option.bind_some _ _).symm.trans H; with_reducible exact H2_) | with_reducible exact H | (rw [hy420]; exact H) | exact H
    have Ny420 := ag17_ hy420; clear hy420
    replace H := Option.bind_eq_some_iff.mp H
    obtain ⟨⟨t423, t424, t425⟩, A260, H⟩ := H
    try dsimp only at H
    have A26 := ag17_ A260; clear A260
    simp only [Option.some.injEq, Prod.mk.injEq] at H
    obtain ⟨rfl, rfl, rfl, rfl, rfl, rfl⟩ := H
    go_wp2_with (first | ((with_reducible refine gate_callee (f := 102) rfl ?_); refine goesL_ (some 21) rfl rfl Tryd.func102 (by kernel_rfl) rfl #[.pointer (some ⟨g, 0, none⟩), .int .i64 30] rfl w5g17_ ?_; (with_reducible refine (spec_l01Next.calls g s0_0 x1001_3 x1002_3 30 t417 t418 t419 w0 _ ?side1 ?side2 A24.out).mono ?_); (case side1 => exact w1g17_); (case side2 => exact w3g17_); rintro e w27 ⟨rfl, hi, hb, hk⟩; refine ⟨_, rfl, ?_⟩; replace BK400 := ag17_ (KeepBut.blk hk (g' := gb400) (o := .cells #[.int .i64 0, .int .i64 0, .int .i64 0, .int .i64 0] 68 (0, 0)) w4g17_ NB400_0.out (by simp)); replace BK404 := ag17_ (KeepBut.blk hk (g' := gb404) (o := .cells #[.int .i64 x405000_3, .int .i64 x405001_3, .int .i64 x405002_3, .int .i64 t401] 68 (0, 0)) w6g17_ NB404_0.out (by simp)); replace HK := ag17_ (KeepBut.trans w2g17_ hk (.inl rfl)); replace HB := ag17_ (hb); replace HI0 := ag17_ (hi); clear hb hk hi) | ((with_reducible refine gate_dst (N := 25) rfl ?_); refine Kd.R_lit (Kd.int .i64) _ 2 ?hg (N := 25) ?hd (xs := ([(-1), 1, 1000000, 1000001] : List Int)) (inner := [.int .i64 (-1), .int .i64 1, .int .i64 1000000, .int .i64 1000001]) (ok := fun _ => True) (okp := fun _ => True) ?hr ?hp (fun _ hk => hk) trivial (Below.refl _ _) (Nat.le_refl _) (by simp) ?_; (case hd => rfl); (case hg => rfl); (case hr => first | (go_simp; done) | (go_simp; rfl)); (case hp => exact (by exact (Reps.one (show Kd.M (Kd.int .i64) _ _ _ (-1) [.int .i64 (-1)] from rfl) (Reps.one (show Kd.M (Kd.int .i64) _ _ _ 1 [.int .i64 1] from rfl) (Reps.one (show Kd.M (Kd.int .i64) _ _ _ 1000000 [.int .i64 1000000] from rfl) (Reps.one (show Kd.M (Kd.int .i64) _ _ _ 1000001 [.int .i64 1000001] from rfl) (Reps.none _ _))))))); intro v421 w28 ho29 hb hg_ hnew_; clear hg_ hnew_; (first | rw [← Ny420.out] at ho29 | (simp only [Int.reduceToNat] at ho29; rw [← Ny420.out] at ho29)); have n0_ := ag17_ (Kd.R_lower ho29 (keep_size (w := w) (g := g) (row := none) w2g17_)); have n1_ := ag17_ (blk_below w4g17_ hb); have n2_ := ag17_ (blk_below w6g17_ hb); have n3_ := ag17_ (IsS200.below w1g17_ hb); have n4_ := ag17_ (KeepBut.trans w2g17_ (KeepBut.of_below hb g none) (.inl rfl)); have n5_ := ag17_ (below_step w3g17_ hb); clear BK400; clear BK404; clear HI0; clear HK; clear HB; have HO422 := n0_; have BK400 := n1_; have BK404 := n2_; have HI0 := n3_; have HK := n4_; have HB := n5_; clear n0_ n1_ n2_ n3_ n4_ n5_; clear hb ho29; obtain ⟨Ao30, co30, eo30⟩ := Kd.R_slice HO422.out; subst eo30) | ((with_reducible refine gate_callee (f := 101) rfl ?_); refine goesL_ (some 26) rfl rfl Tryd.func101 (by kernel_rfl) rfl #[.pointer (some ⟨g, 0, none⟩), .slice Ao30 y420.length co30] rfl w5g17_ ?_; (with_reducible refine (spec_l01Pick.calls g s0_0 t418 t419 _ _ y420 t423 t424 t425 w0 _ ?side1 ?side2 ?side3 ?side4 ?side5 A26.out).mono ?_); (case side1 => exact w1g17_); (case side2 => exact w3g17_); (case side3 => exact (by repeat (first | exact (Kd.R_reads' HO422.out).2.2 | (with_reducible refine Kd.C_alloc ?_ _) | (with_reducible refine Kd.C_drewN ?_ _) | (with_reducible refine Kd.C_drew ?_)))); (case side4 => exact (Kd.R_reads' HO422.out).2.1); (case side5 => exact far_slice (IsS200.own_ne HI0.out HO422.out (by decide))); rintro e w31 ⟨rfl, hi, hb, hk⟩; refine ⟨_, rfl, ?_⟩; have n0_ := ag17_ (KeepBut.blk hk (g' := gb400) (o := .cells #[.int .i64 0, .int .i64 0, .int .i64 0, .int .i64 0] 68 (0, 0)) w4g17_ NB400_0.out (by simp)); have n1_ := ag17_ (KeepBut.blk hk (g' := gb404) (o := .cells #[.int .i64 x405000_3, .int .i64 x405001_3, .int .i64 x405002_3, .int .i64 t401] 68 (0, 0)) w6g17_ NB404_0.out (by simp)); have n2_ := ag17_ (Kd.R_mono (Kd.R_keep (IsS200.apart (show IsS200 w0 _ g s0_0 t418 t419 from w1g17_) (by (with_reducible repeat (first | apply Kd.R_alloc | apply Kd.R_drewN | apply Kd.R_drew)); exact HO422.out) (by decide)) hk (fun _ h => h.2)) (fun _ h => h.1)); have n3_ := ag17_ (KeepBut.trans w2g17_ hk (.inl rfl)); have n4_ := ag17_ (hb); have n5_ := ag17_ (hi); clear BK400; clear BK404; clear HO422; clear HK; clear HB; clear HI0; have BK400 := n0_; have BK404 := n1_; have HO422 := n2_; have HK := n3_; have HB := n4_; have HI0 := n5_; clear n0_ n1_ n2_ n3_ n4_ n5_; clear hb hk hi; have hnb32 := NB404_400.out; have hnc32 := NB400_404.out; have hnb33 := NB404_0.out; have hnc33 := NB0_404.out; obtain ⟨hcz34_0, hcz34_1, hcz34_2, hcz34_3⟩ := blk4 BK404.out; obtain ⟨hfz34_0, hfz34_1, hfz34_2, hfz34_3⟩ := frz4 BK404.out; have hnb35 := NB400_0.out; have hnc35 := NB0_400.out; obtain ⟨hcz36_0, hcz36_1, hcz36_2, hcz36_3⟩ := blk4 BK400.out; obtain ⟨hfz36_0, hfz36_1, hfz36_2, hfz36_3⟩ := frz4 BK400.out))
    refine bodyPost_ret (results_cell_row rfl _ _ gb400 68 #[.int .i64 x405000_3, .int .i64 t423, .int .i64 x405002_3, .int .i64 t401] (0, 0) _ rfl (by (with_reducible repeat (first | refine blk_drewN ?_ _ | refine blk_drew ?_ | refine blk_alloc ?_ _)); refine blk_put (cs := #[.int .i64 x405000_3, .int .i64 t423, .int .i64 x405002_3, .int .i64 0]) ?_ 3 _ rfl; (with_reducible repeat (first | refine blk_drewN ?_ _ | refine blk_drew ?_ | refine blk_alloc ?_ _)); refine blk_put (cs := #[.int .i64 x405000_3, .int .i64 t423, .int .i64 0, .int .i64 0]) ?_ 2 _ rfl; (with_reducible repeat (first | refine blk_drewN ?_ _ | refine blk_drew ?_ | refine blk_alloc ?_ _)); refine blk_put (cs := #[.int .i64 x405000_3, .int .i64 0, .int .i64 0, .int .i64 0]) ?_ 1 _ rfl; (with_reducible repeat (first | refine blk_drewN ?_ _ | refine blk_drew ?_ | refine blk_alloc ?_ _)); refine blk_put (cs := #[.int .i64 0, .int .i64 0, .int .i64 0, .int .i64 0]) ?_ 0 _ rfl; (with_reducible repeat (first | refine blk_far ?_ NB400_404.out _ | refine blk_drewN ?_ _ | refine blk_drew ?_ | refine blk_alloc ?_ _)); exact BK400.out) Tryd.underlying68 rfl (by kernel_rfl)) rfl ?_
    exact ⟨w12g17_, w1g17_, w3g17_, w2g17_⟩
   ·
    rw [if_neg c25] at H
    have c25b0 : (t417 == 0) = false := beq_eq_false_iff_ne.mpr c25; have c25b1 : (t417 != 0) = true := bne_iff_ne.mpr c25
    by_cases c37 : t417 = 1
    ·
     rw [if_pos c37] at H
     have c37b0 : (t417 == 1) = true := beq_iff_eq.mpr c37; have c37b1 : (t417 != 1) = false := bne_eq_false_iff_eq.mpr c37; clear c37; obtain ⟨y426, hy426⟩ : ∃ y_ : List Int, y_ = (([(-1), 1000000000, 1000000001] : List Int)) := ⟨_, rfl⟩
     replace H : ((spec_l01Pick.f s0_0 t418 t419 y426).bind fun bt429 => (some (x405000_3, x405001_3, x405002_3, bt429.1, bt429.2.1, bt429.2.2))) = some (r1, r2, r3, r4, r5, r6) := by first | (rw [hy426]; with_reducible exact H) | (have H2_ := (Option.bind_some _ _).symm.trans H; rw [hy426]; with_reducible exact H2_) | (have H2_ := (Option.bind_some _ _).symm.trans H; with_reducible exact H2_) | with_reducible exact H | (rw [hy426]; exact H) | exact H
     have Ny426 := ag17_ hy426; clear hy426
     replace H := Option.bind_eq_some_iff.mp H
     obtain ⟨⟨t429, t430, t431⟩, A380, H⟩ := H
     try dsimp only at H
     have A38 := ag17_ A380; clear A380
     simp only [Option.some.injEq, Prod.mk.injEq] at H
     obtain ⟨rfl, rfl, rfl, rfl, rfl, rfl⟩ := H
     go_wp2_with (first | ((with_reducible refine gate_callee (f := 102) rfl ?_); refine goesL_ (some 21) rfl rfl Tryd.func102 (by kernel_rfl) rfl #[.pointer (some ⟨g, 0, none⟩), .int .i64 30] rfl w5g17_ ?_; (with_reducible refine (spec_l01Next.calls g s0_0 x1001_3 x1002_3 30 t417 t418 t419 w0 _ ?side1 ?side2 A24.out).mono ?_); (case side1 => exact w1g17_); (case side2 => exact w3g17_); rintro e w39 ⟨rfl, hi, hb, hk⟩; refine ⟨_, rfl, ?_⟩; replace BK400 := ag17_ (KeepBut.blk hk (g' := gb400) (o := .cells #[.int .i64 0, .int .i64 0, .int .i64 0, .int .i64 0] 68 (0, 0)) w4g17_ NB400_0.out (by simp)); replace BK404 := ag17_ (KeepBut.blk hk (g' := gb404) (o := .cells #[.int .i64 x405000_3, .int .i64 x405001_3, .int .i64 x405002_3, .int .i64 t401] 68 (0, 0)) w6g17_ NB404_0.out (by simp)); replace HK := ag17_ (KeepBut.trans w2g17_ hk (.inl rfl)); replace HB := ag17_ (hb); replace HI0 := ag17_ (hi); clear hb hk hi) | ((with_reducible refine gate_dst (N := 31) rfl ?_); refine Kd.R_lit (Kd.int .i64) _ 2 ?hg (N := 31) ?hd (xs := ([(-1), 1000000000, 1000000001] : List Int)) (inner := [.int .i64 (-1), .int .i64 1000000000, .int .i64 1000000001]) (ok := fun _ => True) (okp := fun _ => True) ?hr ?hp (fun _ hk => hk) trivial (Below.refl _ _) (Nat.le_refl _) (by simp) ?_; (case hd => rfl); (case hg => rfl); (case hr => first | (go_simp; done) | (go_simp; rfl)); (case hp => exact (by exact (Reps.one (show Kd.M (Kd.int .i64) _ _ _ (-1) [.int .i64 (-1)] from rfl) (Reps.one (show Kd.M (Kd.int .i64) _ _ _ 1000000000 [.int .i64 1000000000] from rfl) (Reps.one (show Kd.M (Kd.int .i64) _ _ _ 1000000001 [.int .i64 1000000001] from rfl) (Reps.none _ _)))))); intro v427 w40 ho41 hb hg_ hnew_; clear hg_ hnew_; (first | rw [← Ny426.out] at ho41 | (simp only [Int.reduceToNat] at ho41; rw [← Ny426.out] at ho41)); have n0_ := ag17_ (Kd.R_lower ho41 (keep_size (w := w) (g := g) (row := none) w2g17_)); have n1_ := ag17_ (blk_below w4g17_ hb); have n2_ := ag17_ (blk_below w6g17_ hb); have n3_ := ag17_ (IsS200.below w1g17_ hb); have n4_ := ag17_ (KeepBut.trans w2g17_ (KeepBut.of_below hb g none) (.inl rfl)); have n5_ := ag17_ (below_step w3g17_ hb); clear BK400; clear BK404; clear HI0; clear HK; clear HB; have HO428 := n0_; have BK400 := n1_; have BK404 := n2_; have HI0 := n3_; have HK := n4_; have HB := n5_; clear n0_ n1_ n2_ n3_ n4_ n5_; clear hb ho41; obtain ⟨Ao42, co42, eo42⟩ := Kd.R_slice HO428.out; subst eo42) | ((with_reducible refine gate_callee (f := 101) rfl ?_); refine goesL_ (some 32) rfl rfl Tryd.func101 (by kernel_rfl) rfl #[.pointer (some ⟨g, 0, none⟩), .slice Ao42 y426.length co42] rfl w5g17_ ?_; (with_reducible refine (spec_l01Pick.calls g s0_0 t418 t419 _ _ y426 t429 t430 t431 w0 _ ?side1 ?side2 ?side3 ?side4 ?side5 A38.out).mono ?_); (case side1 => exact w1g17_); (case side2 => exact w3g17_); (case side3 => exact (by repeat (first | exact (Kd.R_reads' HO428.out).2.2 | (with_reducible refine Kd.C_alloc ?_ _) | (with_reducible refine Kd.C_drewN ?_ _) | (with_reducible refine Kd.C_drew ?_)))); (case side4 => exact (Kd.R_reads' HO428.out).2.1); (case side5 => exact far_slice (IsS200.own_ne HI0.out HO428.out (by decide))); rintro e w43 ⟨rfl, hi, hb, hk⟩; refine ⟨_, rfl, ?_⟩; have n0_ := ag17_ (KeepBut.blk hk (g' := gb400) (o := .cells #[.int .i64 0, .int .i64 0, .int .i64 0, .int .i64 0] 68 (0, 0)) w4g17_ NB400_0.out (by simp)); have n1_ := ag17_ (KeepBut.blk hk (g' := gb404) (o := .cells #[.int .i64 x405000_3, .int .i64 x405001_3, .int .i64 x405002_3, .int .i64 t401] 68 (0, 0)) w6g17_ NB404_0.out (by simp)); have n2_ := ag17_ (Kd.R_mono (Kd.R_keep (IsS200.apart (show IsS200 w0 _ g s0_0 t418 t419 from w1g17_) (by (with_reducible repeat (first | apply Kd.R_alloc | apply Kd.R_drewN | apply Kd.R_drew)); exact HO428.out) (by decide)) hk (fun _ h => h.2)) (fun _ h => h.1)); have n3_ := ag17_ (KeepBut.trans w2g17_ hk (.inl rfl)); have n4_ := ag17_ (hb); have n5_ := ag17_ (hi); clear BK400; clear BK404; clear HO428; clear HK; clear HB; clear HI0; have BK400 := n0_; have BK404 := n1_; have HO428 := n2_; have HK := n3_; have HB := n4_; have HI0 := n5_; clear n0_ n1_ n2_ n3_ n4_ n5_; clear hb hk hi; have hnb44 := NB404_400.out; have hnc44 := NB400_404.out; have hnb45 := NB404_0.out; have hnc45 := NB0_404.out; obtain ⟨hcz46_0, hcz46_1, hcz46_2, hcz46_3⟩ := blk4 BK404.out; obtain ⟨hfz46_0, hfz46_1, hfz46_2, hfz46_3⟩ := frz4 BK404.out; have hnb47 := NB400_0.out; have hnc47 := NB0_400.out; obtain ⟨hcz48_0, hcz48_1, hcz48_2, hcz48_3⟩ := blk4 BK400.out; obtain ⟨hfz48_0, hfz48_1, hfz48_2, hfz48_3⟩ := frz4 BK400.out))
     refine bodyPost_ret (results_cell_row rfl _ _ gb400 68 #[.int .i64 x405000_3, .int .i64 x405001_3, .int .i64 x405002_3, .int .i64 t429] (0, 0) _ rfl (by (with_reducible repeat (first | refine blk_drewN ?_ _ | refine blk_drew ?_ | refine blk_alloc ?_ _)); refine blk_put (cs := #[.int .i64 x405000_3, .int .i64 x405001_3, .int .i64 x405002_3, .int .i64 0]) ?_ 3 _ rfl; (with_reducible repeat (first | refine blk_drewN ?_ _ | refine blk_drew ?_ | refine blk_alloc ?_ _)); refine blk_put (cs := #[.int .i64 x405000_3, .int .i64 x405001_3, .int .i64 0, .int .i64 0]) ?_ 2 _ rfl; (with_reducible repeat (first | refine blk_drewN ?_ _ | refine blk_drew ?_ | refine blk_alloc ?_ _)); refine blk_put (cs := #[.int .i64 x405000_3, .int .i64 0, .int .i64 0, .int .i64 0]) ?_ 1 _ rfl; (with_reducible repeat (first | refine blk_drewN ?_ _ | refine blk_drew ?_ | refine blk_alloc ?_ _)); refine blk_put (cs := #[.int .i64 0, .int .i64 0, .int .i64 0, .int .i64 0]) ?_ 0 _ rfl; (with_reducible repeat (first | refine blk_far ?_ NB400_404.out _ | refine blk_drewN ?_ _ | refine blk_drew ?_ | refine blk_alloc ?_ _)); exact BK400.out) Tryd.underlying68 rfl (by kernel_rfl)) rfl ?_
     exact ⟨w12g17_, w1g17_, w3g17_, w2g17_⟩
    ·
     rw [if_neg c37] at H
     have c37b0 : (t417 == 1) = false := beq_eq_false_iff_ne.mpr c37; have c37b1 : (t417 != 1) = true := bne_iff_ne.mpr c37
     by_cases c49 : t417 = 2
     ·
      rw [if_pos c49] at H
      have c49b0 : (t417 == 2) = true := beq_iff_eq.mpr c49; have c49b1 : (t417 != 2) = false := bne_eq_false_iff_eq.mpr c49; clear c49; obtain ⟨y432, hy432⟩ : ∃ y_ : List Int, y_ = (([(-1), 0, 1000000000, 1000000001] : List Int)) := ⟨_, rfl⟩
      replace H : ((spec_l01Pick.f s0_0 t418 t419 y432).bind fun bt435 => (some (bt435.1, x405001_3, x405002_3, t401, bt435.2.1, bt435.2.2))) = some (r1, r2, r3, r4, r5, r6) := by first | (rw [hy432]; with_reducible exact H) | (have H2_ := (Option.bind_some _ _).symm.trans H; rw [hy432]; with_reducible exact H2_) | (have H2_ := (Option.bind_some _ _).symm.trans H; with_reducible exact H2_) | with_reducible exact H | (rw [hy432]; exact H) | exact H
      have Ny432 := ag17_ hy432; clear hy432
      replace H := Option.bind_eq_some_iff.mp H
      obtain ⟨⟨t435, t436, t437⟩, A500, H⟩ := H
      try dsimp only at H
      have A50 := ag17_ A500; clear A500
      simp only [Option.some.injEq, Prod.mk.injEq] at H
      obtain ⟨rfl, rfl, rfl, rfl, rfl, rfl⟩ := H
      go_wp2_with (first | ((with_reducible refine gate_callee (f := 102) rfl ?_); refine goesL_ (some 21) rfl rfl Tryd.func102 (by kernel_rfl) rfl #[.pointer (some ⟨g, 0, none⟩), .int .i64 30] rfl w5g17_ ?_; (with_reducible refine (spec_l01Next.calls g s0_0 x1001_3 x1002_3 30 t417 t418 t419 w0 _ ?side1 ?side2 A24.out).mono ?_); (case side1 => exact w1g17_); (case side2 => exact w3g17_); rintro e w51 ⟨rfl, hi, hb, hk⟩; refine ⟨_, rfl, ?_⟩; replace BK400 := ag17_ (KeepBut.blk hk (g' := gb400) (o := .cells #[.int .i64 0, .int .i64 0, .int .i64 0, .int .i64 0] 68 (0, 0)) w4g17_ NB400_0.out (by simp)); replace BK404 := ag17_ (KeepBut.blk hk (g' := gb404) (o := .cells #[.int .i64 x405000_3, .int .i64 x405001_3, .int .i64 x405002_3, .int .i64 t401] 68 (0, 0)) w6g17_ NB404_0.out (by simp)); replace HK := ag17_ (KeepBut.trans w2g17_ hk (.inl rfl)); replace HB := ag17_ (hb); replace HI0 := ag17_ (hi); clear hb hk hi) | ((with_reducible refine gate_dst (N := 37) rfl ?_); refine Kd.R_lit (Kd.int .i64) _ 2 ?hg (N := 37) ?hd (xs := ([(-1), 0, 1000000000, 1000000001] : List Int)) (inner := [.int .i64 (-1), .int .i64 0, .int .i64 1000000000, .int .i64 1000000001]) (ok := fun _ => True) (okp := fun _ => True) ?hr ?hp (fun _ hk => hk) trivial (Below.refl _ _) (Nat.le_refl _) (by simp) ?_; (case hd => rfl); (case hg => rfl); (case hr => first | (go_simp; done) | (go_simp; rfl)); (case hp => exact (by exact (Reps.one (show Kd.M (Kd.int .i64) _ _ _ (-1) [.int .i64 (-1)] from rfl) (Reps.one (show Kd.M (Kd.int .i64) _ _ _ 0 [.int .i64 0] from rfl) (Reps.one (show Kd.M (Kd.int .i64) _ _ _ 1000000000 [.int .i64 1000000000] from rfl) (Reps.one (show Kd.M (Kd.int .i64) _ _ _ 1000000001 [.int .i64 1000000001] from rfl) (Reps.none _ _))))))); intro v433 w52 ho53 hb hg_ hnew_; clear hg_ hnew_; (first | rw [← Ny432.out] at ho53 | (simp only [Int.reduceToNat] at ho53; rw [← Ny432.out] at ho53)); have n0_ := ag17_ (Kd.R_lower ho53 (keep_size (w := w) (g := g) (row := none) w2g17_)); have n1_ := ag17_ (blk_below w4g17_ hb); have n2_ := ag17_ (blk_below w6g17_ hb); have n3_ := ag17_ (IsS200.below w1g17_ hb); have n4_ := ag17_ (KeepBut.trans w2g17_ (KeepBut.of_below hb g none) (.inl rfl)); have n5_ := ag17_ (below_step w3g17_ hb); clear BK400; clear BK404; clear HI0; clear HK; clear HB; have HO434 := n0_; have BK400 := n1_; have BK404 := n2_; have HI0 := n3_; have HK := n4_; have HB := n5_; clear n0_ n1_ n2_ n3_ n4_ n5_; clear hb ho53; obtain ⟨Ao54, co54, eo54⟩ := Kd.R_slice HO434.out; subst eo54) | ((with_reducible refine gate_callee (f := 101) rfl ?_); refine goesL_ (some 38) rfl rfl Tryd.func101 (by kernel_rfl) rfl #[.pointer (some ⟨g, 0, none⟩), .slice Ao54 y432.length co54] rfl w5g17_ ?_; (with_reducible refine (spec_l01Pick.calls g s0_0 t418 t419 _ _ y432 t435 t436 t437 w0 _ ?side1 ?side2 ?side3 ?side4 ?side5 A50.out).mono ?_); (case side1 => exact w1g17_); (case side2 => exact w3g17_); (case side3 => exact (by repeat (first | exact (Kd.R_reads' HO434.out).2.2 | (with_reducible refine Kd.C_alloc ?_ _) | (with_reducible refine Kd.C_drewN ?_ _) | (with_reducible refine Kd.C_drew ?_)))); (case side4 => exact (Kd.R_reads' HO434.out).2.1); (case side5 => exact far_slice (IsS200.own_ne HI0.out HO434.out (by decide))); rintro e w55 ⟨rfl, hi, hb, hk⟩; refine ⟨_, rfl, ?_⟩; have n0_ := ag17_ (KeepBut.blk hk (g' := gb400) (o := .cells #[.int .i64 0, .int .i64 0, .int .i64 0, .int .i64 0] 68 (0, 0)) w4g17_ NB400_0.out (by simp)); have n1_ := ag17_ (KeepBut.blk hk (g' := gb404) (o := .cells #[.int .i64 x405000_3, .int .i64 x405001_3, .int .i64 x405002_3, .int .i64 t401] 68 (0, 0)) w6g17_ NB404_0.out (by simp)); have n2_ := ag17_ (Kd.R_mono (Kd.R_keep (IsS200.apart (show IsS200 w0 _ g s0_0 t418 t419 from w1g17_) (by (with_reducible repeat (first | apply Kd.R_alloc | apply Kd.R_drewN | apply Kd.R_drew)); exact HO434.out) (by decide)) hk (fun _ h => h.2)) (fun _ h => h.1)); have n3_ := ag17_ (KeepBut.trans w2g17_ hk (.inl rfl)); have n4_ := ag17_ (hb); have n5_ := ag17_ (hi); clear BK400; clear BK404; clear HO434; clear HK; clear HB; clear HI0; have BK400 := n0_; have BK404 := n1_; have HO434 := n2_; have HK := n3_; have HB := n4_; have HI0 := n5_; clear n0_ n1_ n2_ n3_ n4_ n5_; clear hb hk hi; have hnb56 := NB404_400.out; have hnc56 := NB400_404.out; have hnb57 := NB404_0.out; have hnc57 := NB0_404.out; obtain ⟨hcz58_0, hcz58_1, hcz58_2, hcz58_3⟩ := blk4 BK404.out; obtain ⟨hfz58_0, hfz58_1, hfz58_2, hfz58_3⟩ := frz4 BK404.out; have hnb59 := NB400_0.out; have hnc59 := NB0_400.out; obtain ⟨hcz60_0, hcz60_1, hcz60_2, hcz60_3⟩ := blk4 BK400.out; obtain ⟨hfz60_0, hfz60_1, hfz60_2, hfz60_3⟩ := frz4 BK400.out))
      refine bodyPost_ret (results_cell_row rfl _ _ gb400 68 #[.int .i64 t435, .int .i64 x405001_3, .int .i64 x405002_3, .int .i64 t401] (0, 0) _ rfl (by (with_reducible repeat (first | refine blk_drewN ?_ _ | refine blk_drew ?_ | refine blk_alloc ?_ _)); refine blk_put (cs := #[.int .i64 t435, .int .i64 x405001_3, .int .i64 x405002_3, .int .i64 0]) ?_ 3 _ rfl; (with_reducible repeat (first | refine blk_drewN ?_ _ | refine blk_drew ?_ | refine blk_alloc ?_ _)); refine blk_put (cs := #[.int .i64 t435, .int .i64 x405001_3, .int .i64 0, .int .i64 0]) ?_ 2 _ rfl; (with_reducible repeat (first | refine blk_drewN ?_ _ | refine blk_drew ?_ | refine blk_alloc ?_ _)); refine blk_put (cs := #[.int .i64 t435, .int .i64 0, .int .i64 0, .int .i64 0]) ?_ 1 _ rfl; (with_reducible repeat (first | refine blk_drewN ?_ _ | refine blk_drew ?_ | refine blk_alloc ?_ _)); refine blk_put (cs := #[.int .i64 0, .int .i64 0, .int .i64 0, .int .i64 0]) ?_ 0 _ rfl; (with_reducible repeat (first | refine blk_far ?_ NB400_404.out _ | refine blk_drewN ?_ _ | refine blk_drew ?_ | refine blk_alloc ?_ _)); exact BK400.out) Tryd.underlying68 rfl (by kernel_rfl)) rfl ?_
      exact ⟨w12g17_, w1g17_, w3g17_, w2g17_⟩
     ·
      rw [if_neg c49] at H
      have c49b0 : (t417 == 2) = false := beq_eq_false_iff_ne.mpr c49; have c49b1 : (t417 != 2) = true := bne_iff_ne.mpr c49
      simp only [Option.some.injEq, Prod.mk.injEq] at H
      obtain ⟨rfl, rfl, rfl, rfl, rfl, rfl⟩ := H
      go_wp2_with (first | ((with_reducible refine gate_callee (f := 102) rfl ?_); refine goesL_ (some 21) rfl rfl Tryd.func102 (by kernel_rfl) rfl #[.pointer (some ⟨g, 0, none⟩), .int .i64 30] rfl w5g17_ ?_; (with_reducible refine (spec_l01Next.calls g s0_0 x1001_3 x1002_3 30 t417 t418 t419 w0 _ ?side1 ?side2 A24.out).mono ?_); (case side1 => exact w1g17_); (case side2 => exact w3g17_); rintro e w61 ⟨rfl, hi, hb, hk⟩; refine ⟨_, rfl, ?_⟩; replace BK400 := ag17_ (KeepBut.blk hk (g' := gb400) (o := .cells #[.int .i64 0, .int .i64 0, .int .i64 0, .int .i64 0] 68 (0, 0)) w4g17_ NB400_0.out (by simp)); replace BK404 := ag17_ (KeepBut.blk hk (g' := gb404) (o := .cells #[.int .i64 x405000_3, .int .i64 x405001_3, .int .i64 x405002_3, .int .i64 t401] 68 (0, 0)) w6g17_ NB404_0.out (by simp)); replace HK := ag17_ (KeepBut.trans w2g17_ hk (.inl rfl)); replace HB := ag17_ (hb); replace HI0 := ag17_ (hi); clear hb hk hi; have hnb62 := NB404_400.out; have hnc62 := NB400_404.out; have hnb63 := NB404_0.out; have hnc63 := NB0_404.out; obtain ⟨hcz64_0, hcz64_1, hcz64_2, hcz64_3⟩ := blk4 BK404.out; obtain ⟨hfz64_0, hfz64_1, hfz64_2, hfz64_3⟩ := frz4 BK404.out; have hnb65 := NB400_0.out; have hnc65 := NB0_400.out; obtain ⟨hcz66_0, hcz66_1, hcz66_2, hcz66_3⟩ := blk4 BK400.out; obtain ⟨hfz66_0, hfz66_1, hfz66_2, hfz66_3⟩ := frz4 BK400.out))
      refine bodyPost_ret (results_cell_row rfl _ _ gb400 68 #[.int .i64 x405000_3, .int .i64 x405001_3, .int .i64 x405002_3, .int .i64 t401] (0, 0) _ rfl (by (with_reducible repeat (first | refine blk_drewN ?_ _ | refine blk_drew ?_ | refine blk_alloc ?_ _)); refine blk_put (cs := #[.int .i64 x405000_3, .int .i64 x405001_3, .int .i64 x405002_3, .int .i64 0]) ?_ 3 _ rfl; (with_reducible repeat (first | refine blk_drewN ?_ _ | refine blk_drew ?_ | refine blk_alloc ?_ _)); refine blk_put (cs := #[.int .i64 x405000_3, .int .i64 x405001_3, .int .i64 0, .int .i64 0]) ?_ 2 _ rfl; (with_reducible repeat (first | refine blk_drewN ?_ _ | refine blk_drew ?_ | refine blk_alloc ?_ _)); refine blk_put (cs := #[.int .i64 x405000_3, .int .i64 0, .int .i64 0, .int .i64 0]) ?_ 1 _ rfl; (with_reducible repeat (first | refine blk_drewN ?_ _ | refine blk_drew ?_ | refine blk_alloc ?_ _)); refine blk_put (cs := #[.int .i64 0, .int .i64 0, .int .i64 0, .int .i64 0]) ?_ 0 _ rfl; (with_reducible repeat (first | refine blk_drewN ?_ _ | refine blk_drew ?_ | refine blk_alloc ?_ _)); exact BK400.out) Tryd.underlying68 rfl (by kernel_rfl)) rfl ?_
      exact ⟨w12g17_, w1g17_, w3g17_, w2g17_⟩
end Go.Proofs.YtoiioapkebglgaaDoor.PG
end
section
namespace Go.Proofs.YtoiioapkebglgaaDoor.PG
open Go.RowKit Go.Proofs.YtoiioapkebglgaaDoorW.PrintWords Go.Proofs.YtoiioapkebglgaaDoorW.PrintLast Go.Proofs.YtoiioapkebglgaaDoorW.PrintMore
attribute [local go_sem] max2_int min2_int max_two min_two max_three min_three max_four min_four   -- for this text's walks alone
set_option linter.unusedVariables false
set_option linter.unusedSimpArgs false
def spec_DrawMakeEntry.f (k : Nat) (l0 : List Int) : Option (Int × Int × Int × Int × Int × Int) := (spec_l01From.f k l0).bind fun bt440 => ((spec_l29DrawMachine.f k bt440.1 bt440.2.1 bt440.2.2).bind fun bt444 => ((spec_l29DrawEntry.f k bt440.1 bt444.2.2.2.2.1 bt444.2.2.2.2.2 bt444.1 bt444.2.1 bt444.2.2.1 bt444.2.2.2.1).bind fun bt451 => (some (bt444.1, bt444.2.1, bt444.2.2.1, bt444.2.2.2.1, bt451.1, bt451.2.1))))
theorem ag18_ {p : Prop} (h : p) : Aside0 p := ⟨h⟩
theorem w1g18_ {p : Prop} (h : p := by (with_reducible repeat (first | refine blk_drewN ?_ _ | refine blk_drew ?_ | refine blk_alloc ?_ _)); exact BK438.out) : p := h
theorem w2g18_ {p : Prop} (h : p := by (with_reducible repeat (first | refine blk_drewN ?_ _ | refine blk_drew ?_ | refine blk_alloc ?_ _)); exact BK439.out) : p := h
theorem w3g18_ {p : Prop} (h : p := by repeat (first | (with_reducible first | exact HI443.out | apply IsS200.alloc | apply IsS200.drewN | apply IsS200.drew | apply IsS200.set_1 | apply IsS200.set_2 | refine IsS200.far ?_ NB443_438.out _ | refine IsS200.far ?_ NB443_439.out _) | exact HI443.out)) : p := h
theorem w4g18_ {p : Prop} (h : p := by repeat (first | (with_reducible first | exact HB.out | apply below_alloc | apply pw_below_drewN | apply below_drew1 | refine below_set ?_ (IsS200.ge HI443.out) | refine below_set ?_ GE438.out | refine below_set ?_ GE439.out) | exact HB.out)) : p := h
theorem w5g18_ {p : Prop} (h : p := by repeat (first | (with_reducible first | exact HB.out | apply below_alloc | apply pw_below_drewN | apply below_drew1 | refine below_set ?_ GE438.out) | exact HB.out)) : p := h
theorem w6g18_ {p : Prop} (h : p := by repeat (first | (with_reducible first | exact HB.out | apply below_alloc | apply pw_below_drewN | apply below_drew1 | refine below_set ?_ (IsS200.ge HI443.out) | refine below_set ?_ GE438.out | refine below_set ?_ GE439.out | refine below_set ?_ GE450.out) | exact HB.out)) : p := h
theorem w7g18_ {p : Prop} (h : p := by (try simp only [List.map_toArray, List.map_cons, List.map_nil]); first | done | rfl | (simp only [List.length_drop, List.length_take]; rfl)) : p := h
theorem w8g18_ {p : Prop} (h : p := by repeat (first | (with_reducible first | exact HB.out | apply below_alloc | apply pw_below_drewN | apply below_drew1) | exact HB.out)) : p := h
set_option maxHeartbeats 8000000 in
set_option maxRecDepth 100000 in
theorem spec_DrawMakeEntry.calls (k : Nat) (A0 : Option Addr) (c0 : Nat) (l0 : List Int) (r1 : Int) (r2 : Int) (r3 : Int) (r4 : Int) (r5 : Int) (r6 : Int) (w : World) (hr0 : Kd.C (Kd.int .u8) w A0 l0.length l0) (hc0 : l0.length ≤ c0) (h : spec_DrawMakeEntry.f k l0 = some (r1, r2, r3, r4, r5, r6)) :
 Calls Tryd.prog 35 #[.slice A0 l0.length c0] w fun e w' => e = .returned (.tuple #[.agg #[.int .i64 r1, .int .i64 r2, .int .i64 r3, .int .i64 r4], .agg #[.int .i64 r5, .int .i64 r6]]) ∧ Below w.heap.size w w' := by
 have hu68 := Tryd.underlying68; have hu70 := Tryd.underlying70; have HR0 := ag18_ hr0; have HC0 := ag18_ hc0; clear hr0 hc0; have HB := ag18_ (Below.refl w.heap.size w); have H : ((spec_l01From.f k l0).bind fun bt440 => ((spec_l29DrawMachine.f k bt440.1 bt440.2.1 bt440.2.2).bind fun bt444 => ((spec_l29DrawEntry.f k bt440.1 bt444.2.2.2.2.1 bt444.2.2.2.2.2 bt444.1 bt444.2.1 bt444.2.2.1 bt444.2.2.2.1).bind fun bt451 => (some (bt444.1, bt444.2.1, bt444.2.2.1, bt444.2.2.2.1, bt451.1, bt451.2.1))))) = some (r1, r2, r3, r4, r5, r6) := h; clear h
 replace H := Option.bind_eq_some_iff.mp H
 obtain ⟨⟨t440, t441, t442⟩, A20, H⟩ := H
 try dsimp only at H
 have A2 := ag18_ A20; clear A20
 replace H := Option.bind_eq_some_iff.mp H
 obtain ⟨⟨t444, t445, t446, t447, t448, t449⟩, A30, H⟩ := H
 try dsimp only at H
 have A3 := ag18_ A30; clear A30
 replace H := Option.bind_eq_some_iff.mp H
 obtain ⟨⟨t451, t452, t453, t454⟩, A40, H⟩ := H
 try dsimp only at H
 have A4 := ag18_ A40; clear A40
 simp only [Option.some.injEq, Prod.mk.injEq] at H
 obtain ⟨rfl, rfl, rfl, rfl, rfl, rfl⟩ := H
 go_enter Tryd.func35, Tryd.ntmps35
 try go_wp2_with (first | ((with_reducible refine gate_dst (N := 2) rfl ?_); refine be_ (N := 2) (cs := #[.int .i64 0, .int .i64 0, .int .i64 0, .int .i64 0]) (t := 68) ?_; intro gb438 hg w5 hbox hb; have BK438 := ag18_ (hbox); have GW438 := gw_ (w := w) hg w8g18_; have GE438 := gw_ (w := w) hg w8g18_; replace HB := ag18_ (below_step w8g18_ hb); clear hb hbox hg) | ((with_reducible refine gate_dst (N := 3) rfl ?_); refine be_ (N := 3) (cs := #[.int .i64 0, .int .i64 0]) (t := 70) ?_; intro gb439 hg w6 hbox hb; have BK439 := ag18_ (hbox); have GW439 := gw_ (w := w) hg w5g18_; have GE439 := gw_ (w := w) hg w5g18_; obtain ⟨NB438_439, NB439_438⟩ := nb2_ hg w1g18_; replace BK438 := ag18_ (blk_below w1g18_ hb); replace HB := ag18_ (below_step w5g18_ hb); clear hb hbox hg) | ((with_reducible refine gate_callee (f := 99) rfl ?_); refine goesL_ (some 7) rfl rfl Tryd.func99 (by kernel_rfl) rfl #[.slice A0 l0.length c0] rfl w7g18_ ?_; (with_reducible refine (spec_l01From.calls k _ _ l0 t440 t441 t442 w _ ?side1 ?side2 ?side3 A2.out).mono ?_); (case side1 => exact (by repeat (first | (with_reducible first | exact HB.out | apply below_alloc | apply pw_below_drewN | apply below_drew1 | refine below_set ?_ GE438.out | refine below_set ?_ GE439.out) | exact HB.out))); (case side2 => exact HR0.out); (case side3 => exact HC0.out); rintro e w7 ⟨g443, rfl, hi, hb, hb2⟩; refine ⟨_, rfl, ?_⟩; have HI443 := ag18_ (hi); have NB443_438 := ag18_ (IsS200.ne_blk hi (blk_below w1g18_ hb2) (by decide)); have NB438_443 := ag18_ (Ne.symm (IsS200.ne_blk hi (blk_below w1g18_ hb2) (by decide))); have NB443_439 := ag18_ (IsS200.ne_blk hi (blk_below w2g18_ hb2) (by decide)); have NB439_443 := ag18_ (Ne.symm (IsS200.ne_blk hi (blk_below w2g18_ hb2) (by decide))); replace BK438 := ag18_ (blk_below w1g18_ hb2); replace BK439 := ag18_ (blk_below w2g18_ hb2); replace HB := ag18_ (hb); (try clear hb); (try clear hb2); (try clear hk); (try clear hi)) | ((with_reducible refine gate_callee (f := 103) rfl ?_); refine goesL_ (some 9) rfl rfl Tryd.func103 (by kernel_rfl) rfl #[.pointer (some ⟨g443, 0, none⟩)] rfl w7g18_ ?_; (with_reducible refine (spec_l29DrawMachine.calls k g443 t440 t441 t442 t444 t445 t446 t447 t448 t449 w _ ?side1 ?side2 A3.out).mono ?_); (case side1 => exact w3g18_); (case side2 => exact w4g18_); rintro e w8 ⟨rfl, hi, hb, hk⟩; refine ⟨_, rfl, ?_⟩; replace BK438 := ag18_ (KeepBut.blk hk (g' := gb438) (o := .cells #[.int .i64 0, .int .i64 0, .int .i64 0, .int .i64 0] 68 (0, 0)) w1g18_ NB438_443.out (by simp)); replace BK439 := ag18_ (KeepBut.blk hk (g' := gb439) (o := .cells #[.int .i64 0, .int .i64 0] 70 (0, 0)) w2g18_ NB439_443.out (by simp)); replace HB := ag18_ (hb); replace HI443 := ag18_ (hi); clear hb hk hi) | ((with_reducible refine gate_dst (N := 5) rfl ?_); refine be_ (N := 5) (cs := #[.int .i64 0, .int .i64 0, .int .i64 0, .int .i64 0]) (t := 68) ?_; intro gb450 hg w9 hbox hb; have BK450 := ag18_ (hbox); have GW450 := gw_ (w := w) hg w4g18_; have GE450 := gw_ (w := w) hg w4g18_; obtain ⟨NB438_450, NB450_438⟩ := nb2_ hg w1g18_; obtain ⟨NB439_450, NB450_439⟩ := nb2_ hg w2g18_; have NB443_450 := ag18_ ((by rw [hg]; exact Nat.ne_of_lt (IsS200.lt (show IsS200 w _ g443 t440 t448 t449 from w3g18_)) : g443 ≠ gb450)); have NB450_443 := ag18_ ((by rw [hg]; exact Nat.ne_of_gt (IsS200.lt (show IsS200 w _ g443 t440 t448 t449 from w3g18_)) : gb450 ≠ g443)); replace BK438 := ag18_ (blk_below w1g18_ hb); replace BK439 := ag18_ (blk_below w2g18_ hb); replace HB := ag18_ (below_step w4g18_ hb); replace HI443 := ag18_ (IsS200.below w3g18_ hb); clear hb hbox hg; have hnb10 := NB450_438.out; have hnc10 := NB438_450.out; have hnb11 := NB450_439.out; have hnc11 := NB439_450.out; have hnb12 := NB450_443.out; have hnc12 := NB443_450.out; obtain ⟨hcz13_0, hcz13_1, hcz13_2, hcz13_3⟩ := blk4 BK450.out; obtain ⟨hfz13_0, hfz13_1, hfz13_2, hfz13_3⟩ := frz4 BK450.out))
 have n0_ : Aside0 (((((w9.setCell ⟨gb450, 0, none⟩ (.int .i64 t444)).setCell ⟨gb450, 1, none⟩ (.int .i64 t445)).setCell ⟨gb450, 2, none⟩ (.int .i64 t446)).setCell ⟨gb450, 3, none⟩ (.int .i64 t447)).heap[gb438]? = some (.cells #[.int .i64 0, .int .i64 0, .int .i64 0, .int .i64 0] 68 (0, 0))) := ⟨by (with_reducible repeat (first | refine blk_far ?_ NB438_450.out _ | refine blk_drewN ?_ _ | refine blk_drew ?_ | refine blk_alloc ?_ _)); exact BK438.out⟩
 have n1_ : Aside0 (((((w9.setCell ⟨gb450, 0, none⟩ (.int .i64 t444)).setCell ⟨gb450, 1, none⟩ (.int .i64 t445)).setCell ⟨gb450, 2, none⟩ (.int .i64 t446)).setCell ⟨gb450, 3, none⟩ (.int .i64 t447)).heap[gb439]? = some (.cells #[.int .i64 0, .int .i64 0] 70 (0, 0))) := ⟨by (with_reducible repeat (first | refine blk_far ?_ NB439_450.out _ | refine blk_drewN ?_ _ | refine blk_drew ?_ | refine blk_alloc ?_ _)); exact BK439.out⟩
 have n2_ : Aside0 (((((w9.setCell ⟨gb450, 0, none⟩ (.int .i64 t444)).setCell ⟨gb450, 1, none⟩ (.int .i64 t445)).setCell ⟨gb450, 2, none⟩ (.int .i64 t446)).setCell ⟨gb450, 3, none⟩ (.int .i64 t447)).heap[gb450]? = some (.cells #[.int .i64 t444, .int .i64 t445, .int .i64 t446, .int .i64 t447] 68 (0, 0))) := ⟨by (with_reducible repeat (first | refine blk_drewN ?_ _ | refine blk_drew ?_ | refine blk_alloc ?_ _)); refine blk_put (cs := #[.int .i64 t444, .int .i64 t445, .int .i64 t446, .int .i64 0]) ?_ 3 _ rfl; (with_reducible repeat (first | refine blk_drewN ?_ _ | refine blk_drew ?_ | refine blk_alloc ?_ _)); refine blk_put (cs := #[.int .i64 t444, .int .i64 t445, .int .i64 0, .int .i64 0]) ?_ 2 _ rfl; (with_reducible repeat (first | refine blk_drewN ?_ _ | refine blk_drew ?_ | refine blk_alloc ?_ _)); refine blk_put (cs := #[.int .i64 t444, .int .i64 0, .int .i64 0, .int .i64 0]) ?_ 1 _ rfl; (with_reducible repeat (first | refine blk_drewN ?_ _ | refine blk_drew ?_ | refine blk_alloc ?_ _)); refine blk_put (cs := #[.int .i64 0, .int .i64 0, .int .i64 0, .int .i64 0]) ?_ 0 _ rfl; (with_reducible repeat (first | refine blk_drewN ?_ _ | refine blk_drew ?_ | refine blk_alloc ?_ _)); exact BK450.out⟩
 have n3_ : Aside0 (IsS200 w ((((w9.setCell ⟨gb450, 0, none⟩ (.int .i64 t444)).setCell ⟨gb450, 1, none⟩ (.int .i64 t445)).setCell ⟨gb450, 2, none⟩ (.int .i64 t446)).setCell ⟨gb450, 3, none⟩ (.int .i64 t447)) g443 t440 t448 t449) := ⟨by repeat (first | (with_reducible first | exact HI443.out | apply IsS200.alloc | apply IsS200.drewN | apply IsS200.drew | apply IsS200.set_1 | apply IsS200.set_2 | refine IsS200.far ?_ NB443_438.out _ | refine IsS200.far ?_ NB443_439.out _ | refine IsS200.far ?_ NB443_450.out _) | exact HI443.out)⟩
 have n4_ : Aside0 (Below w.heap.size w ((((w9.setCell ⟨gb450, 0, none⟩ (.int .i64 t444)).setCell ⟨gb450, 1, none⟩ (.int .i64 t445)).setCell ⟨gb450, 2, none⟩ (.int .i64 t446)).setCell ⟨gb450, 3, none⟩ (.int .i64 t447))) := ⟨by repeat (first | (with_reducible first | exact HB.out | apply below_alloc | apply pw_below_drewN | apply below_drew1 | refine below_set ?_ (IsS200.ge HI443.out) | refine below_set ?_ GE438.out | refine below_set ?_ GE439.out | refine below_set ?_ GE450.out) | exact HB.out)⟩
 (try clear BK438)
 (try clear BK439)
 (try clear BK450)
 (try clear HI443)
 (try clear HB)
 generalize ((((w9.setCell ⟨gb450, 0, none⟩ (.int .i64 t444)).setCell ⟨gb450, 1, none⟩ (.int .i64 t445)).setCell ⟨gb450, 2, none⟩ (.int .i64 t446)).setCell ⟨gb450, 3, none⟩ (.int .i64 t447)) = w14 at n0_ n1_ n2_ n3_ n4_ ⊢
 have BK438 := n0_; have BK439 := n1_; have BK450 := n2_; have HI443 := n3_; have HB := n4_; clear n0_ n1_ n2_ n3_ n4_; have n0_ := ag18_ (blk_drew BK438.out); have n1_ := ag18_ (blk_drew BK439.out); have n2_ := ag18_ (blk_drew BK450.out); have n3_ := ag18_ (IsS200.drew HI443.out); have n4_ := ag18_ (below_drew1 HB.out); clear BK438 BK439 BK450 HI443 HB; have BK438 := n0_; have BK439 := n1_; have BK450 := n2_; have HI443 := n3_; have HB := n4_; clear n0_ n1_ n2_ n3_ n4_
 refine start_ (n := 6) (S := fun w' => w'.cell? ⟨gb450, 0, none⟩ = some (.int .i64 t444) ∧ w'.cell? ⟨gb450, 1, none⟩ = some (.int .i64 t445) ∧ w'.cell? ⟨gb450, 2, none⟩ = some (.int .i64 t446) ∧ w'.cell? ⟨gb450, 3, none⟩ = some (.int .i64 t447)) (ds := []) #[false, false, false, false, false, false] (by kernel_rfl) rfl rfl ⟨(blk_cell BK450.out 0).trans rfl, (blk_cell BK450.out 1).trans rfl, (blk_cell BK450.out 2).trans rfl, (blk_cell BK450.out 3).trans rfl⟩ (fun hHeld => ?_)
 generalize w14.drew = w15 at BK438 BK439 BK450 HI443 HB hHeld ⊢
 refine pd_ (i := 1) (N := some 11) #[false, true, false, false, false, false] rfl rfl (hc := by kernel_rfl) ?_
 refine td4_ (i := 0) (N := some 10) #[true, true, false, false, false, false] rfl rfl hHeld (hc := by kernel_rfl) ?_
 refine td4_ (i := 2) (N := some 12) #[true, true, true, false, false, false] rfl rfl hHeld (hc := by kernel_rfl) ?_
 refine one_ (i := 3) (N := some 13) #[true, true, true, true, false, false] rfl rfl (by kernel_rfl) (by decide) (fun K hK => ?_)
 refine goes_ Tryd.func104 (by kernel_rfl) rfl #[.pointer (some ⟨g443, 0, none⟩), .agg #[.int .i64 t444, .int .i64 t445, .int .i64 t446, .int .i64 t447]] (by rfl) rfl rfl w7g18_ ?_
 with_reducible refine (spec_l29DrawEntry.calls k g443 t440 t448 t449 t444 t445 t446 t447 t451 t452 t453 t454 w _ ?side1 ?side2 A4.out).mono ?_
 (case side1 => exact (by repeat (first | (with_reducible first | exact HI443.out | apply IsS200.alloc | apply IsS200.drewN | apply IsS200.drew | apply IsS200.set_1 | apply IsS200.set_2 | refine IsS200.far ?_ NB443_438.out _ | refine IsS200.far ?_ NB443_439.out _ | refine IsS200.far ?_ NB443_450.out _) | exact HI443.out)))
 (case side2 => exact w6g18_)
 rintro e w16 ⟨rfl, hi, hb, hk⟩
 refine ⟨_, rfl, ?_⟩
 have n0_ := ag18_ (KeepBut.blk hk (g' := gb438) (o := .cells #[.int .i64 0, .int .i64 0, .int .i64 0, .int .i64 0] 68 (0, 0)) w1g18_ NB438_443.out (by simp)); have n1_ := ag18_ (KeepBut.blk hk (g' := gb439) (o := .cells #[.int .i64 0, .int .i64 0] 70 (0, 0)) w2g18_ NB439_443.out (by simp)); have n2_ := ag18_ (KeepBut.blk hk (g' := gb450) (o := .cells #[.int .i64 t444, .int .i64 t445, .int .i64 t446, .int .i64 t447] 68 (0, 0)) (by (with_reducible repeat (first | refine blk_drewN ?_ _ | refine blk_drew ?_ | refine blk_alloc ?_ _)); exact BK450.out) NB450_443.out (by simp)); have n3_ := ag18_ (hb); have n4_ := ag18_ (hi); clear BK438 BK439 BK450 HB HI443; have BK438 := n0_; have BK439 := n1_; have BK450 := n2_; have HB := n3_; have HI443 := n4_; clear n0_ n1_ n2_ n3_ n4_
 (try clear hb)
 (try clear hb2)
 (try clear hk)
 (try clear hi)
 refine hK.out _ _ ⟨(blk_cell BK450.out 0).trans rfl, (blk_cell BK450.out 1).trans rfl, (blk_cell BK450.out 2).trans rfl, (blk_cell BK450.out 3).trans rfl⟩ (fun hHeld => ?_); clear hK K
 refine norm_ (a' := _) (by (show Act.put _ (some _) _ = _); simp only [Act.put, List.setIfInBounds_toArray, List.set_cons_zero, List.set_cons_succ, i64_w, i32_w]; rfl) ?_
 refine one_ (i := 4) (N := none) #[true, true, true, true, true, false] rfl rfl (by kernel_rfl) (by decide) (fun K hK => ?_)
 have hs17 : w16.cell? ⟨gb438, 0, none⟩ = some (.int .i64 0) := (blk_cell BK438.out 0).trans rfl; have hfs17 := blk_frozen BK438.out 0; have hns17_1 := NB439_438.out; have hns17_2 := NB450_438.out; have hms17_1 := NB438_439.out; have hms17_2 := NB438_450.out; have hs18 : w16.cell? ⟨gb438, 1, none⟩ = some (.int .i64 0) := (blk_cell BK438.out 1).trans rfl; have hfs18 := blk_frozen BK438.out 1; have hns18_1 := NB439_438.out; have hns18_2 := NB450_438.out; have hms18_1 := NB438_439.out; have hms18_2 := NB438_450.out; have hs19 : w16.cell? ⟨gb438, 2, none⟩ = some (.int .i64 0) := (blk_cell BK438.out 2).trans rfl; have hfs19 := blk_frozen BK438.out 2; have hns19_1 := NB439_438.out; have hns19_2 := NB450_438.out; have hms19_1 := NB438_439.out; have hms19_2 := NB438_450.out; have hs20 : w16.cell? ⟨gb438, 3, none⟩ = some (.int .i64 0) := (blk_cell BK438.out 3).trans rfl; have hfs20 := blk_frozen BK438.out 3; have hns20_1 := NB439_438.out; have hns20_2 := NB450_438.out; have hms20_1 := NB438_439.out; have hms20_2 := NB438_450.out
 refine skip_ (w1 := ?_) (by rfl) rfl ?_ ?_
 rotate_left
 ·
  go_simp
  rfl
 refine hK.out _ _ ⟨((cell_far (p := ⟨gb438, _, none⟩) NB450_438.out _).trans (((cell_far (p := ⟨gb438, _, none⟩) NB450_438.out _).trans (((cell_far (p := ⟨gb438, _, none⟩) NB450_438.out _).trans (((cell_far (p := ⟨gb438, _, none⟩) NB450_438.out _).trans (hHeld.1)))))))), ((cell_far (p := ⟨gb438, _, none⟩) NB450_438.out _).trans (((cell_far (p := ⟨gb438, _, none⟩) NB450_438.out _).trans (((cell_far (p := ⟨gb438, _, none⟩) NB450_438.out _).trans (((cell_far (p := ⟨gb438, _, none⟩) NB450_438.out _).trans (hHeld.2.1)))))))), ((cell_far (p := ⟨gb438, _, none⟩) NB450_438.out _).trans (((cell_far (p := ⟨gb438, _, none⟩) NB450_438.out _).trans (((cell_far (p := ⟨gb438, _, none⟩) NB450_438.out _).trans (((cell_far (p := ⟨gb438, _, none⟩) NB450_438.out _).trans (hHeld.2.2.1)))))))), ((cell_far (p := ⟨gb438, _, none⟩) NB450_438.out _).trans (((cell_far (p := ⟨gb438, _, none⟩) NB450_438.out _).trans (((cell_far (p := ⟨gb438, _, none⟩) NB450_438.out _).trans (((cell_far (p := ⟨gb438, _, none⟩) NB450_438.out _).trans (hHeld.2.2.2))))))))⟩ (fun hHeld => ?_); clear hK K
 refine one_ (i := 5) (N := none) #[true, true, true, true, true, true] rfl rfl (by kernel_rfl) (by decide) (fun K hK => ?_)
 have hs21 : w16.cell? ⟨gb439, 0, none⟩ = some (.int .i64 0) := (blk_cell BK439.out 0).trans rfl; have hfs21 := blk_frozen BK439.out 0; have hns21_0 := NB438_439.out; have hns21_2 := NB450_439.out; have hms21_0 := NB439_438.out; have hms21_2 := NB439_450.out; have hs22 : w16.cell? ⟨gb439, 1, none⟩ = some (.int .i64 0) := (blk_cell BK439.out 1).trans rfl; have hfs22 := blk_frozen BK439.out 1; have hns22_0 := NB438_439.out; have hns22_2 := NB450_439.out; have hms22_0 := NB439_438.out; have hms22_2 := NB439_450.out
 refine skip_ (w1 := ?_) (by rfl) rfl ?_ ?_
 rotate_left
 ·
  go_simp
  rfl
 refine hK.out _ _ ⟨((cell_far (p := ⟨gb439, _, none⟩) NB450_439.out _).trans (((cell_far (p := ⟨gb439, _, none⟩) NB450_439.out _).trans (hHeld.1)))), ((cell_far (p := ⟨gb439, _, none⟩) NB450_439.out _).trans (((cell_far (p := ⟨gb439, _, none⟩) NB450_439.out _).trans (hHeld.2.1)))), ((cell_far (p := ⟨gb439, _, none⟩) NB450_439.out _).trans (((cell_far (p := ⟨gb439, _, none⟩) NB450_439.out _).trans (hHeld.2.2.1)))), ((cell_far (p := ⟨gb439, _, none⟩) NB450_439.out _).trans (((cell_far (p := ⟨gb439, _, none⟩) NB450_439.out _).trans (hHeld.2.2.2))))⟩ (fun hHeld => ?_); clear hK K
 refine done_ (by kernel_rfl) ?_
 try go_wp2
 refine bodyPost_ret (results_cc rfl _ _ gb438 gb439 68 70 #[.int .i64 t444, .int .i64 t445, .int .i64 t446, .int .i64 t447] #[.int .i64 t451, .int .i64 t452] (0, 0) (0, 0) _ _ rfl (by (with_reducible repeat (first | refine blk_far ?_ NB438_439.out _ | refine blk_drewN ?_ _ | refine blk_drew ?_ | refine blk_alloc ?_ _)); refine blk_put (cs := #[.int .i64 t444, .int .i64 t445, .int .i64 t446, .int .i64 0]) ?_ 3 _ rfl; (with_reducible repeat (first | refine blk_drewN ?_ _ | refine blk_drew ?_ | refine blk_alloc ?_ _)); refine blk_put (cs := #[.int .i64 t444, .int .i64 t445, .int .i64 0, .int .i64 0]) ?_ 2 _ rfl; (with_reducible repeat (first | refine blk_drewN ?_ _ | refine blk_drew ?_ | refine blk_alloc ?_ _)); refine blk_put (cs := #[.int .i64 t444, .int .i64 0, .int .i64 0, .int .i64 0]) ?_ 1 _ rfl; (with_reducible repeat (first | refine blk_drewN ?_ _ | refine blk_drew ?_ | refine blk_alloc ?_ _)); refine blk_put (cs := #[.int .i64 0, .int .i64 0, .int .i64 0, .int .i64 0]) ?_ 0 _ rfl; (with_reducible repeat (first | refine blk_drewN ?_ _ | refine blk_drew ?_ | refine blk_alloc ?_ _)); exact BK438.out) Tryd.underlying68 rfl (by kernel_rfl) rfl (by (with_reducible repeat (first | refine blk_drewN ?_ _ | refine blk_drew ?_ | refine blk_alloc ?_ _)); refine blk_put (cs := #[.int .i64 t451, .int .i64 0]) ?_ 1 _ rfl; (with_reducible repeat (first | refine blk_drewN ?_ _ | refine blk_drew ?_ | refine blk_alloc ?_ _)); refine blk_put (cs := #[.int .i64 0, .int .i64 0]) ?_ 0 _ rfl; (with_reducible repeat (first | refine blk_far ?_ NB439_438.out _ | refine blk_drewN ?_ _ | refine blk_drew ?_ | refine blk_alloc ?_ _)); exact BK439.out) Tryd.underlying70 rfl (by kernel_rfl)) rfl ?_
 exact ⟨(by first | rfl | (simp [errW_none, errW_some] <;> rfl) | (simp [*, errW_none, errW_some] <;> rfl)), w6g18_⟩
end Go.Proofs.YtoiioapkebglgaaDoor.PG
end
