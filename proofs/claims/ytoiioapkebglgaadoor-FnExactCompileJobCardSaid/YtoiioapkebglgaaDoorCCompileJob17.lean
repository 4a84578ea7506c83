-- Gathered by this session's program wip/tool/shake.py out of its own texts and of what the kit's print and the session's patches of it wrote for this claim.
import Derived.Test.YtoiioapkebglgaaDoorCCompileJob3
import Derived.Test.YtoiioapkebglgaaDoorCCompileJob6
import Derived.Test.YtoiioapkebglgaaDoorCCompileJob10
import Derived.Test.YtoiioapkebglgaaDoorCCompileJob15
import Derived.Test.YtoiioapkebglgaaDoorCCompileJob16
section
namespace Go.Proofs.YtoiioapkebglgaaDoor.PH
open Go.RowKit Go.Proofs.YtoiioapkebglgaaDoorW.PrintWords Go.Proofs.YtoiioapkebglgaaDoorW.PrintLast Go.Proofs.YtoiioapkebglgaaDoorW.PrintMore
attribute [local go_sem] max2_int min2_int max_two min_two max_three min_three max_four min_four   -- for this text's walks alone
set_option linter.unusedVariables false
set_option linter.unusedSimpArgs false
mutual
def impl_CompileJob.j0 : Nat → ByteArray → Option (ByteArray × Int × Int × Int × Int × Int × Int × Int × Int × Int × Int × Int)
  | 0, _ => none
  | k + 1, x0 => (strings_Split.f x0 (⟨#[10]⟩ : ByteArray)).bind fun t290 => (if 0 ≤ (wrap64 ((t290.length : Int) - 1)) then (if (wrap64 ((t290.length : Int) - 1)) ≤ (t290.length : Int) then ((some (t290.take ((wrap64 ((t290.length : Int) - 1)) : Int).toNat : List ByteArray)).bind fun y297 => (impl_CompileJob.l0 k (([] : List ByteArray)) y297 (y297.length : Int) 0 (⟨#[]⟩ : ByteArray) 0 0 0 0 0 0 0 0 0)) else (none)) else (none))
def impl_CompileJob.l0 : Nat → List ByteArray → List ByteArray → Int → Int → ByteArray → Int → Int → Int → Int → Int → Int → Int → Int → Int → Option (ByteArray × Int × Int × Int × Int × Int × Int × Int × Int × Int × Int × Int)
  | 0, _, _, _, _, _, _, _, _, _, _, _, _, _, _ => none
  | k + 1, x7, x34, x35, x36, x297000, x297001, x297002, x297003, x297004, x297005, x297006, x297007, x297008, x297009 => if x36 < x35 then (if 0 ≤ x36 then (if x36 < (x34.length : Int) then ((impl_jobLine.f k x297000 x297001 x297002 x297003 x297004 x297005 x297006 x297007 x297008 x297009 (rdOf ByteArray.empty x34 x36)).bind fun bt301 => (if bt301.1.toList = ([] : List UInt8) then (impl_CompileJob.j2 k x7 x36 bt301.1 bt301.2.1 x34 x35 x36 false bt301.2.2.1 bt301.2.2.2.1 bt301.2.2.2.2.1 bt301.2.2.2.2.2.1 bt301.2.2.2.2.2.2.1 bt301.2.2.2.2.2.2.2.1 bt301.2.2.2.2.2.2.2.2.1 bt301.2.2.2.2.2.2.2.2.2.1 bt301.2.2.2.2.2.2.2.2.2.2.1 bt301.2.2.2.2.2.2.2.2.2.2.2) else ((slices_Contains_string_string.f k x7 bt301.1).bind fun t313 => (impl_CompileJob.j2 k x7 x36 bt301.1 bt301.2.1 x34 x35 x36 t313 bt301.2.2.1 bt301.2.2.2.1 bt301.2.2.2.2.1 bt301.2.2.2.2.2.1 bt301.2.2.2.2.2.2.1 bt301.2.2.2.2.2.2.2.1 bt301.2.2.2.2.2.2.2.2.1 bt301.2.2.2.2.2.2.2.2.2.1 bt301.2.2.2.2.2.2.2.2.2.2.1 bt301.2.2.2.2.2.2.2.2.2.2.2)))) else (none)) else (none)) else (if (x7.length : Int) < 6 then (some ((⟨#[]⟩ : ByteArray), 0, 0, 0, 0, 0, 0, 0, 0, 0, 0, 4)) else (some (x297000, x297001, x297002, x297003, x297004, x297005, x297006, x297007, x297008, x297009, 0, 0)))
def impl_CompileJob.j2 : Nat → List ByteArray → Int → ByteArray → Int → List ByteArray → Int → Int → Bool → ByteArray → Int → Int → Int → Int → Int → Int → Int → Int → Int → Option (ByteArray × Int × Int × Int × Int × Int × Int × Int × Int × Int × Int × Int)
  | 0, _, _, _, _, _, _, _, _, _, _, _, _, _, _, _, _, _, _ => none
  | k + 1, x7, x8, x10, x11, x34, x35, x36, x52, x297000, x297001, x297002, x297003, x297004, x297005, x297006, x297007, x297008, x297009 => if x52 = true then (if 5 = 0 then (if x7.length < 8796093022208 then (impl_CompileJob.l0 k (x7 ++ [x10]) x34 x35 (wrap64 (x36 + 1)) x297000 x297001 x297002 x297003 x297004 x297005 x297006 x297007 x297008 x297009) else (none)) else (some ((⟨#[]⟩ : ByteArray), 0, 0, 0, 0, 0, 0, 0, 0, 0, wrap64 (x8 + 1), 5))) else (if x11 = 0 then (if x7.length < 8796093022208 then (impl_CompileJob.l0 k (x7 ++ [x10]) x34 x35 (wrap64 (x36 + 1)) x297000 x297001 x297002 x297003 x297004 x297005 x297006 x297007 x297008 x297009) else (none)) else (some ((⟨#[]⟩ : ByteArray), 0, 0, 0, 0, 0, 0, 0, 0, 0, wrap64 (x8 + 1), x11)))
end
def impl_CompileJob.f (k : Nat) (a0 : ByteArray) : Option (ByteArray × Int × Int × Int × Int × Int × Int × Int × Int × Int × Int × Int) := if (a0.size : Int) > 1000 then (some ((⟨#[]⟩ : ByteArray), 0, 0, 0, 0, 0, 0, 0, 0, 0, 0, 3)) else (if a0.toList = ([] : List UInt8) then (impl_CompileJob.j0 k a0) else ((strings_HasSuffix.f a0 (⟨#[10]⟩ : ByteArray)).bind fun t289 => (if t289 = true then (impl_CompileJob.j0 k a0) else (some ((⟨#[]⟩ : ByteArray), 0, 0, 0, 0, 0, 0, 0, 0, 0, 0, 6)))))
theorem ah12_ {p : Prop} (h : p) : Aside0 p := ⟨h⟩
abbrev c0h12_ : Array Value := #[.string (⟨#[]⟩ : ByteArray), .int .i64 0, .int .i64 0, .int .i64 0, .int .i64 0, .int .i64 0, .int .i64 0, .int .i64 0, .int .i64 0, .int .i64 0]
theorem w1h12_ {p : Prop} (h : p := by (with_reducible repeat (first | refine blk_drewN ?_ _ | refine blk_drew ?_ | refine blk_alloc ?_ _)); refine blk_put (cs := #[.string (⟨#[]⟩ : ByteArray), .int .i64 0, .int .i64 0, .int .i64 0, .int .i64 0, .int .i64 0, .int .i64 0, .int .i64 0, .int .i64 0, .int .i64 x289009_2]) ?_ 9 _ rfl; (with_reducible repeat (first | refine blk_drewN ?_ _ | refine blk_drew ?_ | refine blk_alloc ?_ _)); refine blk_put (cs := #[.string (⟨#[]⟩ : ByteArray), .int .i64 0, .int .i64 0, .int .i64 0, .int .i64 0, .int .i64 0, .int .i64 0, .int .i64 0, .int .i64 x289008_2, .int .i64 x289009_2]) ?_ 8 _ rfl; (with_reducible repeat (first | refine blk_drewN ?_ _ | refine blk_drew ?_ | refine blk_alloc ?_ _)); refine blk_put (cs := #[.string (⟨#[]⟩ : ByteArray), .int .i64 0, .int .i64 0, .int .i64 0, .int .i64 0, .int .i64 0, .int .i64 0, .int .i64 x289007_2, .int .i64 x289008_2, .int .i64 x289009_2]) ?_ 7 _ rfl; (with_reducible repeat (first | refine blk_drewN ?_ _ | refine blk_drew ?_ | refine blk_alloc ?_ _)); refine blk_put (cs := #[.string (⟨#[]⟩ : ByteArray), .int .i64 0, .int .i64 0, .int .i64 0, .int .i64 0, .int .i64 0, .int .i64 x289006_2, .int .i64 x289007_2, .int .i64 x289008_2, .int .i64 x289009_2]) ?_ 6 _ rfl; (with_reducible repeat (first | refine blk_drewN ?_ _ | refine blk_drew ?_ | refine blk_alloc ?_ _)); refine blk_put (cs := #[.string (⟨#[]⟩ : ByteArray), .int .i64 0, .int .i64 0, .int .i64 0, .int .i64 0, .int .i64 x289005_2, .int .i64 x289006_2, .int .i64 x289007_2, .int .i64 x289008_2, .int .i64 x289009_2]) ?_ 5 _ rfl; (with_reducible repeat (first | refine blk_drewN ?_ _ | refine blk_drew ?_ | refine blk_alloc ?_ _)); refine blk_put (cs := #[.string (⟨#[]⟩ : ByteArray), .int .i64 0, .int .i64 0, .int .i64 0, .int .i64 x289004_2, .int .i64 x289005_2, .int .i64 x289006_2, .int .i64 x289007_2, .int .i64 x289008_2, .int .i64 x289009_2]) ?_ 4 _ rfl; (with_reducible repeat (first | refine blk_drewN ?_ _ | refine blk_drew ?_ | refine blk_alloc ?_ _)); refine blk_put (cs := #[.string (⟨#[]⟩ : ByteArray), .int .i64 0, .int .i64 0, .int .i64 x289003_2, .int .i64 x289004_2, .int .i64 x289005_2, .int .i64 x289006_2, .int .i64 x289007_2, .int .i64 x289008_2, .int .i64 x289009_2]) ?_ 3 _ rfl; (with_reducible repeat (first | refine blk_drewN ?_ _ | refine blk_drew ?_ | refine blk_alloc ?_ _)); refine blk_put (cs := #[.string (⟨#[]⟩ : ByteArray), .int .i64 0, .int .i64 x289002_2, .int .i64 x289003_2, .int .i64 x289004_2, .int .i64 x289005_2, .int .i64 x289006_2, .int .i64 x289007_2, .int .i64 x289008_2, .int .i64 x289009_2]) ?_ 2 _ rfl; (with_reducible repeat (first | refine blk_drewN ?_ _ | refine blk_drew ?_ | refine blk_alloc ?_ _)); refine blk_put (cs := #[.string (⟨#[]⟩ : ByteArray), .int .i64 x289001_2, .int .i64 x289002_2, .int .i64 x289003_2, .int .i64 x289004_2, .int .i64 x289005_2, .int .i64 x289006_2, .int .i64 x289007_2, .int .i64 x289008_2, .int .i64 x289009_2]) ?_ 1 _ rfl; (with_reducible repeat (first | refine blk_drewN ?_ _ | refine blk_drew ?_ | refine blk_alloc ?_ _)); refine blk_put (cs := #[.string x289000_2, .int .i64 x289001_2, .int .i64 x289002_2, .int .i64 x289003_2, .int .i64 x289004_2, .int .i64 x289005_2, .int .i64 x289006_2, .int .i64 x289007_2, .int .i64 x289008_2, .int .i64 x289009_2]) ?_ 0 _ rfl; (with_reducible repeat (first | refine blk_drewN ?_ _ | refine blk_drew ?_ | refine blk_alloc ?_ _)); exact BK288.out) : p := h
theorem w2h12_ {p : Prop} (h : p := by repeat (first | (with_reducible first | exact HI296.out | apply IsS43.alloc | apply IsS43.drewN | apply IsS43.drew | apply IsS43.set_0 | apply IsS43.set_1 | apply IsS43.set_2 | apply IsS43.set_3 | apply IsS43.set_4 | apply IsS43.set_5 | apply IsS43.set_6 | apply IsS43.set_7 | apply IsS43.set_8 | apply IsS43.set_9 | refine IsS43.far ?_ NB296_288.out _) | exact HI296.out)) : p := h
theorem w3h12_ {p : Prop} (h : p := by repeat (first | (with_reducible first | exact HB.out | apply below_alloc | apply pw_below_drewN | apply below_drew1 | refine below_set ?_ (IsS43.ge HI296.out) | refine below_set ?_ GE288.out) | exact HB.out)) : p := h
theorem w4h12_ {p : Prop} (h : p := by repeat (first | (with_reducible first | exact HB.out | apply below_alloc | apply pw_below_drewN | apply below_drew1 | refine below_set ?_ GE288.out) | exact HB.out)) : p := h
theorem w5h12_ {p : Prop} (h : p := by (with_reducible repeat (first | refine blk_drewN ?_ _ | refine blk_drew ?_ | refine blk_alloc ?_ _)); refine blk_put (cs := c0h12_) ?_ 9 _ rfl; (with_reducible repeat (first | refine blk_drewN ?_ _ | refine blk_drew ?_ | refine blk_alloc ?_ _)); refine blk_put (cs := c0h12_) ?_ 8 _ rfl; (with_reducible repeat (first | refine blk_drewN ?_ _ | refine blk_drew ?_ | refine blk_alloc ?_ _)); refine blk_put (cs := c0h12_) ?_ 7 _ rfl; (with_reducible repeat (first | refine blk_drewN ?_ _ | refine blk_drew ?_ | refine blk_alloc ?_ _)); refine blk_put (cs := c0h12_) ?_ 6 _ rfl; (with_reducible repeat (first | refine blk_drewN ?_ _ | refine blk_drew ?_ | refine blk_alloc ?_ _)); refine blk_put (cs := c0h12_) ?_ 5 _ rfl; (with_reducible repeat (first | refine blk_drewN ?_ _ | refine blk_drew ?_ | refine blk_alloc ?_ _)); refine blk_put (cs := c0h12_) ?_ 4 _ rfl; (with_reducible repeat (first | refine blk_drewN ?_ _ | refine blk_drew ?_ | refine blk_alloc ?_ _)); refine blk_put (cs := c0h12_) ?_ 3 _ rfl; (with_reducible repeat (first | refine blk_drewN ?_ _ | refine blk_drew ?_ | refine blk_alloc ?_ _)); refine blk_put (cs := c0h12_) ?_ 2 _ rfl; (with_reducible repeat (first | refine blk_drewN ?_ _ | refine blk_drew ?_ | refine blk_alloc ?_ _)); refine blk_put (cs := c0h12_) ?_ 1 _ rfl; (with_reducible repeat (first | refine blk_drewN ?_ _ | refine blk_drew ?_ | refine blk_alloc ?_ _)); refine blk_put (cs := c0h12_) ?_ 0 _ rfl; (with_reducible repeat (first | refine blk_drewN ?_ _ | refine blk_drew ?_ | refine blk_alloc ?_ _)); exact BK288.out) : p := h
theorem w6h12_ {p : Prop} (h : p := by (with_reducible repeat (first | refine blk_drewN ?_ _ | refine blk_drew ?_ | refine blk_alloc ?_ _)); exact BK288.out) : p := h
theorem w7h12_ {p : Prop} (h : p := by first | rfl | (simp [errW_none, errW_some] <;> rfl) | (simp only [← hji13]; first | rfl | (simp [errW_none, errW_some] <;> rfl)) | (simp [*, errW_none, errW_some] <;> rfl)) : p := h
theorem w8h12_ {p : Prop} (h : p := by (with_reducible repeat (first | apply Kd.R_alloc | apply Kd.R_drewN | apply Kd.R_drew)); exact HO_34.out) : p := h
theorem w9h12_ {p : Prop} (h : p := by (with_reducible repeat (first | apply Kd.R_alloc | apply Kd.R_drewN | apply Kd.R_drew)); exact HO_7.out) : p := h
theorem w10h12_ {p : Prop} (h : p := by repeat (first | (with_reducible first | exact HB.out | apply below_alloc | apply pw_below_drewN | apply below_drew1) | exact HB.out)) : p := h
theorem w11h12_ {p : Prop} (h : p := by (with_reducible repeat (first | apply Kd.R_alloc | apply Kd.R_drewN | apply Kd.R_drew)); exact HO292.out) : p := h
theorem w12h12_ {p : Prop} (h : p := by (try simp only [List.map_toArray, List.map_cons, List.map_nil]); first | done | rfl | (simp only [List.length_drop, List.length_take]; rfl)) : p := h
theorem w13h12_ {p : Prop} (h : p := by first | (with_reducible assumption) | assumption) : p := h
theorem w14h12_ {p : Prop} (h : p := by first | rfl | (simp; done) | (simp [*]; done)) : p := h
set_option maxHeartbeats 8000000 in
set_option maxRecDepth 100000 in
theorem impl_CompileJob.calls (k : Nat) (a0 : ByteArray) (r1 : ByteArray) (r2 : Int) (r3 : Int) (r4 : Int) (r5 : Int) (r6 : Int) (r7 : Int) (r8 : Int) (r9 : Int) (r10 : Int) (r11 : Int) (r12 : Int) (w : World) (h : impl_CompileJob.f k a0 = some (r1, r2, r3, r4, r5, r6, r7, r8, r9, r10, r11, r12)) (hT : TabW w) :
 Calls Tryd.prog 24 #[.string a0] w fun e w' => e = .returned (.tuple #[.agg #[.string r1, .int .i64 r2, .int .i64 r3, .int .i64 r4, .int .i64 r5, .int .i64 r6, .int .i64 r7, .int .i64 r8, .int .i64 r9, .int .i64 r10], .int .i64 r11, .int .i64 r12]) ∧ Below w.heap.size w w' := by
 have HT := ah12_ hT; clear hT; have hu43 := Tryd.underlying43; have HB := ah12_ (Below.refl w.heap.size w); have H : (if (a0.size : Int) > 1000 then (some ((⟨#[]⟩ : ByteArray), 0, 0, 0, 0, 0, 0, 0, 0, 0, 0, 3)) else (if a0.toList = ([] : List UInt8) then (impl_CompileJob.j0 k a0) else ((strings_HasSuffix.f a0 (⟨#[10]⟩ : ByteArray)).bind fun t289 => (if t289 = true then (impl_CompileJob.j0 k a0) else (some ((⟨#[]⟩ : ByteArray), 0, 0, 0, 0, 0, 0, 0, 0, 0, 0, 6)))))) = some (r1, r2, r3, r4, r5, r6, r7, r8, r9, r10, r11, r12) := h; clear h; have HC2 := ah12_ H; clear H
 go_enter Tryd.func24, Tryd.ntmps24
 go_upto_block 0 with (first | ((with_reducible refine gate_dst (N := 2) rfl ?_); refine box_event ?hg (N := 2) ?hd (cs := c0h12_) (t := 43) ?hr ?_; (case hd => rfl); (case hg => rfl); (case hr => first | (go_simp; done) | (go_simp; rfl)); intro gb288 hg w3 hbox hb; have BK288 := ah12_ (hbox); have GW288 := ah12_ ((by rw [hg]; exact (below_size w10h12_) : w.heap.size ≤ gb288)); have GE288 := ah12_ ((by rw [hg]; exact (below_size w10h12_) : w.heap.size ≤ gb288)); replace HB := ah12_ (below_step w10h12_ hb); clear hb hbox hg))
 (try simp only [Act.put, List.setIfInBounds_toArray, List.set_cons_zero, List.set_cons_succ])
 go_cut [] (fun wc => ∃ (kq : Nat) (x289000_1 : ByteArray) (x289001_1 : Int) (x289002_1 : Int) (x289003_1 : Int) (x289004_1 : Int) (x289005_1 : Int) (x289006_1 : Int) (x289007_1 : Int) (x289008_1 : Int) (x289009_1 : Int), Aside0 (impl_CompileJob.j0 kq a0 = some (r1, r2, r3, r4, r5, r6, r7, r8, r9, r10, r11, r12)) ∧ Aside0 (kq ≤ k) ∧ Aside0 (wc.heap[gb288]? = some (.cells #[.string x289000_1, .int .i64 x289001_1, .int .i64 x289002_1, .int .i64 x289003_1, .int .i64 x289004_1, .int .i64 x289005_1, .int .i64 x289006_1, .int .i64 x289007_1, .int .i64 x289008_1, .int .i64 x289009_1] 43 (0, 0))) ∧ Aside0 (Below w.heap.size w wc))
 case first =>
  have H := HC2.out; clear HC2
  by_cases c4 : (a0.size : Int) > 1000
  ·
   rw [if_pos c4] at H
   have c4b0 : decide (1000 < (a0.size : Int)) = true := decide_eq_true c4; have c4b1 : decide (1000 < a0.size) = true := decide_eq_true (by omega); clear c4
   (first | rw [c4b0] | (simp only [i64_w, i32_w]; rw [c4b0]) | skip)
   simp only [Option.some.injEq, Prod.mk.injEq] at H
   obtain ⟨rfl, rfl, rfl, rfl, rfl, rfl, rfl, rfl, rfl, rfl, rfl, rfl⟩ := H; have hcz5_0 : w3.cell? ⟨gb288, 0, none⟩ = some (.string (⟨#[]⟩ : ByteArray)) := (blk_cell BK288.out 0).trans rfl; have hcz5_1 : w3.cell? ⟨gb288, 1, none⟩ = some (.int .i64 0) := (blk_cell BK288.out 1).trans rfl; have hcz5_2 : w3.cell? ⟨gb288, 2, none⟩ = some (.int .i64 0) := (blk_cell BK288.out 2).trans rfl; have hcz5_3 : w3.cell? ⟨gb288, 3, none⟩ = some (.int .i64 0) := (blk_cell BK288.out 3).trans rfl; have hcz5_4 : w3.cell? ⟨gb288, 4, none⟩ = some (.int .i64 0) := (blk_cell BK288.out 4).trans rfl; have hcz5_5 : w3.cell? ⟨gb288, 5, none⟩ = some (.int .i64 0) := (blk_cell BK288.out 5).trans rfl; have hcz5_6 : w3.cell? ⟨gb288, 6, none⟩ = some (.int .i64 0) := (blk_cell BK288.out 6).trans rfl; have hcz5_7 : w3.cell? ⟨gb288, 7, none⟩ = some (.int .i64 0) := (blk_cell BK288.out 7).trans rfl; have hcz5_8 : w3.cell? ⟨gb288, 8, none⟩ = some (.int .i64 0) := (blk_cell BK288.out 8).trans rfl; have hcz5_9 : w3.cell? ⟨gb288, 9, none⟩ = some (.int .i64 0) := (blk_cell BK288.out 9).trans rfl; have hfz5_0 := blk_frozen BK288.out 0; have hfz5_1 := blk_frozen BK288.out 1; have hfz5_2 := blk_frozen BK288.out 2; have hfz5_3 := blk_frozen BK288.out 3; have hfz5_4 := blk_frozen BK288.out 4; have hfz5_5 := blk_frozen BK288.out 5; have hfz5_6 := blk_frozen BK288.out 6; have hfz5_7 := blk_frozen BK288.out 7; have hfz5_8 := blk_frozen BK288.out 8; have hfz5_9 := blk_frozen BK288.out 9
   go_wp2
   refine bodyPost_ret (results_ctt rfl _ _ gb288 43 c0h12_ (0, 0) _ rfl w5h12_ Tryd.underlying43 rfl (by kernel_rfl)) rfl ?_
   exact ⟨(by first | rfl | (simp [errW_none, errW_some] <;> rfl) | (simp [*, errW_none, errW_some] <;> rfl)), w4h12_⟩
  ·
   rw [if_neg c4] at H
   have c4b0 : decide (1000 < (a0.size : Int)) = false := decide_eq_false c4; have c4b1 : decide (1000 < a0.size) = false := decide_eq_false (by omega); clear c4
   (first | rw [c4b0] | (simp only [i64_w, i32_w]; rw [c4b0]) | skip)
   by_cases c6 : a0.toList = ([] : List UInt8)
   ·
    rw [if_pos c6] at H
    have c6b0 : (a0.toList == ([] : List UInt8)) = true := beq_iff_eq.mpr c6; have c6b1 : (a0.toList != ([] : List UInt8)) = false := bne_eq_false_iff_eq.mpr c6; clear c6; have H' := ah12_ H; clear H
    go_wp2
    go_meet
    case rel => exact ⟨_, ((⟨#[]⟩ : ByteArray)), (0), (0), (0), (0), (0), (0), (0), (0), (0), H', ⟨(by first | omega | exact Nat.le_refl _)⟩, ⟨w6h12_⟩, ⟨w4h12_⟩⟩
   ·
    rw [if_neg c6] at H
    have c6b0 : (a0.toList == ([] : List UInt8)) = false := beq_eq_false_iff_ne.mpr c6; have c6b1 : (a0.toList != ([] : List UInt8)) = true := bne_iff_ne.mpr c6
    replace H := Option.bind_eq_some_iff.mp H
    obtain ⟨t289, A70, H⟩ := H
    try dsimp only at H
    have A7 := ah12_ A70; clear A70
    by_cases c8 : t289 = true
    ·
     subst c8
     have H1 : (impl_CompileJob.j0 k a0) = some (r1, r2, r3, r4, r5, r6, r7, r8, r9, r10, r11, r12) := by rw [if_pos rfl] at H; exact H
     clear H; have H := H1; clear H1; have H' := ah12_ H; clear H
     go_wp2_with (first | (go_at_call 75; (with_reducible refine (strings_HasSuffix.calls a0 (⟨#[10]⟩ : ByteArray) true _ A7.out).mono ?_); rintro e w9 ⟨rfl, hb⟩; replace BK288 := ah12_ (blk_below (g := gb288) (o := .cells c0h12_ 43 (0, 0)) w6h12_ hb); replace HB := ah12_ (below_step w4h12_ hb); clear hb))
     go_meet
     case rel => exact ⟨_, ((⟨#[]⟩ : ByteArray)), (0), (0), (0), (0), (0), (0), (0), (0), (0), H', ⟨(by first | omega | exact Nat.le_refl _)⟩, ⟨w6h12_⟩, ⟨w4h12_⟩⟩
    ·
     replace c8 := Bool.eq_false_iff.mpr c8
     subst c8
     rw [if_neg (show ¬ (false = true) by decide)] at H
     simp only [Option.some.injEq, Prod.mk.injEq] at H
     obtain ⟨rfl, rfl, rfl, rfl, rfl, rfl, rfl, rfl, rfl, rfl, rfl, rfl⟩ := H
     go_wp2_with (first | (go_at_call 75; (with_reducible refine (strings_HasSuffix.calls a0 (⟨#[10]⟩ : ByteArray) false _ A7.out).mono ?_); rintro e w10 ⟨rfl, hb⟩; replace BK288 := ah12_ (blk_below (g := gb288) (o := .cells c0h12_ 43 (0, 0)) w6h12_ hb); replace HB := ah12_ (below_step w4h12_ hb); clear hb; have hcz11_0 : w10.cell? ⟨gb288, 0, none⟩ = some (.string (⟨#[]⟩ : ByteArray)) := (blk_cell BK288.out 0).trans rfl; have hcz11_1 : w10.cell? ⟨gb288, 1, none⟩ = some (.int .i64 0) := (blk_cell BK288.out 1).trans rfl; have hcz11_2 : w10.cell? ⟨gb288, 2, none⟩ = some (.int .i64 0) := (blk_cell BK288.out 2).trans rfl; have hcz11_3 : w10.cell? ⟨gb288, 3, none⟩ = some (.int .i64 0) := (blk_cell BK288.out 3).trans rfl; have hcz11_4 : w10.cell? ⟨gb288, 4, none⟩ = some (.int .i64 0) := (blk_cell BK288.out 4).trans rfl; have hcz11_5 : w10.cell? ⟨gb288, 5, none⟩ = some (.int .i64 0) := (blk_cell BK288.out 5).trans rfl; have hcz11_6 : w10.cell? ⟨gb288, 6, none⟩ = some (.int .i64 0) := (blk_cell BK288.out 6).trans rfl; have hcz11_7 : w10.cell? ⟨gb288, 7, none⟩ = some (.int .i64 0) := (blk_cell BK288.out 7).trans rfl; have hcz11_8 : w10.cell? ⟨gb288, 8, none⟩ = some (.int .i64 0) := (blk_cell BK288.out 8).trans rfl; have hcz11_9 : w10.cell? ⟨gb288, 9, none⟩ = some (.int .i64 0) := (blk_cell BK288.out 9).trans rfl; have hfz11_0 := blk_frozen BK288.out 0; have hfz11_1 := blk_frozen BK288.out 1; have hfz11_2 := blk_frozen BK288.out 2; have hfz11_3 := blk_frozen BK288.out 3; have hfz11_4 := blk_frozen BK288.out 4; have hfz11_5 := blk_frozen BK288.out 5; have hfz11_6 := blk_frozen BK288.out 6; have hfz11_7 := blk_frozen BK288.out 7; have hfz11_8 := blk_frozen BK288.out 8; have hfz11_9 := blk_frozen BK288.out 9))
     refine bodyPost_ret (results_ctt rfl _ _ gb288 43 c0h12_ (0, 0) _ rfl w5h12_ Tryd.underlying43 rfl (by kernel_rfl)) rfl ?_
     exact ⟨(by first | rfl | (simp [errW_none, errW_some] <;> rfl) | (simp [*, errW_none, errW_some] <;> rfl)), w4h12_⟩
 case rest =>
  clear HC2
  try clear c4
  try clear c4b0
  try clear c4b1
  try clear c6
  try clear c6b0
  try clear c6b1
  try clear c8
  try clear hcz11_0
  try clear hcz11_1
  try clear hcz11_2
  try clear hcz11_3
  try clear hcz11_4
  try clear hcz11_5
  try clear hcz11_6
  try clear hcz11_7
  try clear hcz11_8
  try clear hcz11_9
  try clear hcz5_0
  try clear hcz5_1
  try clear hcz5_2
  try clear hcz5_3
  try clear hcz5_4
  try clear hcz5_5
  try clear hcz5_6
  try clear hcz5_7
  try clear hcz5_8
  try clear hcz5_9
  try clear hfz11_0
  try clear hfz11_1
  try clear hfz11_2
  try clear hfz11_3
  try clear hfz11_4
  try clear hfz11_5
  try clear hfz11_6
  try clear hfz11_7
  try clear hfz11_8
  try clear hfz11_9
  try clear hfz5_0
  try clear hfz5_1
  try clear hfz5_2
  try clear hfz5_3
  try clear hfz5_4
  try clear hfz5_5
  try clear hfz5_6
  try clear hfz5_7
  try clear hfz5_8
  try clear hfz5_9
  obtain ⟨kq, x289000_1, x289001_1, x289002_1, x289003_1, x289004_1, x289005_1, x289006_1, x289007_1, x289008_1, x289009_1, HA, HJ1, BK288, HB⟩ := hcut
  cases kq with
  | zero => exact absurd HA.out (by simp [impl_CompileJob.j0])
  | succ kj1 =>
   have H := HA.out; clear HA
   simp only [impl_CompileJob.j0] at H
   replace H := Option.bind_eq_some_iff.mp H
   obtain ⟨t290, A120, H⟩ := H
   try dsimp only at H
   have A12 := ah12_ A120; clear A120; obtain ⟨y293, hy293⟩ : ∃ y_ : List ByteArray, y_ = (([] : List ByteArray)) := ⟨_, rfl⟩
   replace H : (if 0 ≤ (wrap64 ((t290.length : Int) - 1)) then (if (wrap64 ((t290.length : Int) - 1)) ≤ (t290.length : Int) then ((some (t290.take ((wrap64 ((t290.length : Int) - 1)) : Int).toNat : List ByteArray)).bind fun y297 => (impl_CompileJob.l0 kj1 y293 y297 (y297.length : Int) 0 (⟨#[]⟩ : ByteArray) 0 0 0 0 0 0 0 0 0)) else (none)) else (none)) = some (r1, r2, r3, r4, r5, r6, r7, r8, r9, r10, r11, r12) := by first | (rw [hy293]; with_reducible exact H) | (have H2_ := (Option.bind_some _ _).symm.trans H; rw [hy293]; with_reducible exact H2_) | (have H2_ := (Option.bind_some _ _).symm.trans H; with_reducible exact H2_) | with_reducible exact H | (rw [hy293]; exact H) | exact H
   have Ny293 := ah12_ hy293; clear hy293; obtain ⟨ji13, hji13⟩ : ∃ j_ : Int, (wrap64 ((t290.length : Int) - 1)) = j_ := ⟨_, rfl⟩
   replace H : (if 0 ≤ (ji13) then (if (ji13) ≤ (t290.length : Int) then ((some (t290.take ((ji13) : Int).toNat : List ByteArray)).bind fun y297 => (impl_CompileJob.l0 kj1 y293 y297 (y297.length : Int) 0 (⟨#[]⟩ : ByteArray) 0 0 0 0 0 0 0 0 0)) else (none)) else (none)) = some (r1, r2, r3, r4, r5, r6, r7, r8, r9, r10, r11, r12) := by first | (rw [hji13] at H; exact H) | (simp only [hji13] at H ⊢; exact H)
   (try rw [hji13] at A12)
   have hji13w : (IntKind.i64.wrap ((t290.length : Int) - 1)) = ji13 := (i64_w _).trans hji13
   by_cases c14 : 0 ≤ (ji13)
   ·
    rw [if_pos c14] at H
    have c14b0 := eq_true c14; have c14b1 : decide (0 ≤ (ji13)) = true := decide_eq_true c14; clear c14
    by_cases c15 : (ji13) ≤ (t290.length : Int)
    ·
     rw [if_pos c15] at H
     have c15b0 := eq_true c15; have c15b1 : decide ((ji13) ≤ (t290.length : Int)) = true := decide_eq_true c15; clear c15; obtain ⟨y297, hy297⟩ : ∃ y_ : List ByteArray, y_ = (t290.take ((ji13) : Int).toNat) := ⟨_, rfl⟩
     replace H : (impl_CompileJob.l0 kj1 y293 y297 (y297.length : Int) 0 (⟨#[]⟩ : ByteArray) 0 0 0 0 0 0 0 0 0) = some (r1, r2, r3, r4, r5, r6, r7, r8, r9, r10, r11, r12) := by first | (rw [hy297]; with_reducible exact H) | (have H2_ := (Option.bind_some _ _).symm.trans H; rw [hy297]; with_reducible exact H2_) | (have H2_ := (Option.bind_some _ _).symm.trans H; with_reducible exact H2_) | with_reducible exact H | (rw [hy297]; exact H) | exact H
     have Ny297 := ah12_ hy297; clear hy297; have H' := ah12_ H; clear H
     go_wp2_with (first | ((with_reducible refine gate_callee (f := 60) rfl ?_); refine goesL_ (some 27) rfl rfl Tryd.func60 (by kernel_rfl) rfl #[.string a0, .string (⟨#[10]⟩ : ByteArray)] rfl w12h12_ ?_; (with_reducible refine (strings_Split.calls a0 (⟨#[10]⟩ : ByteArray) t290 _ A12.out (tabw_below HT.out w4h12_)).mono ?_); rintro e w16 ⟨v291, rfl, ho0, hb⟩; refine ⟨_, rfl, ?_⟩; have n0_ := ah12_ (Kd.R_lower ho0 (below_size w4h12_)); have n1_ := ah12_ (blk_below w6h12_ hb); have n2_ := ah12_ (below_step w4h12_ hb); clear BK288; clear HB; have HO292 := n0_; have BK288 := n1_; have HB := n2_; clear n0_ n1_ n2_; (try clear hb); (try clear hb2); (try clear hk); (try clear hi); (try clear ho0)) | ((with_reducible refine gate_dst (N := 29) rfl ?_); refine Kd.R_lit Kd.string _ 9 ?hg (N := 29) ?hd (xs := ([] : List ByteArray)) (inner := []) (ok := fun _ => True) (okp := fun _ => True) ?hr ?hp (fun _ hk => hk) trivial (Below.refl _ _) (Nat.le_refl _) (by simp) ?_; (case hd => rfl); (case hg => rfl); (case hr => first | (go_simp; done) | (go_simp; rfl)); (case hp => exact (Reps.none _ _)); intro v294 w17 ho18 hb hg_ hnew_; clear hg_ hnew_; (first | rw [← Ny293.out] at ho18 | (simp only [Int.reduceToNat] at ho18; rw [← Ny293.out] at ho18)); have n0_ := ah12_ (Kd.R_elder' w11h12_ (Kd.R_base ho18) hb); have n1_ := ah12_ (Kd.R_lower (Kd.R_new' ho18 (Kd.R_lt w11h12_)) (below_size w4h12_)); have n2_ := ah12_ (blk_below w6h12_ hb); have n3_ := ah12_ (below_step w4h12_ hb); clear HO292; clear BK288; clear HB; have HO292 := n0_; have HO295 := n1_; have BK288 := n2_; have HB := n3_; clear n0_ n1_ n2_ n3_; clear hb ho18) | ((with_reducible refine gate_dst (N := 6) rfl ?_); refine box_event ?hg (N := 6) ?hd (cs := c0h12_) (t := 43) ?hr ?_; (case hd => rfl); (case hg => rfl); (case hr => first | (go_simp; done) | (go_simp; rfl)); intro gb296 hg w19 hbox hb; have GW296 := ah12_ ((by rw [hg]; exact (below_size w4h12_) : w.heap.size ≤ gb296)); have GE296 := ah12_ ((by rw [hg]; exact (below_size w4h12_) : w.heap.size ≤ gb296)); have NB288_296 := ah12_ ((by rw [hg]; exact Nat.ne_of_lt (blk_lt w6h12_) : gb288 ≠ gb296)); have NB296_288 := ah12_ ((by rw [hg]; exact Nat.ne_of_gt (blk_lt w6h12_) : gb296 ≠ gb288)); have HI296 := ah12_ ((show IsS43 w w19 gb296 (⟨#[]⟩ : ByteArray) 0 0 0 0 0 0 0 0 0 from ⟨hbox, by rw [hg]; exact (below_size w4h12_)⟩)); replace HO292 := ah12_ (Kd.R_below w11h12_ hb); replace HO295 := ah12_ (Kd.R_below (by (with_reducible repeat (first | apply Kd.R_alloc | apply Kd.R_drewN | apply Kd.R_drew)); exact HO295.out) hb); replace BK288 := ah12_ (blk_below w6h12_ hb); replace HB := ah12_ (below_step w4h12_ hb); clear hb hbox hg; obtain ⟨HGz20, hgz20⟩ := HI296.out; have hcz20_0 := cellS43_0 HGz20; have hcz20_1 := cellS43_1 HGz20; have hcz20_2 := cellS43_2 HGz20; have hcz20_3 := cellS43_3 HGz20; have hcz20_4 := cellS43_4 HGz20; have hcz20_5 := cellS43_5 HGz20; have hcz20_6 := cellS43_6 HGz20; have hcz20_7 := cellS43_7 HGz20; have hcz20_8 := cellS43_8 HGz20; have hcz20_9 := cellS43_9 HGz20; have hfz20_0 := blk_frozen HGz20 0; have hfz20_1 := blk_frozen HGz20 1; have hfz20_2 := blk_frozen HGz20 2; have hfz20_3 := blk_frozen HGz20 3; have hfz20_4 := blk_frozen HGz20 4; have hfz20_5 := blk_frozen HGz20 5; have hfz20_6 := blk_frozen HGz20 6; have hfz20_7 := blk_frozen HGz20 7; have hfz20_8 := blk_frozen HGz20 8; have hfz20_9 := blk_frozen HGz20 9; clear HGz20 hgz20) | ((with_reducible refine gate_store (t := 43) (p := 6) rfl ?_); refine store_event (t := 43) (p := 6) (v := ?vo_w21) (w1 := ((((((((((w19.setCell ⟨gb296, 0, none⟩ (.string (⟨#[]⟩ : ByteArray))).setCell ⟨gb296, 1, none⟩ (.int .i64 0)).setCell ⟨gb296, 2, none⟩ (.int .i64 0)).setCell ⟨gb296, 3, none⟩ (.int .i64 0)).setCell ⟨gb296, 4, none⟩ (.int .i64 0)).setCell ⟨gb296, 5, none⟩ (.int .i64 0)).setCell ⟨gb296, 6, none⟩ (.int .i64 0)).setCell ⟨gb296, 7, none⟩ (.int .i64 0)).setCell ⟨gb296, 8, none⟩ (.int .i64 0)).setCell ⟨gb296, 9, none⟩ (.int .i64 0))) ?hg ?ho ?hn ?hr ?_; (case ho => rfl); (case hg => rfl); (case hn => rfl); (case hr => first | (go_simp; done) | (go_simp; rfl)); intro w21 hw; have n0_ : Aside0 (Kd.R Kd.string 9 w21 w.heap.size (fun k_ => some k_ ≠ (v294 : Value).ownBlock) v291 t290) := ⟨(by rw [hw]; exact (by (with_reducible repeat (first | apply Kd.R_alloc | apply Kd.R_drewN | apply Kd.R_drew)); exact Kd.R_mono (Kd.R_far (p := ⟨gb296, 9, none⟩) (Kd.R_far (p := ⟨gb296, 8, none⟩) (Kd.R_far (p := ⟨gb296, 7, none⟩) (Kd.R_far (p := ⟨gb296, 6, none⟩) (Kd.R_far (p := ⟨gb296, 5, none⟩) (Kd.R_far (p := ⟨gb296, 4, none⟩) (Kd.R_far (p := ⟨gb296, 3, none⟩) (Kd.R_far (p := ⟨gb296, 2, none⟩) (Kd.R_far (p := ⟨gb296, 1, none⟩) (Kd.R_far (p := ⟨gb296, 0, none⟩) (IsS43.apart HI296.out HO292.out (by decide)) (fun _ hk => hk.2) (.string (⟨#[]⟩ : ByteArray))) (fun _ hk => hk.2) (.int .i64 0)) (fun _ hk => hk.2) (.int .i64 0)) (fun _ hk => hk.2) (.int .i64 0)) (fun _ hk => hk.2) (.int .i64 0)) (fun _ hk => hk.2) (.int .i64 0)) (fun _ hk => hk.2) (.int .i64 0)) (fun _ hk => hk.2) (.int .i64 0)) (fun _ hk => hk.2) (.int .i64 0)) (fun _ hk => hk.2) (.int .i64 0)) (fun _ hk => hk.1.2)))⟩; have n1_ : Aside0 (Kd.R Kd.string 9 w21 w.heap.size (fun k_ => some k_ ≠ (v291 : Value).ownBlock) v294 y293) := ⟨(by rw [hw]; exact (by (with_reducible repeat (first | apply Kd.R_alloc | apply Kd.R_drewN | apply Kd.R_drew)); exact Kd.R_mono (Kd.R_far (p := ⟨gb296, 9, none⟩) (Kd.R_far (p := ⟨gb296, 8, none⟩) (Kd.R_far (p := ⟨gb296, 7, none⟩) (Kd.R_far (p := ⟨gb296, 6, none⟩) (Kd.R_far (p := ⟨gb296, 5, none⟩) (Kd.R_far (p := ⟨gb296, 4, none⟩) (Kd.R_far (p := ⟨gb296, 3, none⟩) (Kd.R_far (p := ⟨gb296, 2, none⟩) (Kd.R_far (p := ⟨gb296, 1, none⟩) (Kd.R_far (p := ⟨gb296, 0, none⟩) (IsS43.apart HI296.out HO295.out (by decide)) (fun _ hk => hk.2) (.string (⟨#[]⟩ : ByteArray))) (fun _ hk => hk.2) (.int .i64 0)) (fun _ hk => hk.2) (.int .i64 0)) (fun _ hk => hk.2) (.int .i64 0)) (fun _ hk => hk.2) (.int .i64 0)) (fun _ hk => hk.2) (.int .i64 0)) (fun _ hk => hk.2) (.int .i64 0)) (fun _ hk => hk.2) (.int .i64 0)) (fun _ hk => hk.2) (.int .i64 0)) (fun _ hk => hk.2) (.int .i64 0)) (fun _ hk => hk.1.2)))⟩; have n2_ : Aside0 (w21.heap[gb288]? = some (.cells #[.string x289000_1, .int .i64 x289001_1, .int .i64 x289002_1, .int .i64 x289003_1, .int .i64 x289004_1, .int .i64 x289005_1, .int .i64 x289006_1, .int .i64 x289007_1, .int .i64 x289008_1, .int .i64 x289009_1] 43 (0, 0))) := ⟨(by rw [hw]; exact (by (with_reducible repeat (first | refine blk_far ?_ NB288_296.out _ | refine blk_drewN ?_ _ | refine blk_drew ?_ | refine blk_alloc ?_ _)); exact BK288.out))⟩; have n3_ : Aside0 (IsS43 w w21 gb296 (⟨#[]⟩ : ByteArray) 0 0 0 0 0 0 0 0 0) := ⟨(by rw [hw]; exact w2h12_)⟩; have n4_ : Aside0 (Below w.heap.size w w21) := ⟨(by rw [hw]; exact w3h12_)⟩; clear hw; clear HO292; clear HO295; clear BK288; clear HI296; clear HB; have HO292 := n0_; have HO295 := n1_; have BK288 := n2_; have HI296 := n3_; have HB := n4_; clear n0_ n1_ n2_ n3_ n4_; obtain ⟨Ao22, co22, eo22⟩ := Kd.R_slice HO292.out; subst eo22; have q23 : ((ji13) : Int) ≤ ((t290.length : Int) : Int) := of_decide_eq_true w13h12_; obtain ⟨i023, hi023, _, hsz23, _⟩ := info_parts info9; have hcut23 := cut_to (P := Tryd.prog) 96 9 .i64 Tryd.underlying96 hi023 Ao22 t290.length co22 (ji13) (of_decide_eq_true w13h12_) q23 (Kd.R_reads' HO292.out).2.1; have hr23 := Kd.R_take (m := ((ji13) : Int).toNat) HO292.out (by omega); have hy23 : y297.length = ((ji13) : Int).toNat := (by rw [Ny297.out, List.length_take]; omega); rw [← Ny297.out] at hr23; rw [← hy23] at hr23 hcut23; clear hy23 hi023 hsz23 HO292; have HO299 := ah12_ hr23; clear hr23; replace q23 := eq_true q23))
     go_loopg [7, 36] kj1 (fun kq v7 v36 w' => ∃ (x7_2 : List ByteArray) (x36_2 : Int) (x289000_2 : ByteArray) (x289001_2 : Int) (x289002_2 : Int) (x289003_2 : Int) (x289004_2 : Int) (x289005_2 : Int) (x289006_2 : Int) (x289007_2 : Int) (x289008_2 : Int) (x289009_2 : Int) (x297000_2 : ByteArray) (x297001_2 : Int) (x297002_2 : Int) (x297003_2 : Int) (x297004_2 : Int) (x297005_2 : Int) (x297006_2 : Int) (x297007_2 : Int) (x297008_2 : Int) (x297009_2 : Int), v36 = .int .i64 x36_2 ∧ Aside0 (impl_CompileJob.l0 kq x7_2 y297 (y297.length : Int) x36_2 x297000_2 x297001_2 x297002_2 x297003_2 x297004_2 x297005_2 x297006_2 x297007_2 x297008_2 x297009_2 = some (r1, r2, r3, r4, r5, r6, r7, r8, r9, r10, r11, r12)) ∧ Aside0 (kq ≤ kj1) ∧ Aside0 (Kd.R Kd.string 9 w' w.heap.size (fun k_ => some k_ ≠ ((.slice Ao22 y297.length co22) : Value).ownBlock) v7 x7_2) ∧ Aside0 (Kd.R Kd.string 9 w' w.heap.size (fun k_ => some k_ ≠ (v7 : Value).ownBlock) (.slice Ao22 y297.length co22) y297) ∧ Aside0 (w'.heap[gb288]? = some (.cells #[.string x289000_2, .int .i64 x289001_2, .int .i64 x289002_2, .int .i64 x289003_2, .int .i64 x289004_2, .int .i64 x289005_2, .int .i64 x289006_2, .int .i64 x289007_2, .int .i64 x289008_2, .int .i64 x289009_2] 43 (0, 0))) ∧ Aside0 (IsS43 w w' gb296 x297000_2 x297001_2 x297002_2 x297003_2 x297004_2 x297005_2 x297006_2 x297007_2 x297008_2 x297009_2) ∧ Aside0 (Below w.heap.size w w'))
     case atStart => exact ⟨(y293), (0), (x289000_1), (x289001_1), (x289002_1), (x289003_1), (x289004_1), (x289005_1), (x289006_1), (x289007_1), (x289008_1), (x289009_1), ((⟨#[]⟩ : ByteArray)), (0), (0), (0), (0), (0), (0), (0), (0), (0), w14h12_, H', ⟨Nat.le_refl _⟩, ⟨(by (with_reducible repeat (first | apply Kd.R_alloc | apply Kd.R_drewN | apply Kd.R_drew)); first | exact HO295.out | exact Kd.R_mono HO295.out (fun k_ h_ => by cases Ao22 <;> exact h_))⟩, ⟨(by (with_reducible repeat (first | apply Kd.R_alloc | apply Kd.R_drewN | apply Kd.R_drew)); first | exact HO299.out | exact Kd.R_mono HO299.out (fun k_ h_ => by cases Ao22 <;> exact h_))⟩, ⟨w6h12_⟩, ⟨w2h12_⟩, ⟨w3h12_⟩⟩
     case round =>
      clear H'
      try clear c4
      try clear c4b0
      try clear c4b1
      try clear c6
      try clear c6b0
      try clear c6b1
      try clear c8
      try clear c14
      try clear c14b0
      try clear c14b1
      try clear c15
      try clear c15b0
      try clear c15b1
      try clear q23
      try clear hcz11_0
      try clear hcz11_1
      try clear hcz11_2
      try clear hcz11_3
      try clear hcz11_4
      try clear hcz11_5
      try clear hcz11_6
      try clear hcz11_7
      try clear hcz11_8
      try clear hcz11_9
      try clear hcz20_0
      try clear hcz20_1
      try clear hcz20_2
      try clear hcz20_3
      try clear hcz20_4
      try clear hcz20_5
      try clear hcz20_6
      try clear hcz20_7
      try clear hcz20_8
      try clear hcz20_9
      try clear hcz5_0
      try clear hcz5_1
      try clear hcz5_2
      try clear hcz5_3
      try clear hcz5_4
      try clear hcz5_5
      try clear hcz5_6
      try clear hcz5_7
      try clear hcz5_8
      try clear hcz5_9
      try clear hfz11_0
      try clear hfz11_1
      try clear hfz11_2
      try clear hfz11_3
      try clear hfz11_4
      try clear hfz11_5
      try clear hfz11_6
      try clear hfz11_7
      try clear hfz11_8
      try clear hfz11_9
      try clear hfz20_0
      try clear hfz20_1
      try clear hfz20_2
      try clear hfz20_3
      try clear hfz20_4
      try clear hfz20_5
      try clear hfz20_6
      try clear hfz20_7
      try clear hfz20_8
      try clear hfz20_9
      try clear hfz5_0
      try clear hfz5_1
      try clear hfz5_2
      try clear hfz5_3
      try clear hfz5_4
      try clear hfz5_5
      try clear hfz5_6
      try clear hfz5_7
      try clear hfz5_8
      try clear hfz5_9
      try clear q23
      obtain ⟨x7_2, x36_2, x289000_2, x289001_2, x289002_2, x289003_2, x289004_2, x289005_2, x289006_2, x289007_2, x289008_2, x289009_2, x297000_2, x297001_2, x297002_2, x297003_2, x297004_2, x297005_2, x297006_2, x297007_2, x297008_2, x297009_2, rfl, HA, HK2, HO_7, HO_34, BK288, HI296, HB⟩ := hrel
      cases gk with
      | zero => exact absurd HA.out (by simp [impl_CompileJob.l0])
      | succ k2 =>
       have H := HA.out; clear HA
       simp only [impl_CompileJob.l0] at H
       by_cases c24 : x36_2 < (y297.length : Int)
       ·
        rw [if_pos c24] at H
        have c24b0 : decide (x36_2 < (y297.length : Int)) = true := decide_eq_true c24; clear c24
        by_cases c25 : 0 ≤ x36_2
        ·
         rw [if_pos c25] at H
         have c25b0 : decide (0 ≤ x36_2) = true := decide_eq_true c25; clear c25
         by_cases c26 : x36_2 < (y297.length : Int)
         ·
          rw [if_pos c26] at H
          have c26b0 : decide (x36_2 < (y297.length : Int)) = true := decide_eq_true c26; clear c26
          replace H := Option.bind_eq_some_iff.mp H
          obtain ⟨⟨t301, t302, t303, t304, t305, t306, t307, t308, t309, t310, t311, t312⟩, A270, H⟩ := H
          try dsimp only at H
          have A27 := ah12_ A270; clear A270; have HC28 := ah12_ H; clear H
          have p300 : 0 ≤ (x36_2 : Int) := of_decide_eq_true w13h12_
          have q300 : x36_2 < (y297.length : Int) := of_decide_eq_true w13h12_
          obtain ⟨ad300, e300, hx300_0⟩ := Kd.at_string (Kd.R_reads' HO_34.out).2.2 x36_2 p300 q300
          cases e300
          replace p300 := eq_true p300
          replace q300 := eq_true q300
          go_upto_region 11 with (first | ((with_reducible refine gate_callee (f := 76) rfl ?_); refine goesL_ (some 43) rfl rfl Tryd.func76 (by kernel_rfl) rfl #[.pointer (some ⟨gb296, 0, none⟩), .string (rdOf ByteArray.empty y297 x36_2)] rfl w12h12_ ?_; (with_reducible refine (impl_jobLine.calls k2 gb296 x297000_2 x297001_2 x297002_2 x297003_2 x297004_2 x297005_2 x297006_2 x297007_2 x297008_2 x297009_2 (rdOf ByteArray.empty y297 x36_2) t301 t302 t303 t304 t305 t306 t307 t308 t309 t310 t311 t312 w _ ?side1 ?side2 A27.out HT.out).mono ?_); (case side1 => exact w2h12_); (case side2 => exact w3h12_); rintro e w29 ⟨rfl, hi, hb, hk⟩; refine ⟨_, rfl, ?_⟩; replace HO_7 := ah12_ (Kd.R_mono (Kd.R_keep (IsS43.apart (show IsS43 w _ gb296 x297000_2 x297001_2 x297002_2 x297003_2 x297004_2 x297005_2 x297006_2 x297007_2 x297008_2 x297009_2 from w2h12_) w9h12_ (by decide)) hk (fun _ h => h.2)) (fun _ h => h.1)); replace HO_34 := ah12_ (Kd.R_mono (Kd.R_keep (IsS43.apart (show IsS43 w _ gb296 x297000_2 x297001_2 x297002_2 x297003_2 x297004_2 x297005_2 x297006_2 x297007_2 x297008_2 x297009_2 from w2h12_) w8h12_ (by decide)) hk (fun _ h => h.2)) (fun _ h => h.1)); replace BK288 := ah12_ (KeepBut.blk hk (g' := gb288) (o := .cells #[.string x289000_2, .int .i64 x289001_2, .int .i64 x289002_2, .int .i64 x289003_2, .int .i64 x289004_2, .int .i64 x289005_2, .int .i64 x289006_2, .int .i64 x289007_2, .int .i64 x289008_2, .int .i64 x289009_2] 43 (0, 0)) w6h12_ NB288_296.out (by simp)); replace HB := ah12_ (hb); replace HI296 := ah12_ (hi); clear hb hk hi))
          (try simp only [Act.put, List.setIfInBounds_toArray, List.set_cons_zero, List.set_cons_succ])
          go_cut [52] (fun v52 wc => ∃ (kq : Nat) (x52_27 : Bool), v52 = .bool x52_27 ∧ Aside0 (impl_CompileJob.j2 kq x7_2 x36_2 t301 t302 y297 (y297.length : Int) x36_2 x52_27 t303 t304 t305 t306 t307 t308 t309 t310 t311 t312 = some (r1, r2, r3, r4, r5, r6, r7, r8, r9, r10, r11, r12)) ∧ Aside0 (kq ≤ k2) ∧ Aside0 (Kd.R Kd.string 9 wc w.heap.size (fun k_ => some k_ ≠ ((.slice (some ad300) y297.length co22) : Value).ownBlock) u7 x7_2) ∧ Aside0 (Kd.R Kd.string 9 wc w.heap.size (fun k_ => some k_ ≠ (u7 : Value).ownBlock) (.slice (some ad300) y297.length co22) y297) ∧ Aside0 (wc.heap[gb288]? = some (.cells #[.string x289000_2, .int .i64 x289001_2, .int .i64 x289002_2, .int .i64 x289003_2, .int .i64 x289004_2, .int .i64 x289005_2, .int .i64 x289006_2, .int .i64 x289007_2, .int .i64 x289008_2, .int .i64 x289009_2] 43 (0, 0))) ∧ Aside0 (IsS43 w wc gb296 t303 t304 t305 t306 t307 t308 t309 t310 t311 t312) ∧ Aside0 (Below w.heap.size w wc))
          case first =>
           have H := HC28.out; clear HC28
           by_cases c30 : t301.toList = ([] : List UInt8)
           ·
            rw [if_pos c30] at H
            have c30b0 : (t301.toList == ([] : List UInt8)) = true := beq_iff_eq.mpr c30; have c30b1 : (t301.toList != ([] : List UInt8)) = false := bne_eq_false_iff_eq.mpr c30; clear c30
            (first | rw [c30b0] | (simp only [i64_w, i32_w]; rw [c30b0]) | skip)
            have H' := ah12_ H; clear H
            go_wp2
            go_meet
            case rel => exact ⟨_, (false), w14h12_, H', ⟨(by have := HJ1.out; have := HK2.out; first | omega | exact Nat.le_refl _)⟩, ⟨w9h12_⟩, ⟨w8h12_⟩, ⟨w6h12_⟩, ⟨w2h12_⟩, ⟨w3h12_⟩⟩
           ·
            rw [if_neg c30] at H
            have c30b0 : (t301.toList == ([] : List UInt8)) = false := beq_eq_false_iff_ne.mpr c30; have c30b1 : (t301.toList != ([] : List UInt8)) = true := bne_iff_ne.mpr c30
            (first | rw [c30b0] | (simp only [i64_w, i32_w]; rw [c30b0]) | skip)
            replace H := Option.bind_eq_some_iff.mp H
            obtain ⟨t313, A310, H⟩ := H
            try dsimp only at H
            have A31 := ah12_ A310; clear A310; have H' := ah12_ H; clear H; obtain ⟨Ao32, co32, eo32⟩ := Kd.R_slice HO_7.out; subst eo32
            go_wp2_with (first | (go_at_call 77; (with_reducible refine (slices_Contains_string_string.calls k2 _ _ x7_2 t301 t313 _ ?side1 ?side2 A31.out).mono ?_); (case side1 => exact (by repeat (first | exact (Kd.R_reads' HO_7.out).2.2 | (with_reducible refine Kd.C_alloc ?_ _) | (with_reducible refine Kd.C_drewN ?_ _) | (with_reducible refine Kd.C_drew ?_)))); (case side2 => exact (Kd.R_reads' HO_7.out).2.1); rintro e w' ⟨rfl, ⟨nd, rfl⟩⟩))
            go_meet
            case rel => exact ⟨_, (t313), w14h12_, H', ⟨(by have := HJ1.out; have := HK2.out; first | omega | exact Nat.le_refl _)⟩, ⟨w9h12_⟩, ⟨w8h12_⟩, ⟨w6h12_⟩, ⟨w2h12_⟩, ⟨w3h12_⟩⟩
          case rest =>
           clear HC28
           try clear c4
           try clear c4b0
           try clear c4b1
           try clear c6
           try clear c6b0
           try clear c6b1
           try clear c8
           try clear c14
           try clear c14b0
           try clear c14b1
           try clear c15
           try clear c15b0
           try clear c15b1
           try clear q23
           try clear c24
           try clear c24b0
           try clear c25
           try clear c25b0
           try clear c26
           try clear c26b0
           try clear c30
           try clear c30b0
           try clear c30b1
           try clear hcz11_0
           try clear hcz11_1
           try clear hcz11_2
           try clear hcz11_3
           try clear hcz11_4
           try clear hcz11_5
           try clear hcz11_6
           try clear hcz11_7
           try clear hcz11_8
           try clear hcz11_9
           try clear hcz20_0
           try clear hcz20_1
           try clear hcz20_2
           try clear hcz20_3
           try clear hcz20_4
           try clear hcz20_5
           try clear hcz20_6
           try clear hcz20_7
           try clear hcz20_8
           try clear hcz20_9
           try clear hcz5_0
           try clear hcz5_1
           try clear hcz5_2
           try clear hcz5_3
           try clear hcz5_4
           try clear hcz5_5
           try clear hcz5_6
           try clear hcz5_7
           try clear hcz5_8
           try clear hcz5_9
           try clear hfz11_0
           try clear hfz11_1
           try clear hfz11_2
           try clear hfz11_3
           try clear hfz11_4
           try clear hfz11_5
           try clear hfz11_6
           try clear hfz11_7
           try clear hfz11_8
           try clear hfz11_9
           try clear hfz20_0
           try clear hfz20_1
           try clear hfz20_2
           try clear hfz20_3
           try clear hfz20_4
           try clear hfz20_5
           try clear hfz20_6
           try clear hfz20_7
           try clear hfz20_8
           try clear hfz20_9
           try clear hfz5_0
           try clear hfz5_1
           try clear hfz5_2
           try clear hfz5_3
           try clear hfz5_4
           try clear hfz5_5
           try clear hfz5_6
           try clear hfz5_7
           try clear hfz5_8
           try clear hfz5_9
           try clear hx300_0
           try clear p300
           try clear q23
           try clear q300
           obtain ⟨kq, x52_27, rfl, HA, HJ27, HO_7, HO_34, BK288, HI296, HB⟩ := hcut
           cases kq with
           | zero => exact absurd HA.out (by simp [impl_CompileJob.j2])
           | succ kj27 =>
            have H := HA.out; clear HA
            simp only [impl_CompileJob.j2] at H
            by_cases c33 : x52_27 = true
            ·
             subst c33
             rw [if_pos rfl] at H
             by_cases c34 : 5 = 0
             ·
              exact absurd c34 (by decide)
             ·
              rw [if_neg c34] at H
              have c34b0 : (5 == 0) = false := beq_eq_false_iff_ne.mpr c34; have c34b1 : (5 != 0) = true := bne_iff_ne.mpr c34
              simp only [Option.some.injEq, Prod.mk.injEq] at H
              obtain ⟨rfl, rfl, rfl, rfl, rfl, rfl, rfl, rfl, rfl, rfl, rfl, rfl⟩ := H; have hnb37 := NB288_296.out; have hnc37 := NB296_288.out; have hcz38_0 : wc.cell? ⟨gb288, 0, none⟩ = some (.string x289000_2) := (blk_cell BK288.out 0).trans rfl; have hcz38_1 : wc.cell? ⟨gb288, 1, none⟩ = some (.int .i64 x289001_2) := (blk_cell BK288.out 1).trans rfl; have hcz38_2 : wc.cell? ⟨gb288, 2, none⟩ = some (.int .i64 x289002_2) := (blk_cell BK288.out 2).trans rfl; have hcz38_3 : wc.cell? ⟨gb288, 3, none⟩ = some (.int .i64 x289003_2) := (blk_cell BK288.out 3).trans rfl; have hcz38_4 : wc.cell? ⟨gb288, 4, none⟩ = some (.int .i64 x289004_2) := (blk_cell BK288.out 4).trans rfl; have hcz38_5 : wc.cell? ⟨gb288, 5, none⟩ = some (.int .i64 x289005_2) := (blk_cell BK288.out 5).trans rfl; have hcz38_6 : wc.cell? ⟨gb288, 6, none⟩ = some (.int .i64 x289006_2) := (blk_cell BK288.out 6).trans rfl; have hcz38_7 : wc.cell? ⟨gb288, 7, none⟩ = some (.int .i64 x289007_2) := (blk_cell BK288.out 7).trans rfl; have hcz38_8 : wc.cell? ⟨gb288, 8, none⟩ = some (.int .i64 x289008_2) := (blk_cell BK288.out 8).trans rfl; have hcz38_9 : wc.cell? ⟨gb288, 9, none⟩ = some (.int .i64 x289009_2) := (blk_cell BK288.out 9).trans rfl; have hfz38_0 := blk_frozen BK288.out 0; have hfz38_1 := blk_frozen BK288.out 1; have hfz38_2 := blk_frozen BK288.out 2; have hfz38_3 := blk_frozen BK288.out 3; have hfz38_4 := blk_frozen BK288.out 4; have hfz38_5 := blk_frozen BK288.out 5; have hfz38_6 := blk_frozen BK288.out 6; have hfz38_7 := blk_frozen BK288.out 7; have hfz38_8 := blk_frozen BK288.out 8; have hfz38_9 := blk_frozen BK288.out 9
              go_wp2
              refine bodyPost_ret (results_ctt rfl _ _ gb288 43 c0h12_ (0, 0) _ rfl w1h12_ Tryd.underlying43 rfl (by kernel_rfl)) rfl ?_
              exact ⟨w7h12_, w3h12_⟩
            ·
             replace c33 := Bool.eq_false_iff.mpr c33
             subst c33
             rw [if_neg (show ¬ (false = true) by decide)] at H
             by_cases c39 : t302 = 0
             ·
              rw [if_pos c39] at H
              have c39b0 : (t302 == 0) = true := beq_iff_eq.mpr c39; have c39b1 : (t302 != 0) = false := bne_eq_false_iff_eq.mpr c39; clear c39
              by_cases c40 : x7_2.length < 8796093022208
              ·
               rw [if_pos c40] at H
               have LMc40 := ah12_ c40; clear c40; obtain ⟨y317, hy317⟩ : ∃ y_ : List ByteArray, y_ = (x7_2 ++ [t301]) := ⟨_, rfl⟩
               replace H : (impl_CompileJob.l0 kj27 y317 y297 (y297.length : Int) (wrap64 (x36_2 + 1)) t303 t304 t305 t306 t307 t308 t309 t310 t311 t312) = some (r1, r2, r3, r4, r5, r6, r7, r8, r9, r10, r11, r12) := by first | (rw [hy317]; with_reducible exact H) | (have H2_ := (Option.bind_some _ _).symm.trans H; rw [hy317]; with_reducible exact H2_) | (have H2_ := (Option.bind_some _ _).symm.trans H; with_reducible exact H2_) | with_reducible exact H | (rw [hy317]; exact H) | exact H
               have Ny317 := ah12_ hy317; clear hy317; have H' := ah12_ H; clear H
               go_wp2_with (first | ((with_reducible refine gate_builtin (b := .append) (xs := #[.tmp 59, .tmp 61]) rfl ?_); at_builtin; refine Kd.R_append Kd.string (w0 := w) w.heap.size rfl (.tmp 59) (.tmp 61) 96 9 (.string ⟨#[]⟩) 16 rfl Tryd.underlying96 info9 rfl (by decide) (by omega) u7 x7_2 t301 [.string t301] (fun k_ => some k_ ≠ (.slice (some ad300) y297.length co22 : Value).ownBlock) (fun _ => False) rfl rfl ?aP (fun _ hk => hk.elim) ?aF ?aO ?aB ?aS ?aL ?_; (case aP => exact rfl); (case aB => exact w3h12_); (case aF => exact (fun k_ hk => Kd.fresh' (Kd.R_lt w8h12_) k_ hk)); (case aO => exact w9h12_); (case aS => exact (below_size w3h12_)); (case aL => have := LMc40.out; omega); intro v318 w41 ho hb hg hat; rw [← Ny317.out] at ho; have n0_ := ah12_ (Kd.R_after (ok := (fun _ => True)) (by (with_reducible repeat (first | apply Kd.R_alloc | apply Kd.R_drewN | apply Kd.R_drew)); exact Kd.R_mono HO_34.out (fun _ hk => ⟨trivial, hk⟩)) hg hat); have n1_ := ah12_ (blk_grown (g := gb288) (o := .cells #[.string x289000_2, .int .i64 x289001_2, .int .i64 x289002_2, .int .i64 x289003_2, .int .i64 x289004_2, .int .i64 x289005_2, .int .i64 x289006_2, .int .i64 x289007_2, .int .i64 x289008_2, .int .i64 x289009_2] 43 (0, 0)) w6h12_ hg (Kd.R_ne HO_7.out BK288.out (by decide))); have n2_ := ah12_ (IsS43.grown w2h12_ hg (IsS43.own_ne HI296.out HO_7.out (by decide))); have n3_ := ah12_ (hb); have n4_ := ah12_ (ho); clear HO_34; clear BK288; clear HI296; clear HB; clear HO_7; have HO_34 := n0_; have BK288 := n1_; have HI296 := n2_; have HB := n3_; have HO319 := n4_; clear n0_ n1_ n2_ n3_ n4_; clear ho hb hg hat))
               go_roundg kj27
               case measure => have := HJ1.out; have := HK2.out; have := HJ27.out; omega
               case rel => exact ⟨(y317), (wrap64 (x36_2 + 1)), (x289000_2), (x289001_2), (x289002_2), (x289003_2), (x289004_2), (x289005_2), (x289006_2), (x289007_2), (x289008_2), (x289009_2), (t303), (t304), (t305), (t306), (t307), (t308), (t309), (t310), (t311), (t312), w14h12_, H', ⟨(by have := HJ1.out; have := HK2.out; have := HJ27.out; omega)⟩, ⟨(by (with_reducible repeat (first | apply Kd.R_alloc | apply Kd.R_drewN | apply Kd.R_drew)); exact HO319.out)⟩, ⟨(by (with_reducible repeat (first | apply Kd.R_alloc | apply Kd.R_drewN | apply Kd.R_drew)); exact Kd.R_mono HO_34.out (fun _ hk => hk.2))⟩, ⟨w6h12_⟩, ⟨w2h12_⟩, ⟨w3h12_⟩⟩
              ·
               rw [if_neg c40] at H
               exact absurd H (by simp)
             ·
              rw [if_neg c39] at H
              have c39b0 : (t302 == 0) = false := beq_eq_false_iff_ne.mpr c39; have c39b1 : (t302 != 0) = true := bne_iff_ne.mpr c39
              simp only [Option.some.injEq, Prod.mk.injEq] at H
              obtain ⟨rfl, rfl, rfl, rfl, rfl, rfl, rfl, rfl, rfl, rfl, rfl, rfl⟩ := H; have hnb42 := NB288_296.out; have hnc42 := NB296_288.out; have hcz43_0 : wc.cell? ⟨gb288, 0, none⟩ = some (.string x289000_2) := (blk_cell BK288.out 0).trans rfl; have hcz43_1 : wc.cell? ⟨gb288, 1, none⟩ = some (.int .i64 x289001_2) := (blk_cell BK288.out 1).trans rfl; have hcz43_2 : wc.cell? ⟨gb288, 2, none⟩ = some (.int .i64 x289002_2) := (blk_cell BK288.out 2).trans rfl; have hcz43_3 : wc.cell? ⟨gb288, 3, none⟩ = some (.int .i64 x289003_2) := (blk_cell BK288.out 3).trans rfl; have hcz43_4 : wc.cell? ⟨gb288, 4, none⟩ = some (.int .i64 x289004_2) := (blk_cell BK288.out 4).trans rfl; have hcz43_5 : wc.cell? ⟨gb288, 5, none⟩ = some (.int .i64 x289005_2) := (blk_cell BK288.out 5).trans rfl; have hcz43_6 : wc.cell? ⟨gb288, 6, none⟩ = some (.int .i64 x289006_2) := (blk_cell BK288.out 6).trans rfl; have hcz43_7 : wc.cell? ⟨gb288, 7, none⟩ = some (.int .i64 x289007_2) := (blk_cell BK288.out 7).trans rfl; have hcz43_8 : wc.cell? ⟨gb288, 8, none⟩ = some (.int .i64 x289008_2) := (blk_cell BK288.out 8).trans rfl; have hcz43_9 : wc.cell? ⟨gb288, 9, none⟩ = some (.int .i64 x289009_2) := (blk_cell BK288.out 9).trans rfl; have hfz43_0 := blk_frozen BK288.out 0; have hfz43_1 := blk_frozen BK288.out 1; have hfz43_2 := blk_frozen BK288.out 2; have hfz43_3 := blk_frozen BK288.out 3; have hfz43_4 := blk_frozen BK288.out 4; have hfz43_5 := blk_frozen BK288.out 5; have hfz43_6 := blk_frozen BK288.out 6; have hfz43_7 := blk_frozen BK288.out 7; have hfz43_8 := blk_frozen BK288.out 8; have hfz43_9 := blk_frozen BK288.out 9
              go_wp2
              refine bodyPost_ret (results_ctt rfl _ _ gb288 43 c0h12_ (0, 0) _ rfl w1h12_ Tryd.underlying43 rfl (by kernel_rfl)) rfl ?_
              exact ⟨w7h12_, w3h12_⟩
         ·
          rw [if_neg c26] at H
          exact absurd H (by simp)
        ·
         rw [if_neg c25] at H
         exact absurd H (by simp)
       ·
        rw [if_neg c24] at H
        have c24b0 : decide (x36_2 < (y297.length : Int)) = false := decide_eq_false c24; clear c24
        by_cases c44 : (x7_2.length : Int) < 6
        ·
         rw [if_pos c44] at H
         have c44b0 : decide ((x7_2.length : Int) < 6) = true := decide_eq_true c44; have c44b1 : decide (x7_2.length < 6) = true := decide_eq_true (by omega); clear c44
         simp only [Option.some.injEq, Prod.mk.injEq] at H
         obtain ⟨rfl, rfl, rfl, rfl, rfl, rfl, rfl, rfl, rfl, rfl, rfl, rfl⟩ := H; obtain ⟨Ao45, co45, eo45⟩ := Kd.R_slice HO_7.out; subst eo45; have hnb46 := NB288_296.out; have hnc46 := NB296_288.out; have hcz47_0 : wr.cell? ⟨gb288, 0, none⟩ = some (.string x289000_2) := (blk_cell BK288.out 0).trans rfl; have hcz47_1 : wr.cell? ⟨gb288, 1, none⟩ = some (.int .i64 x289001_2) := (blk_cell BK288.out 1).trans rfl; have hcz47_2 : wr.cell? ⟨gb288, 2, none⟩ = some (.int .i64 x289002_2) := (blk_cell BK288.out 2).trans rfl; have hcz47_3 : wr.cell? ⟨gb288, 3, none⟩ = some (.int .i64 x289003_2) := (blk_cell BK288.out 3).trans rfl; have hcz47_4 : wr.cell? ⟨gb288, 4, none⟩ = some (.int .i64 x289004_2) := (blk_cell BK288.out 4).trans rfl; have hcz47_5 : wr.cell? ⟨gb288, 5, none⟩ = some (.int .i64 x289005_2) := (blk_cell BK288.out 5).trans rfl; have hcz47_6 : wr.cell? ⟨gb288, 6, none⟩ = some (.int .i64 x289006_2) := (blk_cell BK288.out 6).trans rfl; have hcz47_7 : wr.cell? ⟨gb288, 7, none⟩ = some (.int .i64 x289007_2) := (blk_cell BK288.out 7).trans rfl; have hcz47_8 : wr.cell? ⟨gb288, 8, none⟩ = some (.int .i64 x289008_2) := (blk_cell BK288.out 8).trans rfl; have hcz47_9 : wr.cell? ⟨gb288, 9, none⟩ = some (.int .i64 x289009_2) := (blk_cell BK288.out 9).trans rfl; have hfz47_0 := blk_frozen BK288.out 0; have hfz47_1 := blk_frozen BK288.out 1; have hfz47_2 := blk_frozen BK288.out 2; have hfz47_3 := blk_frozen BK288.out 3; have hfz47_4 := blk_frozen BK288.out 4; have hfz47_5 := blk_frozen BK288.out 5; have hfz47_6 := blk_frozen BK288.out 6; have hfz47_7 := blk_frozen BK288.out 7; have hfz47_8 := blk_frozen BK288.out 8; have hfz47_9 := blk_frozen BK288.out 9
         go_wp2
         refine bodyPost_ret (results_ctt rfl _ _ gb288 43 c0h12_ (0, 0) _ rfl w1h12_ Tryd.underlying43 rfl (by kernel_rfl)) rfl ?_
         exact ⟨w7h12_, w3h12_⟩
        ·
         rw [if_neg c44] at H
         have c44b0 : decide ((x7_2.length : Int) < 6) = false := decide_eq_false c44; have c44b1 : decide (x7_2.length < 6) = false := decide_eq_false (by omega); clear c44
         simp only [Option.some.injEq, Prod.mk.injEq] at H
         obtain ⟨rfl, rfl, rfl, rfl, rfl, rfl, rfl, rfl, rfl, rfl, rfl, rfl⟩ := H; obtain ⟨Ao48, co48, eo48⟩ := Kd.R_slice HO_7.out; subst eo48; obtain ⟨HGz49, hgz49⟩ := HI296.out; have hcz49_0 := cellS43_0 HGz49; have hcz49_1 := cellS43_1 HGz49; have hcz49_2 := cellS43_2 HGz49; have hcz49_3 := cellS43_3 HGz49; have hcz49_4 := cellS43_4 HGz49; have hcz49_5 := cellS43_5 HGz49; have hcz49_6 := cellS43_6 HGz49; have hcz49_7 := cellS43_7 HGz49; have hcz49_8 := cellS43_8 HGz49; have hcz49_9 := cellS43_9 HGz49; have hfz49_0 := blk_frozen HGz49 0; have hfz49_1 := blk_frozen HGz49 1; have hfz49_2 := blk_frozen HGz49 2; have hfz49_3 := blk_frozen HGz49 3; have hfz49_4 := blk_frozen HGz49 4; have hfz49_5 := blk_frozen HGz49 5; have hfz49_6 := blk_frozen HGz49 6; have hfz49_7 := blk_frozen HGz49 7; have hfz49_8 := blk_frozen HGz49 8; have hfz49_9 := blk_frozen HGz49 9; clear HGz49 hgz49; have hnb50 := NB288_296.out; have hnc50 := NB296_288.out; have hcz51_0 : wr.cell? ⟨gb288, 0, none⟩ = some (.string x289000_2) := (blk_cell BK288.out 0).trans rfl; have hcz51_1 : wr.cell? ⟨gb288, 1, none⟩ = some (.int .i64 x289001_2) := (blk_cell BK288.out 1).trans rfl; have hcz51_2 : wr.cell? ⟨gb288, 2, none⟩ = some (.int .i64 x289002_2) := (blk_cell BK288.out 2).trans rfl; have hcz51_3 : wr.cell? ⟨gb288, 3, none⟩ = some (.int .i64 x289003_2) := (blk_cell BK288.out 3).trans rfl; have hcz51_4 : wr.cell? ⟨gb288, 4, none⟩ = some (.int .i64 x289004_2) := (blk_cell BK288.out 4).trans rfl; have hcz51_5 : wr.cell? ⟨gb288, 5, none⟩ = some (.int .i64 x289005_2) := (blk_cell BK288.out 5).trans rfl; have hcz51_6 : wr.cell? ⟨gb288, 6, none⟩ = some (.int .i64 x289006_2) := (blk_cell BK288.out 6).trans rfl; have hcz51_7 : wr.cell? ⟨gb288, 7, none⟩ = some (.int .i64 x289007_2) := (blk_cell BK288.out 7).trans rfl; have hcz51_8 : wr.cell? ⟨gb288, 8, none⟩ = some (.int .i64 x289008_2) := (blk_cell BK288.out 8).trans rfl; have hcz51_9 : wr.cell? ⟨gb288, 9, none⟩ = some (.int .i64 x289009_2) := (blk_cell BK288.out 9).trans rfl; have hfz51_0 := blk_frozen BK288.out 0; have hfz51_1 := blk_frozen BK288.out 1; have hfz51_2 := blk_frozen BK288.out 2; have hfz51_3 := blk_frozen BK288.out 3; have hfz51_4 := blk_frozen BK288.out 4; have hfz51_5 := blk_frozen BK288.out 5; have hfz51_6 := blk_frozen BK288.out 6; have hfz51_7 := blk_frozen BK288.out 7; have hfz51_8 := blk_frozen BK288.out 8; have hfz51_9 := blk_frozen BK288.out 9
         go_wp2
         refine bodyPost_ret (results_ctt rfl _ _ gb288 43 #[.string x297000_2, .int .i64 x297001_2, .int .i64 x297002_2, .int .i64 x297003_2, .int .i64 x297004_2, .int .i64 x297005_2, .int .i64 x297006_2, .int .i64 x297007_2, .int .i64 x297008_2, .int .i64 x297009_2] (0, 0) _ rfl (by (with_reducible repeat (first | refine blk_drewN ?_ _ | refine blk_drew ?_ | refine blk_alloc ?_ _)); refine blk_put (cs := #[.string x297000_2, .int .i64 x297001_2, .int .i64 x297002_2, .int .i64 x297003_2, .int .i64 x297004_2, .int .i64 x297005_2, .int .i64 x297006_2, .int .i64 x297007_2, .int .i64 x297008_2, .int .i64 x289009_2]) ?_ 9 _ rfl; (with_reducible repeat (first | refine blk_drewN ?_ _ | refine blk_drew ?_ | refine blk_alloc ?_ _)); refine blk_put (cs := #[.string x297000_2, .int .i64 x297001_2, .int .i64 x297002_2, .int .i64 x297003_2, .int .i64 x297004_2, .int .i64 x297005_2, .int .i64 x297006_2, .int .i64 x297007_2, .int .i64 x289008_2, .int .i64 x289009_2]) ?_ 8 _ rfl; (with_reducible repeat (first | refine blk_drewN ?_ _ | refine blk_drew ?_ | refine blk_alloc ?_ _)); refine blk_put (cs := #[.string x297000_2, .int .i64 x297001_2, .int .i64 x297002_2, .int .i64 x297003_2, .int .i64 x297004_2, .int .i64 x297005_2, .int .i64 x297006_2, .int .i64 x289007_2, .int .i64 x289008_2, .int .i64 x289009_2]) ?_ 7 _ rfl; (with_reducible repeat (first | refine blk_drewN ?_ _ | refine blk_drew ?_ | refine blk_alloc ?_ _)); refine blk_put (cs := #[.string x297000_2, .int .i64 x297001_2, .int .i64 x297002_2, .int .i64 x297003_2, .int .i64 x297004_2, .int .i64 x297005_2, .int .i64 x289006_2, .int .i64 x289007_2, .int .i64 x289008_2, .int .i64 x289009_2]) ?_ 6 _ rfl; (with_reducible repeat (first | refine blk_drewN ?_ _ | refine blk_drew ?_ | refine blk_alloc ?_ _)); refine blk_put (cs := #[.string x297000_2, .int .i64 x297001_2, .int .i64 x297002_2, .int .i64 x297003_2, .int .i64 x297004_2, .int .i64 x289005_2, .int .i64 x289006_2, .int .i64 x289007_2, .int .i64 x289008_2, .int .i64 x289009_2]) ?_ 5 _ rfl; (with_reducible repeat (first | refine blk_drewN ?_ _ | refine blk_drew ?_ | refine blk_alloc ?_ _)); refine blk_put (cs := #[.string x297000_2, .int .i64 x297001_2, .int .i64 x297002_2, .int .i64 x297003_2, .int .i64 x289004_2, .int .i64 x289005_2, .int .i64 x289006_2, .int .i64 x289007_2, .int .i64 x289008_2, .int .i64 x289009_2]) ?_ 4 _ rfl; (with_reducible repeat (first | refine blk_drewN ?_ _ | refine blk_drew ?_ | refine blk_alloc ?_ _)); refine blk_put (cs := #[.string x297000_2, .int .i64 x297001_2, .int .i64 x297002_2, .int .i64 x289003_2, .int .i64 x289004_2, .int .i64 x289005_2, .int .i64 x289006_2, .int .i64 x289007_2, .int .i64 x289008_2, .int .i64 x289009_2]) ?_ 3 _ rfl; (with_reducible repeat (first | refine blk_drewN ?_ _ | refine blk_drew ?_ | refine blk_alloc ?_ _)); refine blk_put (cs := #[.string x297000_2, .int .i64 x297001_2, .int .i64 x289002_2, .int .i64 x289003_2, .int .i64 x289004_2, .int .i64 x289005_2, .int .i64 x289006_2, .int .i64 x289007_2, .int .i64 x289008_2, .int .i64 x289009_2]) ?_ 2 _ rfl; (with_reducible repeat (first | refine blk_drewN ?_ _ | refine blk_drew ?_ | refine blk_alloc ?_ _)); refine blk_put (cs := #[.string x297000_2, .int .i64 x289001_2, .int .i64 x289002_2, .int .i64 x289003_2, .int .i64 x289004_2, .int .i64 x289005_2, .int .i64 x289006_2, .int .i64 x289007_2, .int .i64 x289008_2, .int .i64 x289009_2]) ?_ 1 _ rfl; (with_reducible repeat (first | refine blk_drewN ?_ _ | refine blk_drew ?_ | refine blk_alloc ?_ _)); refine blk_put (cs := #[.string x289000_2, .int .i64 x289001_2, .int .i64 x289002_2, .int .i64 x289003_2, .int .i64 x289004_2, .int .i64 x289005_2, .int .i64 x289006_2, .int .i64 x289007_2, .int .i64 x289008_2, .int .i64 x289009_2]) ?_ 0 _ rfl; (with_reducible repeat (first | refine blk_drewN ?_ _ | refine blk_drew ?_ | refine blk_alloc ?_ _)); exact BK288.out) Tryd.underlying43 rfl (by kernel_rfl)) rfl ?_
         exact ⟨w7h12_, w3h12_⟩
    ·
     rw [if_neg c15] at H
     exact absurd H (by simp)
   ·
    rw [if_neg c14] at H
    exact absurd H (by simp)
end Go.Proofs.YtoiioapkebglgaaDoor.PH
end
