import Derived.Lib.SlKeysI
import Derived.LoopIn
import Derived.LoopNIn
import Derived.OwnWalkIn
import Derived.RangeFuncBox
import Derived.RangeFuncLeaves
import Derived.Shelf.Abstract
import Derived.TacticsInMore
import Derived.Test.YtokpepaoneiepaaGreatDoorCFnSides9
import Derived.Test.YtokpepaoneiepaaGreatDoorCFnSides12
set_option linter.unusedVariables false
set_option linter.unusedSimpArgs false
section
namespace Go.Proofs.YtokpepaoneiepaaGreatDoor.PL
open Go.RowKit Go.Proofs.YtokpepaoneiepaaGreatDoorW.PrintWords Go.Proofs.YtokpepaoneiepaaGreatDoorW.PrintLast Go.Proofs.YtokpepaoneiepaaGreatDoorW.PrintMore
attribute [local go_sem] min2_int min_two
section
attribute [local go_sem] Oper.semAt_some
set_option maxRecDepth 100000 in
set_option maxHeartbeats 2000000 in
theorem vals_run (F : Fence) (n : Nat) (hf : F.fn 85) (hro : F.round = none) (hn : 1 ≤ n) (l Bs n₀ : Nat) (ad : Addr) (cap : Nat) (zs : List Int) (hlen : zs.length ≤ 1000000) (J Jx : List Int → World → Prop)
  (hY : ∀ pre x W, J pre W → pre.length < zs.length → YieldAt F (n - 1) Tryz.prog l #[.int .i64 x] W fun e W' =>
   (e = .returned (.bool true) ∧ J (pre ++ [x]) W' ∧ Below n₀ W W') ∨ (e = .returned (.bool false) ∧ Jx (pre ++ [x]) W'))
  (W : World) (hBs : W.cell? ⟨Bs, 0, none⟩ = some (.slice (some ad) zs.length cap)) (hc : ∀ W', Below n₀ W W' → ∀ j, j < zs.length → W'.cell? (ad.add j) = some (.int .i64 (zs.getD j 0))) (h0 : J [] W) :
  CallsIn F n Tryz.prog 85 #[.func (.yield l) #[] #[], .pointer (some ⟨Bs, 0, none⟩)] W fun e W' => (∃ v, e = .returned v) ∧
   ((∃ ys, ys = zs ∧ J ys W') ∨ (∃ pre, True ∧ Jx pre W')) := by
 have HL := Aside0.mk hlen
 have HC := Aside0.mk hc
 have HK0 := Aside0.mk (Below.refl n₀ W)
 clear hc
 refine callsIn_of_wp Tryz.func85 rfl hf ?_ hro
 simp only [Tryz.ntmps85, List.size_toArray, List.length_cons, List.length_nil, Nat.reduceAdd, Nat.reduceSub, Array.replicate_succ, Array.replicate_zero, List.push_toArray, List.append_toArray, List.nil_append, List.cons_append]
 gi_wp2
 gi_loopw [4, 7] (fun _ s wr => ∃ (k : Nat), s = .int .i64 k ∧ Aside0 (k ≤ zs.length) ∧ J (zs.take k) wr ∧ Aside0 (Below n₀ W wr))
  (fun _ i _ => zs.length - (Go.RowKit.intOf i).toNat)
 case atStart => exact ⟨0, (by first | rfl), ⟨(by omega)⟩, (by simpa using h0), HK0⟩
 case round =>
  obtain ⟨k, rfl, HI, hJs, HK⟩ := hrel
  clear hBs h0 hlen
  by_cases hlt : k < zs.length
  ·have hx := HC.out wr HK.out k hlt
   obtain ⟨v, hv⟩ : ∃ v, zs.getD k 0 = v := ⟨_, rfl⟩
   have ht : zs.take k ++ [v] = zs.take (k + 1) := by rw [← hv, List.take_succ_eq_append_getElem hlt]; simp [List.getD, List.getElem?_eq_getElem hlt]
   rw [hv] at hx
   have HX := Aside0.mk ht
   clear hv ht
   obtain ⟨fn, tmps, assign, body, hy, hR⟩ := hY _ v wr hJs (by rw [List.length_take]; omega)
   try dsimp only at hy
   have q0 : ((0 : Int) ≤ (k : Int)) = True := eq_true (by omega)
   have q1 : ((k : Int) < (zs.length : Int)) = True := eq_true (by omega)
   have b0 : decide ((k : Int) < (zs.length : Int)) = true := decide_eq_true (by omega)
   have HT := Aside0.mk hlt
   clear hlt
   gi_wp2
   refine hR.mono ?_
   rintro e W3 (⟨rfl, hJ3, hk3⟩ | ⟨rfl, hJx3⟩)
   ·have HK3 := Aside0.mk (HK.out.trans hk3)
    clear hk3
    rw [HX.out] at hJ3
    have HW := Aside0.mk (show wrap64 ((k : Int) + 1) = ((k + 1 : Nat) : Int) by unfold wrap64; have := HL.out; have := HT.out; omega)
    gi_wp2
    go_roundw
    case rel => exact ⟨k + 1, (by rw [HW.out]), ⟨(by have := HT.out; omega)⟩, hJ3, HK3⟩
    case measure => rw [HW.out]; have := HT.out; simp only [Go.RowKit.intOf]; omega
   ·rw [HX.out] at hJx3
    gi_wp2
    refine bodyPost_ret (results_none rfl _ _ _) rfl ?_
    exact ⟨⟨_, rfl⟩, .inr ⟨_, trivial, hJx3⟩⟩
  ·obtain rfl : k = zs.length := by have := HI.out; omega
   have b0 : decide ((zs.length : Int) < (zs.length : Int)) = false := decide_eq_false (by omega)
   rw [List.take_length] at hJs
   clear hlt
   gi_wp2
   go_end0
   first | exact ⟨⟨_, rfl⟩, .inl ⟨_, rfl, hJs⟩⟩ | exact ⟨⟨_, rfl⟩, .inl hJs⟩
theorem vals_contract (A0 : Option Addr) (n c : Nat) (w : World) :
  Calls Tryz.prog 64 #[.slice A0 n c] w fun e w' => e = .returned (.func (.func 85) #[] #[.pointer (some ⟨w.heap.size, 0, none⟩)]) ∧ w' = w.alloc (.cells #[.slice A0 n c] 24) := by
 go_enter Tryz.func64, Tryz.ntmps64
 go_wp2
 go_ret
 exact ⟨rfl, rfl⟩
theorem vals_stops (n Bs n₀ : Nat) (hn : 1 ≤ n) (A0 : Option Addr) (cap : Nat) (zs : List Int) (hpos : 0 < zs.length) (hlen : zs.length ≤ 1000000) (w0 w : World) (hw0 : n₀ = w0.heap.size) (hb : Below n₀ w0 w) (hBs : Bs < w0.heap.size)
  (hc : w0.cell? ⟨Bs, 0, none⟩ = some (.slice A0 zs.length cap)) (hr : Kd.C (Kd.int .i64) w0 A0 zs.length zs) :
  SeqStopsK Fence.wide n Tryz.prog 85 #[.pointer (some ⟨Bs, 0, none⟩)] (fun x : Int => #[Value.int .i64 x]) (Below n₀) (fun ys => ys = zs) (fun _ => True) zs.length w := fun l J Jx W hW _ _ hY h0 => by
 subst hw0
 obtain ⟨ad, e, _⟩ := Kd.at_int hr 0 (Int.le_refl 0) (by omega)
 subst e
 have hbW : Below w0.heap.size w0 W := hb.trans (hW.mono hb.size)
 refine (vals_run Fence.wide n trivial rfl hn l Bs w0.heap.size ad cap zs hlen J Jx hY W ((hbW.cell (p := ⟨Bs, 0, none⟩) hBs).trans hc) ?_ h0).mono ?_
 ·intro W' hk j hj
  obtain ⟨ad', e, hx⟩ := Kd.at_int (Kd.C_below hr (hbW.trans hk)) (j : Int) (by omega) (by omega)
  injection e with e
  subst e
  simpa [rd] using hx
 ·rintro e W' ⟨he, ⟨ys, rfl, hj⟩ | ⟨pre, _, hj⟩⟩
  ·exact ⟨he, .inl ⟨_, rfl, hj⟩⟩
  ·exact ⟨he, .inr ⟨_, trivial, hj⟩⟩
theorem ownV {β : Type} (B n₁ : Nat) (hB : B < n₁) (W5 : World) (hn : n₁ = W5.heap.size) (cs : Value → Array Value) (t : TypeId) (f : β → List Value) :
  OwnFrom n₁ (fun (s : β) (W' : World) => ∃ v, W'.heap[B]? = some (.cells (cs v) t (0, 0)) ∧ W'.ownsRow n₁ 2 1 v (f s).length (f s) ∧ ∀ k, k < n₁ → k ≠ B → W'.heap[k]? = W5.heap[k]?) := by
 rintro s X Y row ⟨v, hv, hr, hk⟩ hg hrow
 have hne : ∀ k, k < n₁ → some k ≠ row := fun k hk e => by have := (hrow k e.symm).1; omega
 refine ⟨v, (hg.block B (Array.getElem?_eq_some_iff.1 hv).1 (hne B hB)).trans hv, hr.kept hg ?_, fun k h1 h2 => ?_⟩
 ·rcases hr.2 with ⟨rfl, _⟩ | ⟨g, cap, cur, rfl, _, hgb, _⟩
  ·exact .inl rfl
  ·refine .inr fun e' => ?_
   obtain ⟨_, o, ho, hc⟩ := hrow g (by simpa [Value.ownBlock] using e'.symm)
   rw [hgb] at ho; cases ho; cases hc
 ·by_cases hx : k < X.heap.size
  ·exact (hg.block k hx (hne k h1)).trans (hk k h1 h2)
  ·have h3 := hk k h1 h2
   rw [Array.getElem?_eq_none (by omega), Array.getElem?_eq_getElem (by omega)] at h3
   cases h3
theorem appendedV {W w1 : World} {n₁ B t m k : Nat} {v v' : Value} {xs ys : List Value} {tmp : Obj} (hv : W.heap[B]? = some (.cells #[v] t (0, 0))) (hrow : W.ownsRow n₁ 2 1 v k xs) (hn : n₁ ≤ W.heap.size) (hB : B < n₁)
  (hown' : w1.ownsRow n₁ 2 1 v' m ys) (hgrow : (W.alloc tmp).grownBy w1 v.ownBlock) :
  w1.heap[B]? = some (.cells #[v] t (0, 0)) ∧ (w1.setCell ⟨B, 0, none⟩ v').heap[B]? = some (.cells #[v'] t (0, 0)) ∧ (w1.setCell ⟨B, 0, none⟩ v').ownsRow n₁ 2 1 v' m ys ∧ KeepsOthers W (w1.setCell ⟨B, 0, none⟩ v') ∧
   (∀ k, k < n₁ → k ≠ B → (w1.setCell ⟨B, 0, none⟩ v').heap[k]? = W.heap[k]?) ∧ (∀ n₀, n₀ ≤ B → Below n₀ W (w1.setCell ⟨B, 0, none⟩ v')) := by
 have hvb : ∀ k, v.ownBlock = some k → n₁ ≤ k := own_base hrow
 have hne : ∀ k, k < n₁ → some k ≠ v.ownBlock := fun k hk e => by have := hvb k e.symm; omega
 have hsz : W.heap.size ≤ (W.alloc tmp).heap.size := by simp
 have hb : ∀ k, k < n₁ → w1.heap[k]? = W.heap[k]? := fun k hk => (hgrow.block k (by omega) (hne k hk)).trans (Below.heap_alloc _ _ _ (by omega))
 have h1 : w1.heap[B]? = some (.cells #[v] t (0, 0)) := (hb B hB).trans hv
 refine ⟨h1, ?_, ?_, ?_, ?_, ?_⟩
 ·simp [World.setCell, Array.getElem?_modify, h1]
 ·refine own_move hown' (fun k hk => Below.heap_setCell _ _ _ k (fun e => ?_))
  have := own_base hown' k hk
  change k = B at e
  omega
 ·refine ((KeepsOthers.alloc W tmp).trans (KeepsOthers.of_grownBy hgrow fun j o ej hj => ?_)).trans (KeepsOthers.setCell _ _ _)
  obtain ⟨cells, hc⟩ := own_typed hrow j ej
  have hlt := own_lt hrow j ej
  rw [Below.heap_alloc _ _ _ hlt, hc] at hj
  cases hj; rfl
 ·intro k hk hkB
  exact (Below.heap_setCell _ _ _ k (fun e => hkB e)).trans (hb k hk)
 ·intro n₀ hn₀
  exact ((((Below.refl n₀ W).alloc (by omega) tmp).grown hgrow (by simp; omega) (fun j ej => by have := hvb j ej; omega)).setCell (p := ⟨B, 0, none⟩) hn₀ v')
def onlyRetV (Q : Exit → Act → World → Prop) : Exit → Act → World → Prop
 | .ret, a, w => Q .ret a w
 | _, _, _ => False
theorem wp_onlyRetV {P : Program} {c : Code} {Q : Exit → Act → World → Prop} {a : Act} {w : World} (h : c.wp P (onlyRetV Q) a w) : c.wp P Q a w :=
 wp_mono h (fun e a w hq => by cases e <;> first | exact hq | exact hq.elim)
theorem infoV : (Tryz.prog.info? 2).map (fun i => (i.zero, i.size, i.bytes)) = some (some (.int .i64 0), 1, 8) := by kernel_rfl
theorem R_putObjV {α : Type} {d : Kd α} {e base : Nat} {ok : Nat → Prop} {W : World} {v : Value} {xs : List α} (h : d.R e W base ok v xs) {D : Nat} {o : Obj} (o' : Obj) (hD : W.heap[D]? = some o) (ho : o.isCells = false) : d.R e (W.putObj D o') base ok v xs :=
 Kd.R_mono (Kd.R_move (Kd.R_bound h) (fun k hk => World.putObj_heap_other (fun e => by
  obtain ⟨_, _, _, q, _, cells, hc⟩ := hk
  rw [e, hD] at hc
  injection hc with hc
  rw [hc] at ho
  cases ho))) (fun _ hk => hk.1)
set_option maxHeartbeats 4000000 in
set_option maxRecDepth 100000 in
theorem appendSeqV (Bv cv : Nat) (A0 : Option Addr) (zs : List Int) (hpos : 0 < zs.length) (hlen : zs.length ≤ 1000) (w : World) (hb : Bv < w.heap.size) (hc : w.cell? ⟨Bv, 0, none⟩ = some (.slice A0 zs.length cv)) (hr : Kd.C (Kd.int .i64) w A0 zs.length zs) :
  Calls Tryz.prog 104 #[.slice none 0 0, .func (.func 85) #[] #[.pointer (some ⟨Bv, 0, none⟩)]] w fun e w' => ∃ v, e = .returned v ∧ Kd.R (Kd.int .i64) 2 w' w.heap.size (fun _ => True) v zs ∧ Below w.heap.size w w' := by
 refine callsIn_wide.1 (callsIn_of_wp_marks (n := 6) Tryz.func104 rfl trivial (wpIn_wide.2 (wp_onlyRetV ?_)) rfl)
 simp only [Tryz.ntmps104, List.size_toArray, List.length_cons, List.length_nil, Nat.reduceAdd, Nat.reduceSub, Array.replicate_succ, Array.replicate_zero, List.push_toArray, List.append_toArray, List.nil_append, List.cons_append]
 obtain ⟨i0, hi, hz0, hz1, hz2⟩ := info_parts infoV
 obtain ⟨W4, hW4⟩ : ∃ W4, W4 = w.alloc (.cells #[.slice none 0 0] 24) := ⟨_, rfl⟩
 have hv4 : W4.heap[w.heap.size]? = some (.cells #[.slice none 0 0] 24 (0, 0)) := by rw [hW4]; exact World.alloc_heap_new w _
 have hB4 : Below w.heap.size w W4 := by rw [hW4]; exact (Below.refl _ w).alloc (Nat.le_refl _) _
 have hs4 : W4.heap.size = w.heap.size + 1 := by rw [hW4]; simp
 go_wp2
 rw [← hW4]
 refine (wpIn_wide (n := 6)).1 (wpIn_rangeFunc_ownG (α := Int) rfl (by omega) (gf := 85) (lb := #[.pointer (some ⟨Bv, 0, none⟩)]) rfl trivial (enters_of Tryz.func85 (by kernel_rfl) rfl)
  (vals_stops 5 Bv w.heap.size (by omega) A0 cv zs hpos (by omega) w W4 rfl hB4 hb hc hr) (fun h k => h.trans k) (belowK_b (by omega)) (Below.refl _ _) (fun _ => rfl)
  (fun pre W' => (∃ v, W'.heap[w.heap.size]? = some (.cells #[v] 24 (0, 0)) ∧ W'.ownsRow W4.heap.size 2 1 v ((pre.map (Value.int .i64)).length) (pre.map (Value.int .i64)) ∧ ∀ k, k < W4.heap.size → k ≠ w.heap.size → W'.heap[k]? = W4.heap[k]?) ∧ Below w.heap.size w W')
  (fun _ _ _ => False)
  (OwnFrom.and (ownV w.heap.size W4.heap.size (by omega) W4 rfl (fun v => #[v]) 24 (fun pre : List Int => pre.map (Value.int .i64))) (ownFrom_below (Nat.le_refl _) (by omega)))
  (fun _ _ _ _ _ hs _ _ => hs)
  ⟨⟨_, hv4, World.ownsRow_nil _ _ _ _, fun _ _ _ => rfl⟩, hB4⟩
  (fun x => { tmps := #[.slice none 0 0, .func (.func 85) #[] #[.pointer (some ⟨Bv, 0, none⟩)], .pointer (some ⟨w.heap.size, 0, none⟩), undef, .slice none 0 0, .int .i64 x, .func (.func 85) #[] #[.pointer (some ⟨Bv, 0, none⟩)], .int .i64 x, undef, undef, undef, undef, undef], defers := [] }) ?assign ?body ?done ?stop)
 case assign =>
  intro l x W K hK
  gi_wp2
  exact hK
 case body =>
  rintro l pre x W5 ⟨⟨v, hv, hrow, hk5⟩, hB⟩ hlt
  have hc : W5.cell? ⟨w.heap.size, 0, none⟩ = some v := by simp [World.cell?, hv]
  have hsz5 : W4.heap.size ≤ W5.heap.size := by
   rcases Nat.lt_or_ge W5.heap.size W4.heap.size with hx | hx
   ·have h3 := hk5 W5.heap.size hx (by have := (Array.getElem?_eq_some_iff.1 hv).1; omega)
    rw [Array.getElem?_eq_none (Nat.le_refl _), Array.getElem?_eq_getElem hx] at h3
    cases h3
   ·exact hx
  have hBlt : w.heap.size < W4.heap.size := by omega
  have hpl : pre.length ≤ 1000000 := by omega
  gi_wp2_with (gi_at_builtin; refine wpListIn_append_own _ rfl _ _ 24 rfl W4.heap.size 2 i0 (.int .i64 0) 1 8 Tryz.underlying24 hi hz0 hz1 hz2 rfl (by decide) _ _ _ rfl (hrow.alloc _) ⟨W5.heap.size, 0, none⟩ 1 1 [.int .i64 x] rfl rfl (cell_one_new _ _ _) (by simp [Value.oneCell']) (by simp [maxLen]; omega) (by simp; omega) (by simp; omega) ?_; intro v' w1 hown' hgrow _; obtain ⟨g', cap', rfl⟩ := ownsRow_succ hown'; obtain ⟨hv1, hv2, hr2, hk2, hs2, hb2⟩ := appendedV hv hrow hsz5 hBlt hown' hgrow; have hc1 : w1.cell? ⟨w.heap.size, 0, none⟩ = some v := (by simp [World.cell?, hv1]); have hf1 : w1.frozen? ⟨w.heap.size, 0, none⟩ = false := (by simp [World.frozen?, hv1]))
  simp only [List.length_map] at hv2 hr2 hk2 hs2 hb2
  refine ⟨hk2.from _, hb2 w.heap.size (Nat.le_refl _), ⟨_, hv2, ?_, fun k hk hkB => (hs2 k hk hkB).trans (hk5 k hk hkB)⟩, hB.trans (hb2 w.heap.size (Nat.le_refl _))⟩
  simpa using hr2
 case done =>
  rintro D ys W5 hD rfl ⟨⟨v, hv, hrow, hk5⟩, hB⟩ hK
  have hR : Kd.R (Kd.int .i64) 2 W5 w.heap.size (fun _ => True) v ys := Kd.R_lower (base := W4.heap.size) (Kd.R_of_own (by simpa [encs] using hrow) (fun _ _ => trivial)) (by omega)
  have hc : W5.cell? ⟨w.heap.size, 0, none⟩ = some v := by simp [World.cell?, hv]
  obtain ⟨g, cp, rfl, _, _, _⟩ := Kd.R_form hR hpos
  have HR := Aside0.mk hR
  have HB := Aside0.mk hB
  have HK := Aside0.mk hK
  have HD := Aside0.mk (show w.heap.size ≤ D by omega)
  clear hR hB hK hrow hk5 hv hD hv4 hB4 hs4
  go_wp2
  show LeavesInM Fence.wide 6 Tryz.prog Tryz.f104 _ _ _ .returning W5
  refine ⟨by simp, .inl ⟨_, _, rfl, run_takeDeferred HK.out, ?_⟩⟩
  have hb' : Below w.heap.size w (W5.putObj D (.deferred none)) := HB.out.trans (belowK_b (w := w) (Nat.le_refl _) W5 D _ _ HD.out HK.out rfl rfl)
  refine ⟨.slice (some ⟨g, 0, none⟩) ys.length cp, ?_, _, rfl, R_putObjV HR.out (.deferred none) HK.out rfl, hb'⟩
  simp [results, Tryz.f104, go_sem]
 case stop =>
  rintro D c pre W _ _ h _
  exact h.elim
theorem collectV (Bv cv : Nat) (A0 : Option Addr) (zs : List Int) (hpos : 0 < zs.length) (hlen : zs.length ≤ 1000) (w : World) (hb : Bv < w.heap.size) (hc : w.cell? ⟨Bv, 0, none⟩ = some (.slice A0 zs.length cv)) (hr : Kd.C (Kd.int .i64) w A0 zs.length zs) :
  Calls Tryz.prog 83 #[.func (.func 85) #[] #[.pointer (some ⟨Bv, 0, none⟩)]] w fun e w' => ∃ v, e = .returned v ∧ Kd.R (Kd.int .i64) 2 w' w.heap.size (fun _ => True) v zs ∧ Below w.heap.size w w' := by
 have H := Aside0.mk (appendSeqV Bv cv A0 zs hpos hlen w hb hc hr)
 clear hb hc hr
 go_enter Tryz.func83, Tryz.ntmps83
 go_wp2_with (go_at_call 104; refine H.out.mono ?_; rintro e w2 ⟨v, rfl, hR, hb⟩; obtain ⟨g, cp, rfl, _, _, _⟩ := Kd.R_form hR hpos)
 go_ret
 exact ⟨_, rfl, hR, hb⟩
def sortI (zs : List Int) : List Int := zs.mergeSort (fun x y => decide (x ≤ y))
theorem sortI_length (zs : List Int) : (sortI zs).length = zs.length := by simp [sortI]
theorem sortV (base : Nat) (A0 : Option Addr) (c0 : Nat) (zs : List Int) (hpos : 0 < zs.length) (hlen : zs.length ≤ 1000) (W : World) (hR : Kd.R (Kd.int .i64) 2 W base (fun _ => True) (.slice A0 zs.length c0) zs) (hB : base ≤ W.heap.size) :
  Calls Tryz.prog 84 #[.slice A0 zs.length c0] W fun e w' => e = .returned (.tuple #[]) ∧ Kd.R (Kd.int .i64) 2 w' base (fun _ => True) (.slice A0 zs.length c0) (sortI zs) ∧ Below base W w' := by
 have ho := Kd.own_of_R hR
 rcases ho.2 with ⟨_, h0⟩ | ⟨g, cap, cur, he, hbg, hgb, r1, r2, r3, r4⟩
 ·omega
 injection he with ea _ ec
 subst ea ec
 have hH : Sort.Holds (Value.int .i64) W g 0 zs.toArray := holds_of_block_i hgb (by simpa [encs] using r4)
 have hgl : g < W.heap.size := (Array.getElem?_eq_some_iff.1 hgb).1
 refine (Go.Proofs.Tryz.slices_Sort_int g 0 c0 zs W hH hgl (by omega)).mono ?_
 rintro e w' ⟨rfl, nn, os, rfl⟩
 refine ⟨rfl, ?_, (Below.refl base W).grown (grownBy_sorted_i _) hB (fun j hj => by cases hj; exact hbg)⟩
 have h := ownsRow_sorted_i (os := os) (n := nn) (ss := zs) (ts := sortI zs) (sortI_length zs) hbg hgb r1 r2 r3
 refine Kd.R_of_own ?_ (fun _ _ => trivial)
 rw [sortI_length]
 exact h
theorem sortedV (Bv cv : Nat) (A0 : Option Addr) (zs : List Int) (hpos : 0 < zs.length) (hlen : zs.length ≤ 1000) (w : World) (hb : Bv < w.heap.size) (hc : w.cell? ⟨Bv, 0, none⟩ = some (.slice A0 zs.length cv)) (hr : Kd.C (Kd.int .i64) w A0 zs.length zs) :
  Calls Tryz.prog 63 #[.func (.func 85) #[] #[.pointer (some ⟨Bv, 0, none⟩)]] w fun e w' => ∃ v, e = .returned v ∧ Kd.R (Kd.int .i64) 2 w' w.heap.size (fun _ => True) v (sortI zs) ∧ Below w.heap.size w w' := by
 have H := Aside0.mk (collectV Bv cv A0 zs hpos hlen w hb hc hr)
 clear hb hc hr
 go_enter Tryz.func63, Tryz.ntmps63
 go_wp2_with (first | (go_at_call 83; refine H.out.mono ?_; rintro e w2 ⟨v, rfl, hR, hb⟩; obtain ⟨g, cp, rfl, _, _, _⟩ := Kd.R_form hR hpos; have HB := Aside0.mk hb; have HS := Aside0.mk (sortV w.heap.size _ cp zs hpos hlen w2 hR hb.size); clear hR hb) | (go_at_call 84; refine HS.out.mono ?_; rintro e w3 ⟨rfl, hR3, hb3⟩; have HR3 := Aside0.mk hR3; have HB3 := Aside0.mk (HB.out.trans hb3); clear hR3 hb3))
 go_ret
 exact ⟨_, rfl, HR3.out, HB3.out⟩
end
end Go.Proofs.YtokpepaoneiepaaGreatDoor.PL
end
