import Derived.LoopIn
import Derived.LoopNIn
import Derived.OwnWalkIn
import Derived.RangeFuncBox
import Derived.RangeFuncLeaves
import Derived.Shelf.Abstract
import Derived.TacticsInMore
import Derived.Test.YtokpepaoneiepaaGreatDoorCFnSides21
set_option linter.unusedVariables false
set_option linter.unusedSimpArgs false
section
namespace Go.Proofs.YtokpepaoneiepaaGreatDoor.PL
open Go.RowKit Go.Proofs.YtokpepaoneiepaaGreatDoorW.PrintWords Go.Proofs.YtokpepaoneiepaaGreatDoorW.PrintLast Go.Proofs.YtokpepaoneiepaaGreatDoorW.PrintMore
attribute [local go_sem] min2_int min_two
section
attribute [local go_sem] Oper.semAt_some
def upto {α : Type} (f : Nat → α) (k : Nat) : List α := (List.range k).map f
theorem upto_succ {α : Type} (f : Nat → α) (k : Nat) : upto f (k + 1) = upto f k ++ [f k] := by simp [upto, List.range_succ]
theorem upto_length {α : Type} (f : Nat → α) (k : Nat) : (upto f k).length = k := by simp [upto]
def backAt (zs : List Int) (k : Nat) : Int × Int := (((zs.length - 1 - k : Nat) : Int), zs.getD (zs.length - 1 - k) 0)
theorem back_all (zs : List Int) : (upto (backAt zs) zs.length).map (·.2) = zs.reverse := by
 apply List.ext_getElem
 ·simp [upto]
 ·intro i h1 h2
  have hi : i < zs.length := by simpa using h2
  simp [upto, backAt, List.getD, List.getElem?_eq_getElem (show zs.length - 1 - i < zs.length by omega)]
def KeepsBox (n B : Nat) (W W' : World) : Prop := Below n W W' ∧ W'.heap[B]? = W.heap[B]?
theorem back_at (zs : List Int) (k : Nat) (i : Int) (hi : i = (zs.length : Int) - 1 - k) (h0 : 0 ≤ i) : (i, zs.getD i.toNat 0) = backAt zs k := by
 have e : i.toNat = zs.length - 1 - k := by omega
 unfold backAt
 rw [← e]
 congr 1
 omega
set_option maxRecDepth 100000 in
set_option maxHeartbeats 2000000 in
theorem back_run (F : Fence) (n : Nat) (hf : F.fn 59) (hro : F.round = none) (hn : 1 ≤ n) (l Bs n₀ : Nat) (ad : Addr) (cap : Nat) (zs : List Int) (hlen : zs.length ≤ 1000000) (J Jx : List (Int × Int) → World → Prop)
  (hY : ∀ pre x W, J pre W → pre.length < zs.length → YieldAt F (n - 1) Tryz.prog l #[.int .i64 x.1, .int .i64 x.2] W fun e W' =>
   (e = .returned (.bool true) ∧ J (pre ++ [x]) W' ∧ KeepsBox n₀ Bs W W') ∨ (e = .returned (.bool false) ∧ Jx (pre ++ [x]) W'))
  (W : World) (hBs : ∀ W', KeepsBox n₀ Bs W W' → W'.cell? ⟨Bs, 0, none⟩ = some (.slice (some ad) zs.length cap)) (hc : ∀ W', KeepsBox n₀ Bs W W' → ∀ j, j < zs.length → W'.cell? (ad.add j) = some (.int .i64 (zs.getD j 0))) (h0 : J [] W) :
  CallsIn F n Tryz.prog 59 #[.func (.yield l) #[] #[], .pointer (some ⟨Bs, 0, none⟩)] W fun e W' => (∃ v, e = .returned v) ∧
   ((∃ ys, ys = upto (backAt zs) zs.length ∧ J ys W') ∨ (∃ pre, (∃ k, k ≤ zs.length ∧ pre = upto (backAt zs) k) ∧ Jx pre W')) := by
 have hk0 : KeepsBox n₀ Bs W W := ⟨Below.refl _ _, rfl⟩
 have hBs0 := hBs W hk0
 have HL := Aside0.mk hlen
 have HBS := Aside0.mk hBs
 have HC := Aside0.mk hc
 have HK0 := Aside0.mk hk0
 clear hBs hc hk0
 have hwl : wrap64 ((zs.length : Int) - 1) = (zs.length : Int) - 1 := by unfold wrap64; omega
 refine callsIn_of_wp Tryz.func59 rfl hf ?_ hro
 simp only [Tryz.ntmps59, List.size_toArray, List.length_cons, List.length_nil, Nat.reduceAdd, Nat.reduceSub, Array.replicate_succ, Array.replicate_zero, List.push_toArray, List.append_toArray, List.nil_append, List.cons_append]
 gi_wp2
 gi_loopw [3] (fun s wr => ∃ (k : Nat) (i : Int), s = .int .i64 i ∧ Aside0 (k ≤ zs.length ∧ i = (zs.length : Int) - 1 - k) ∧ J (upto (backAt zs) k) wr ∧ Aside0 (KeepsBox n₀ Bs W wr))
  (fun i _ => (intOf i + 1).toNat)
 case atStart => exact ⟨0, (zs.length : Int) - 1, (by first | rfl | (rw [hwl])), ⟨(by omega)⟩, h0, HK0⟩
 case round =>
  obtain ⟨k, i, rfl, HI, hJs, HK⟩ := hrel
  clear hBs0 hwl h0 hlen
  have hBsr := HBS.out wr HK.out
  by_cases hlt : 0 ≤ i
  ·have hk : k < zs.length := by have := HI.out; omega
   have hil : i < (zs.length : Int) := by have := HI.out; omega
   have hcx := HC.out wr HK.out i.toNat (by omega)
   have hx := back_at zs k i HI.out.2 hlt
   obtain ⟨v, hv⟩ : ∃ v, zs.getD i.toNat 0 = v := ⟨_, rfl⟩
   rw [hv] at hcx hx
   have HX := Aside0.mk hx
   clear hv hx
   obtain ⟨fn, tmps, assign, body, hy, hR⟩ := hY _ (i, v) wr hJs (by rw [upto_length]; exact hk)
   dsimp only at hy
   have HT := Aside0.mk hlt
   gi_wp2
   refine hR.mono ?_
   rintro e W3 (⟨rfl, hJ3, hk3⟩ | ⟨rfl, hJx3⟩)
   ·have HK3 := Aside0.mk (show KeepsBox n₀ Bs W W3 from ⟨HK.out.1.trans hk3.1, hk3.2.trans HK.out.2⟩)
    clear hk3
    rw [HX.out] at hJ3
    have HW := Aside0.mk (show wrap64 (i - 1) = i - 1 by unfold wrap64; have := HL.out; have := HI.out; have := HT.out; omega)
    gi_wp2
    go_roundw
    case rel => exact ⟨k + 1, wrap64 (i - 1), rfl, ⟨(by rw [HW.out]; have := HI.out; have := HT.out; omega)⟩, (by rw [upto_succ]; exact hJ3), HK3⟩
    case measure => rw [HW.out]; have := HT.out; simp only [intOf]; omega
   ·rw [HX.out] at hJx3
    gi_wp2
    refine bodyPost_ret (results_none rfl _ _ _) rfl ?_
    exact ⟨⟨_, rfl⟩, .inr ⟨_, ⟨k + 1, hk, (upto_succ _ _).symm⟩, hJx3⟩⟩
  ·obtain rfl : k = zs.length := by have := HI.out; omega
   gi_wp2
   go_end0
   first | exact ⟨⟨_, rfl⟩, .inl ⟨_, rfl, hJs⟩⟩ | exact ⟨⟨_, rfl⟩, .inl hJs⟩
theorem backward (A0 : Option Addr) (n c : Nat) (w : World) :
  Calls Tryz.prog 33 #[.slice A0 n c] w fun e w' => e = .returned (.func (.func 59) #[] #[.pointer (some ⟨w.heap.size, 0, none⟩)]) ∧ w' = w.alloc (.cells #[.slice A0 n c] 24) := by
 go_enter Tryz.func33, Tryz.ntmps33
 go_wp2
 go_ret
 exact ⟨rfl, rfl⟩
theorem keepsBox_t {n B : Nat} {X Y Z : World} (h : KeepsBox n B X Y) (k : KeepsBox n B Y Z) : KeepsBox n B X Z := ⟨h.1.trans k.1, k.2.trans h.2⟩
theorem keepsBox_b {n B : Nat} {w : World} (hn : n ≤ w.heap.size) (hB : B < w.heap.size) (W : World) (l : Nat) (o o' : Obj) (hl : w.heap.size ≤ l) (h : W.heap[l]? = some o) (h1 : o.isCells = false) (h2 : o.isWalk = false) : KeepsBox n B W (W.putObj l o') :=
 ⟨belowK_b hn W l o o' hl h h1 h2, World.putObj_heap_other (by omega)⟩
theorem back_stops (n Bs n₀ : Nat) (hn : 1 ≤ n) (A0 : Option Addr) (cap : Nat) (zs : List Int) (hpos : 0 < zs.length) (hlen : zs.length ≤ 1000000) (w0 w : World) (hw0 : n₀ = w0.heap.size) (hb : Below n₀ w0 w) (hBs : Bs < w.heap.size)
  (hc : w.cell? ⟨Bs, 0, none⟩ = some (.slice A0 zs.length cap)) (hr : Kd.C (Kd.int .i64) w0 A0 zs.length zs) :
  SeqStopsK Fence.wide n Tryz.prog 59 #[.pointer (some ⟨Bs, 0, none⟩)] (fun x : Int × Int => #[Value.int .i64 x.1, Value.int .i64 x.2]) (KeepsBox n₀ Bs) (fun ys => ys = upto (backAt zs) zs.length) (fun _ => True) zs.length w := fun l J Jx W hW _ _ hY h0 => by
 subst hw0
 obtain ⟨ad, e, _⟩ := Kd.at_int hr 0 (Int.le_refl 0) (by omega)
 subst e
 refine (back_run Fence.wide n trivial rfl hn l Bs w0.heap.size ad cap zs hlen J Jx hY W ?_ ?_ h0).mono ?_
 ·intro W' hk
  have h1 : W.cell? ⟨Bs, 0, none⟩ = some (.slice (some ad) zs.length cap) := (hW.cell (p := ⟨Bs, 0, none⟩) hBs).trans hc
  exact (World.cell?_of_block (a := ⟨Bs, 0, none⟩) hk.2).trans h1
 ·intro W' hk j hj
  have hb2 : Below w0.heap.size w0 W' := (hb.trans (hW.mono hb.size)).trans hk.1
  obtain ⟨ad', e, hx⟩ := Kd.at_int (Kd.C_below hr hb2) (j : Int) (by omega) (by omega)
  injection e with e
  subst e
  simpa [rd] using hx
 ·rintro e W' ⟨he, ⟨ys, rfl, hj⟩ | ⟨pre, ⟨k, hk, rfl⟩, hj⟩⟩
  ·exact ⟨he, .inl ⟨_, rfl, hj⟩⟩
  ·exact ⟨he, .inr ⟨_, trivial, hj⟩⟩
theorem turn_own {β : Type} (B n₁ : Nat) (hB : B < n₁) (W5 : World) (hn : n₁ = W5.heap.size) (cs : Value → Array Value) (t : TypeId) (f : β → List Value) :
  OwnFrom n₁ (fun (s : β) (W' : World) => ∃ v, W'.heap[B]? = some (.cells (cs v) t (0, 0)) ∧ W'.ownsRow n₁ 2 1 v (f s).length (f s) ∧ ∀ k, k < n₁ → k ≠ B → W'.heap[k]? = W5.heap[k]?) := by
 rintro s X Y row ⟨v, hv, hr, hk⟩ hg hrow
 have hne : ∀ k, k < n₁ → some k ≠ row := fun k hk e => by have := (hrow k e.symm).1; omega
 refine ⟨v, (hg.block B (Array.getElem?_eq_some_iff.1 hv).1 (hne B hB)).trans hv, hr.kept hg ?_, fun k h1 h2 => ?_⟩
 ·rcases hr.2 with ⟨rfl, _⟩ | ⟨g, cap, cur, rfl, _, hgb, _⟩
  ·exact .inl rfl
  ·refine .inr fun e' => ?_
   obtain ⟨_, o, ho, hc⟩ := hrow g (by simpa [Value.ownBlock] using e'.symm)
   rw [hgb] at ho; cases ho; cases hc
 ·by_cases hx : k < X.heap.size
  ·exact (hg.block k hx (hne k h1)).trans (hk k h1 h2)
  ·have h3 := hk k h1 h2
   rw [Array.getElem?_eq_none (by omega), Array.getElem?_eq_getElem (by omega)] at h3
   cases h3
theorem turn_appended {W w1 : World} {n₁ B t m k : Nat} {c0 c1 c2 v v' : Value} {xs ys : List Value} {tmp : Obj} (hv : W.heap[B]? = some (.cells #[c0, c1, c2, v] t (0, 0))) (hrow : W.ownsRow n₁ 2 1 v k xs) (hn : n₁ ≤ W.heap.size) (hB : B < n₁)
  (hown' : w1.ownsRow n₁ 2 1 v' m ys) (hgrow : (W.alloc tmp).grownBy w1 v.ownBlock) :
  w1.heap[B]? = some (.cells #[c0, c1, c2, v] t (0, 0)) ∧ (w1.setCell ⟨B, 3, none⟩ v').heap[B]? = some (.cells #[c0, c1, c2, v'] t (0, 0)) ∧ (w1.setCell ⟨B, 3, none⟩ v').ownsRow n₁ 2 1 v' m ys ∧ KeepsOthers W (w1.setCell ⟨B, 3, none⟩ v') ∧
   (∀ k, k < n₁ → k ≠ B → (w1.setCell ⟨B, 3, none⟩ v').heap[k]? = W.heap[k]?) ∧ (∀ n₀, n₀ ≤ B → Below n₀ W (w1.setCell ⟨B, 3, none⟩ v')) := by
 have hvb : ∀ k, v.ownBlock = some k → n₁ ≤ k := own_base hrow
 have hne : ∀ k, k < n₁ → some k ≠ v.ownBlock := fun k hk e => by have := hvb k e.symm; omega
 have hsz : W.heap.size ≤ (W.alloc tmp).heap.size := by simp
 have hb : ∀ k, k < n₁ → w1.heap[k]? = W.heap[k]? := fun k hk => (hgrow.block k (by omega) (hne k hk)).trans (Below.heap_alloc _ _ _ (by omega))
 have h1 : w1.heap[B]? = some (.cells #[c0, c1, c2, v] t (0, 0)) := (hb B hB).trans hv
 refine ⟨h1, ?_, ?_, ?_, ?_, ?_⟩
 ·simp [World.setCell, Array.getElem?_modify, h1]
 ·refine own_move hown' (fun k hk => Below.heap_setCell _ _ _ k (fun e => ?_))
  have := own_base hown' k hk
  change k = B at e
  omega
 ·refine ((KeepsOthers.alloc W tmp).trans (KeepsOthers.of_grownBy hgrow fun j o ej hj => ?_)).trans (KeepsOthers.setCell _ _ _)
  obtain ⟨cells, hc⟩ := own_typed hrow j ej
  have hlt := own_lt hrow j ej
  rw [Below.heap_alloc _ _ _ hlt, hc] at hj
  cases hj; rfl
 ·intro k hk hkB
  exact (Below.heap_setCell _ _ _ k (fun e => hkB e)).trans (hb k hk)
 ·intro n₀ hn₀
  exact ((((Below.refl n₀ W).alloc (by omega) tmp).grown hgrow (by simp; omega) (fun j ej => by have := hvb j ej; omega)).setCell (p := ⟨B, 3, none⟩) hn₀ v')
theorem store4 (W : World) (g : Nat) (t : TypeId) (d0 d1 d2 d3 c0 c1 c2 c3 : Value) (h : W.heap[g]? = some (.cells #[c0, c1, c2, c3] t (0, 0))) :
  ((((W.setCell ⟨g, 0, none⟩ d0).setCell ⟨g, 1, none⟩ d1).setCell ⟨g, 2, none⟩ d2).setCell ⟨g, 3, none⟩ d3).heap[g]? = some (.cells #[d0, d1, d2, d3] t (0, 0)) ∧
  (∀ k, k ≠ g → ((((W.setCell ⟨g, 0, none⟩ d0).setCell ⟨g, 1, none⟩ d1).setCell ⟨g, 2, none⟩ d2).setCell ⟨g, 3, none⟩ d3).heap[k]? = W.heap[k]?) ∧
  KeepsOthers W ((((W.setCell ⟨g, 0, none⟩ d0).setCell ⟨g, 1, none⟩ d1).setCell ⟨g, 2, none⟩ d2).setCell ⟨g, 3, none⟩ d3) ∧
  (∀ n, n ≤ g → Below n W ((((W.setCell ⟨g, 0, none⟩ d0).setCell ⟨g, 1, none⟩ d1).setCell ⟨g, 2, none⟩ d2).setCell ⟨g, 3, none⟩ d3)) := by
 refine ⟨?_, fun k hk => ?_, ?_, fun n hn => ?_⟩
 ·simp [World.setCell, Array.getElem?_modify, h]
 ·iterate 4 rw [Below.heap_setCell _ _ _ k (by exact hk)]
 ·exact ((((KeepsOthers.setCell _ _ _).trans (KeepsOthers.setCell _ _ _)).trans (KeepsOthers.setCell _ _ _)).trans (KeepsOthers.setCell _ _ _))
 ·exact ((((Below.refl n W).setCell (p := ⟨g, 0, none⟩) hn d0).setCell (p := ⟨g, 1, none⟩) hn d1).setCell (p := ⟨g, 2, none⟩) hn d2).setCell (p := ⟨g, 3, none⟩) hn d3
noncomputable def turnRest : Code := match Tryz.f11.body with
 | some (.seq _ (.seq _ (.seq _ r))) => r
 | _ => .skip
theorem turn_info : (Tryz.prog.info? 2).map (fun i => (i.zero, i.size, i.bytes)) = some (some (.int .i64 0), 1, 8) := by kernel_rfl
def turned (x : Int) : Int := wrap64 (1 - x)
set_option maxHeartbeats 4000000 in
set_option maxRecDepth 100000 in
theorem turn_rest (k : Nat) (w W : World) (a b : Int) (A2 : Option Addr) (c2 : Nat) (p : List Int) (A3 : Option Addr) (c3 : Nat) (h q : List Int) (B gp cp : Nat) (x7 x8 x9 x10 x11 x12 x13 x14 x15 x16 x17 x18 : Value) (Q : Exit → Act → World → Prop)
  (hS : W.heap[w.heap.size]? = some (.cells #[.int .i64 a, .int .i64 b, .slice A2 p.length c2, .slice A3 h.length c3] 26 (0, 0)))
  (hRes : W.heap[w.heap.size + 1]? = some (.cells #[.int .i64 0, .int .i64 0, .slice none 0 0, .slice none 0 0] 26 (0, 0)))
  (hOut : W.heap[B]? = some (.cells #[.int .i64 a, .int .i64 b, .slice (some ⟨gp, 0, none⟩) p.length cp, .slice none 0 0] 26 (0, 0)))
  (hBn : w.heap.size + 1 < B) (hBel : Below w.heap.size w W) (hPV : Kd.R (Kd.int .i64) 2 W w.heap.size (fun _ => True) (.slice (some ⟨gp, 0, none⟩) p.length cp) p)
  (hr3 : Kd.C (Kd.int .i64) w A3 h.length h) (hp : 0 < p.length) (hh : 0 < h.length) (hl : h.length ≤ 1000000) (hrev : slices_Reverse_int64_int64.f k p = some q) (hql : q.length = p.length)
  (hfin : ∀ (ac : Act) (D : Nat) (v3 : Value) (W' : World), ac.tmps[2]? = some (.pointer (some ⟨w.heap.size + 1, 0, none⟩)) → ac.tmps[3]? = some (.int .i64 0) → ac.defers = [{ target := .collected D, args := #[] }] → W'.heap[D]? = some (.deferred (some [])) →
   w.heap.size ≤ D → W'.heap[w.heap.size + 1]? = some (.cells #[.int .i64 a, .int .i64 b, .slice (some ⟨gp, 0, none⟩) p.length cp, v3] 26 (0, 0)) →
   Kd.R (Kd.int .i64) 2 W' w.heap.size (fun k_ => some k_ ≠ (v3 : Value).ownBlock) (.slice (some ⟨gp, 0, none⟩) p.length cp) q → Kd.R (Kd.int .i64) 2 W' w.heap.size (fun k_ => some k_ ≠ (Value.slice (some ⟨gp, 0, none⟩) p.length cp).ownBlock) v3 (h.reverse.map turned) → Below w.heap.size w W' → Q .ret ac W') :
  turnRest.wp Tryz.prog Q { tmps := #[.agg #[.int .i64 a, .int .i64 b, .slice A2 p.length c2, .slice A3 h.length c3], .pointer (some ⟨w.heap.size, 0, none⟩), .pointer (some ⟨w.heap.size + 1, 0, none⟩), .int .i64 0, .pointer (some ⟨B, 0, none⟩), undef, undef, x7, x8, x9, x10, x11, x12, x13, x14, x15, x16, x17, x18, undef, undef, undef, undef, undef, undef, undef, undef, undef, undef, undef, undef, undef, undef, undef, undef], defers := [] } W := by
 have gpt : ∃ cells, W.heap[gp]? = some (.cells cells 2 (0, 0)) := own_typed (Kd.R_own hPV).choose_spec gp rfl
 obtain ⟨curP, hcur⟩ := gpt
 have hgB : gp ≠ B := fun e => by rw [e, hOut] at hcur; injection hcur with hcur; injection hcur with _ hcur; cases hcur
 have hg0 : gp ≠ w.heap.size := fun e => by rw [e, hS] at hcur; injection hcur with hcur; injection hcur with _ hcur; cases hcur
 have hg1 : gp ≠ w.heap.size + 1 := fun e => by rw [e, hRes] at hcur; injection hcur with hcur; injection hcur with _ hcur; cases hcur
 have hrevC := slices_Reverse_int64_int64.calls k (fun k_ => k_ = gp) (.slice (some ⟨gp, 0, none⟩) p.length cp) p q w W hBel (Kd.R_flat (fun h => h) hPV (fun k_ hk _ => by simpa [Value.ownBlock] using hk.symm)) hrev
 have hB2 : W.cell? ⟨B, 2, none⟩ = some (.slice (some ⟨gp, 0, none⟩) p.length cp) := by simp [World.cell?, hOut]
 have HR := Aside0.mk hrevC
 clear hrevC hPV hcur
 have HS := Aside0.mk hS
 have HRES := Aside0.mk hRes
 have HOUT := Aside0.mk hOut
 have HBEL := Aside0.mk hBel
 have HFIN := Aside0.mk hfin
 have HG := Aside0.mk (And.intro hgB (And.intro hg0 hg1))
 have HBN := Aside0.mk hBn
 clear hS hRes hOut hBel hfin hgB hg0 hg1 hBn
 unfold turnRest
 simp only [Tryz.f11]
 go_wp2_with (first | (go_at_call 32; (with_reducible refine HR.out.mono ?_); rintro e W3 ⟨rfl, hR3, hb3, hk3⟩; have HR3 := Aside0.mk hR3; have HB3 := Aside0.mk hb3; have HK3 := Aside0.mk hk3; clear hR3 hb3 hk3; have hc3 : W3.cell? ⟨w.heap.size, 3, none⟩ = some (.slice A3 h.length c3) := (by have := blk_kept HS.out HK3.out HG.out.2.1.symm; simp [World.cell?, this])) | (go_at_call 33; (with_reducible refine (backward _ _ _ _).mono ?_); rintro e W4 ⟨rfl, e4⟩; have H4 := Aside0.mk e4; clear e4))
 have e4 := H4.out
 have hsz4 : W4.heap.size = W3.heap.size + 1 := by rw [e4]; simp
 have hB4 : Below w.heap.size w W4 := by rw [e4]; exact HB3.out.alloc HB3.out.size _
 have h34 : ∀ k, k < W3.heap.size → W4.heap[k]? = W3.heap[k]? := fun k hk => by rw [e4]; exact Below.heap_alloc _ _ _ hk
 have hkeep : ∀ k o, W.heap[k]? = some o → k ≠ gp → W4.heap[k]? = some o := fun k o hk hne => (h34 k (Nat.lt_of_lt_of_le (Array.getElem?_eq_some_iff.1 hk).1 HK3.out.1)).trans (blk_kept hk HK3.out hne)
 have hOut4 := hkeep B _ HOUT.out HG.out.1.symm
 have hRes4 := hkeep _ _ HRES.out HG.out.2.2.symm
 have hbox : W4.cell? ⟨W3.heap.size, 0, none⟩ = some (.slice A3 h.length c3) := by rw [e4]; simp
 have hBlt : B < W4.heap.size := (Array.getElem?_eq_some_iff.1 hOut4).1
 have hBs : B < W3.heap.size := Nat.lt_of_lt_of_le (Array.getElem?_eq_some_iff.1 HOUT.out).1 HK3.out.1
 obtain ⟨i0, hi, hz0, hz1, hz2⟩ := info_parts turn_info
 clear e4
 refine (wpIn_wide (n := 6)).1 (wpIn_rangeFunc_ownG (α := Int × Int) rfl (by omega) (gf := 59) (lb := #[.pointer (some ⟨W3.heap.size, 0, none⟩)]) rfl trivial (enters_of Tryz.func59 (by kernel_rfl) rfl)
  (back_stops 5 W3.heap.size w.heap.size (by omega) A3 c3 h hh hl w W4 rfl hB4 (by omega) hbox hr3) keepsBox_t (keepsBox_b (by have := hB4.size; omega) (by omega)) (Below.refl _ _) (fun _ => rfl)
  (fun pre W' => (∃ v, W'.heap[B]? = some (.cells #[.int .i64 a, .int .i64 b, .slice (some ⟨gp, 0, none⟩) p.length cp, v] 26 (0, 0)) ∧ W'.ownsRow W4.heap.size 2 1 v ((pre.map (fun x => Value.int .i64 (turned x.2))).length) (pre.map (fun x => Value.int .i64 (turned x.2))) ∧ ∀ k, k < W4.heap.size → k ≠ B → W'.heap[k]? = W4.heap[k]?) ∧ Below w.heap.size w W')
  (fun _ _ _ => False)
  (OwnFrom.and (turn_own B W4.heap.size hBlt W4 rfl (fun v => #[.int .i64 a, .int .i64 b, .slice (some ⟨gp, 0, none⟩) p.length cp, v]) 26 (fun pre : List (Int × Int) => pre.map (fun x => Value.int .i64 (turned x.2)))) (ownFrom_below (Nat.le_refl _) (by have := hB4.size; omega)))
  (fun _ _ _ _ _ hs _ _ => hs)
  ⟨⟨_, hOut4, World.ownsRow_nil _ _ _ _, fun _ _ _ => rfl⟩, hB4⟩
  (fun x => { tmps := #[.agg #[.int .i64 a, .int .i64 b, .slice A2 p.length c2, .slice A3 h.length c3], .pointer (some ⟨w.heap.size, 0, none⟩), .pointer (some ⟨w.heap.size + 1, 0, none⟩), .int .i64 0, .pointer (some ⟨B, 0, none⟩), undef, .int .i64 x.2, x7, x8, x9, x10, x11, x12, x13, x14, x15, x16, x17, x18, .pointer (some ⟨B, 2, none⟩), .slice (some ⟨gp, 0, none⟩) p.length cp, .tuple #[], .pointer (some ⟨w.heap.size, 3, none⟩), .slice A3 h.length c3, .func (.func 59) #[] #[.pointer (some ⟨W3.heap.size, 0, none⟩)], .int .i64 x.1, .int .i64 x.2, undef, undef, undef, undef, undef, undef, undef, undef], defers := [] }) ?assign ?body ?done ?stop)
 case assign =>
  intro l x W K hK
  gi_wp2
  exact hK
 case body =>
  rintro l pre x W5 ⟨⟨v, hv, hrow, hk5⟩, hB⟩ hlt
  have hc : W5.cell? ⟨B, 3, none⟩ = some v := by simp [World.cell?, hv]
  have hsz5 : W4.heap.size ≤ W5.heap.size := by
   rcases Nat.lt_or_ge W5.heap.size W4.heap.size with hx | hx
   ·have h3 := hk5 W5.heap.size hx (by have := (Array.getElem?_eq_some_iff.1 hv).1; omega)
    rw [Array.getElem?_eq_none (Nat.le_refl _), Array.getElem?_eq_getElem hx] at h3
    cases h3
   ·exact hx
  have hpl : pre.length ≤ 1000000 := by omega
  gi_wp2_with (gi_at_builtin; refine wpListIn_append_own _ rfl _ _ 24 rfl W4.heap.size 2 i0 (.int .i64 0) 1 8 Tryz.underlying24 hi hz0 hz1 hz2 rfl (by decide) _ _ _ rfl (hrow.alloc _) ⟨W5.heap.size, 0, none⟩ 1 1 [.int .i64 (turned x.2)] rfl rfl (cell_one_new _ _ _) (by simp [Value.oneCell']) (by simp [maxLen]; omega) (by simp; omega) (by simp; omega) ?_; intro v' w1 hown' hgrow _; obtain ⟨g', cap', rfl⟩ := ownsRow_succ hown'; obtain ⟨hv1, hv2, hr2, hk2, hs2, hb2⟩ := turn_appended hv hrow hsz5 hBlt hown' hgrow; have hc1 : w1.cell? ⟨B, 3, none⟩ = some v := (by simp [World.cell?, hv1]); have hf1 : w1.frozen? ⟨B, 3, none⟩ = false := (by simp [World.frozen?, hv1]))
  simp only [List.length_map] at hv2 hr2 hk2 hs2 hb2
  have HN := HBN.out
  refine ⟨hk2.from _, ⟨hb2 w.heap.size (by omega), hs2 W3.heap.size (by omega) (by omega)⟩, ⟨_, hv2, ?_, fun k hk hkB => (hs2 k hk hkB).trans (hk5 k hk hkB)⟩, hB.trans (hb2 w.heap.size (by omega))⟩
  simpa using hr2
 case done =>
  rintro D ys W5 hD hys ⟨⟨v, hv, hrow, hk5⟩, hB⟩ hK
  have hlen : ys.length = h.length := by rw [hys, upto_length]
  have hmap : ys.map (fun x => Value.int .i64 (turned x.2)) = encs (Value.int .i64) (h.reverse.map turned) := by
   have e := back_all h
   rw [hys, ← e, encs, List.map_map, List.map_map]; rfl
  have HN := HBN.out
  rw [List.length_map, hlen] at hrow
  have hRv : Kd.R (Kd.int .i64) 2 W5 W4.heap.size (fun k_ => some k_ = v.ownBlock) v (h.reverse.map turned) := Kd.R_of_own (by rw [← hmap]; simpa using hrow) (fun k hk => hk.symm)
  obtain ⟨m, hm⟩ : ∃ m, h.length = m + 1 := ⟨h.length - 1, by omega⟩
  rw [hm] at hrow
  obtain ⟨g', cap', rfl⟩ := ownsRow_succ hrow
  have hg' : W4.heap.size ≤ g' := Kd.R_base hRv g' rfl
  have hRes5 : W5.heap[w.heap.size + 1]? = _ := (hk5 _ (by have := hB4.size; omega) (by omega)).trans hRes4
  have hgl : gp < W4.heap.size := by have := Kd.R_lt HR3.out gp rfl; omega
  have hRq : Kd.R (Kd.int .i64) 2 W5 w.heap.size (fun k_ => k_ = gp) (.slice (some ⟨gp, 0, none⟩) p.length cp) q :=
   Kd.R_move (Kd.R_flat (fun h => h) HR3.out (fun k_ hk _ => by simpa [Value.ownBlock] using hk.symm)) (fun k_ hk => by rw [hk]; exact (hk5 gp hgl HG.out.1).trans (h34 gp (Kd.R_lt HR3.out gp rfl)))
  have hc0 : W5.cell? ⟨B, 0, none⟩ = some (.int .i64 a) := by simp [World.cell?, hv]
  have hc1 : W5.cell? ⟨B, 1, none⟩ = some (.int .i64 b) := by simp [World.cell?, hv]
  have hc2 : W5.cell? ⟨B, 2, none⟩ = some (.slice (some ⟨gp, 0, none⟩) p.length cp) := by simp [World.cell?, hv]
  have hc3' : W5.cell? ⟨B, 3, none⟩ = some (.slice (some ⟨g', 0, none⟩) (m + 1) cap') := by simp [World.cell?, hv]
  obtain ⟨hs1, hs2, hs3, hs4⟩ := store4 W5 (w.heap.size + 1) 26 (.int .i64 a) (.int .i64 b) (.slice (some ⟨gp, 0, none⟩) p.length cp) (.slice (some ⟨g', 0, none⟩) (m + 1) cap') _ _ _ _ hRes5
  have r0 : W5.cell? ⟨w.heap.size + 1, 0, none⟩ = some (.int .i64 0) := by simp [World.cell?, hRes5]
  have r1 : W5.cell? ⟨w.heap.size + 1, 1, none⟩ = some (.int .i64 0) := by simp [World.cell?, hRes5]
  have r2 : W5.cell? ⟨w.heap.size + 1, 2, none⟩ = some (.slice none 0 0) := by simp [World.cell?, hRes5]
  have r3 : W5.cell? ⟨w.heap.size + 1, 3, none⟩ = some (.slice none 0 0) := by simp [World.cell?, hRes5]
  have f0 : W5.frozen? ⟨w.heap.size + 1, 0, none⟩ = false := by simp [World.frozen?, hRes5]
  have f1 : W5.frozen? ⟨w.heap.size + 1, 1, none⟩ = false := by simp [World.frozen?, hRes5]
  have f2 : W5.frozen? ⟨w.heap.size + 1, 2, none⟩ = false := by simp [World.frozen?, hRes5]
  have f3 : W5.frozen? ⟨w.heap.size + 1, 3, none⟩ = false := by simp [World.frozen?, hRes5]
  have HS1 := Aside0.mk hs1
  have HS2 := Aside0.mk hs2
  have HS3 := Aside0.mk hs3
  have HS4 := Aside0.mk hs4
  have HK5 := Aside0.mk hK
  have HRV := Aside0.mk hRv
  have HRQ := Aside0.mk hRq
  have HBB := Aside0.mk hB
  clear hs1 hs2 hs3 hs4 hK hRv hRq hB hRes5 hrow hv hmap hbox hOut4 hRes4 hkeep h34 hc3
  go_wp2
  have hsz4' := hB4.size
  refine HFIN.out _ D _ _ rfl rfl rfl (HS3.out.same D _ HK5.out rfl) (by omega) HS1.out ?_ ?_ (HBB.out.trans (HS4.out _ (by omega)))
  ·exact Kd.R_mono (Kd.R_move HRQ.out (fun k_ hk => HS2.out k_ (by rw [hk]; exact HG.out.2.2))) (fun k_ hk e => by rw [hk] at e; simp only [Value.ownBlock, Option.some.injEq] at e; omega)
  ·exact Kd.R_mono (Kd.R_lower (Kd.R_move HRV.out (fun k_ hk => HS2.out k_ (by simp only [Value.ownBlock, Option.some.injEq] at hk; omega))) (by omega)) (fun k_ hk e => by rw [hk] at e; simp only [Value.ownBlock, Option.some.injEq] at e; omega)
 case stop =>
  rintro D c pre W _ _ h _
  exact h.elim
def impl_TurnSide.f (k : Nat) (a b : Int) (p h : List Int) : Option (Int × Int × List Int × List Int × Int) := (impl_IsSide.f a b p h).bind fun t => (if t = true then (if 0 < p.length ∧ p.length ≤ 1000 ∧ 0 < h.length ∧ h.length ≤ 1000 then ((slices_Reverse_int64_int64.f k p).bind fun q => if q.length = p.length then some (a, b, q, h.reverse.map turned, 0) else none) else none) else some (0, 0, [], [], 1))
theorem cell_of_block {W : World} {g t : Nat} {cells : Array Value} (h : W.heap[g]? = some (.cells cells t (0, 0))) {j : Nat} {v : Value} (hj : cells[j]? = some v) : W.cell? ⟨g, j, none⟩ = some v := by
 simp [World.cell?, h, hj]
def onlyRet (Q : Exit → Act → World → Prop) : Exit → Act → World → Prop
 | .ret, a, w => Q .ret a w
 | _, _, _ => False
theorem wp_onlyRet {P : Program} {c : Code} {Q : Exit → Act → World → Prop} {a : Act} {w : World} (h : c.wp P (onlyRet Q) a w) : c.wp P Q a w :=
 wp_mono h (fun e a w hq => by cases e <;> first | exact hq | exact hq.elim)
theorem R_putObj {α : Type} {d : Kd α} {e base : Nat} {ok : Nat → Prop} {W : World} {v : Value} {xs : List α} (h : d.R e W base ok v xs) {D : Nat} {o : Obj} (o' : Obj) (hD : W.heap[D]? = some o) (ho : o.isCells = false) : d.R e (W.putObj D o') base ok v xs :=
 Kd.R_mono (Kd.R_move (Kd.R_bound h) (fun k hk => World.putObj_heap_other (fun e => by
  obtain ⟨_, _, _, q, _, cells, hc⟩ := hk
  rw [e, hD] at hc
  injection hc with hc
  rw [hc] at ho
  cases ho))) (fun _ hk => hk.1)
def TurnPost (w : World) (a b : Int) (q r : List Int) (e : Ending) (w' : World) : Prop := ∃ v2_ v3_ : Value, e = .returned (.tuple #[.agg #[.int .i64 a, .int .i64 b, v2_, v3_], .int .i64 0]) ∧ Kd.R (Kd.int .i64) 2 w' w.heap.size (fun k_ => some k_ ≠ (v3_ : Value).ownBlock) v2_ q ∧ Kd.R (Kd.int .i64) 2 w' w.heap.size (fun k_ => some k_ ≠ (v2_ : Value).ownBlock) v3_ r ∧ Below w.heap.size w w'
theorem turn_fin (w : World) (a b : Int) (q r : List Int) (ac : Act) (D : Nat) (v2 v3 : Value) (W' : World) (h2 : ac.tmps[2]? = some (.pointer (some ⟨w.heap.size + 1, 0, none⟩))) (h3 : ac.tmps[3]? = some (.int .i64 0)) (hd : ac.defers = [{ target := .collected D, args := #[] }]) (hD : W'.heap[D]? = some (.deferred (some [])))
  (hn : w.heap.size ≤ D) (hR : W'.heap[w.heap.size + 1]? = some (.cells #[.int .i64 a, .int .i64 b, v2, v3] 26 (0, 0))) (r1 : Kd.R (Kd.int .i64) 2 W' w.heap.size (fun k_ => some k_ ≠ v3.ownBlock) v2 q) (r2 : Kd.R (Kd.int .i64) 2 W' w.heap.size (fun k_ => some k_ ≠ v2.ownBlock) v3 r) (hb : Below w.heap.size w W') :
  onlyRet (bodyPostM Fence.wide 6 Tryz.prog Tryz.f11 (TurnPost w a b q r)) .ret ac W' := by
 show LeavesInM Fence.wide 6 Tryz.prog Tryz.f11 ac.tmps (TurnPost w a b q r) ac.defers .returning W'
 rw [hd]
 refine ⟨by simp, .inl ⟨_, _, rfl, run_takeDeferred hD, ?_⟩⟩
 have hb' : Below w.heap.size w (W'.putObj D (.deferred none)) := hb.trans (belowK_b (w := w) (Nat.le_refl _) W' D _ _ hn hD rfl rfl)
 have p1 := R_putObj r1 (.deferred none) hD rfl
 have p2 := R_putObj r2 (.deferred none) hD rfl
 have hne : w.heap.size + 1 ≠ D := fun e => by rw [e, hD] at hR; cases hR
 have hR' : (W'.putObj D (.deferred none)).heap[w.heap.size + 1]? = some (.cells #[.int .i64 a, .int .i64 b, v2, v3] 26 (0, 0)) := (World.putObj_heap_other (by omega)).trans hR
 generalize W'.putObj D (.deferred none) = Wf at hb' p1 p2 hR' ⊢
 have k0 := cell_of_block hR' (j := 0) rfl
 have k1 := cell_of_block hR' (j := 1) rfl
 have k2 := cell_of_block hR' (j := 2) rfl
 have k3 := cell_of_block hR' (j := 3) rfl
 refine ⟨.tuple #[.agg #[.int .i64 a, .int .i64 b, v2, v3], .int .i64 0], ?_, _, _, rfl, p1, p2, hb'⟩
 simp [results, Tryz.f11, go_sem, k0, k1, k2, k3, h2, h3]
theorem al18_ {p : Prop} (h : p) : Aside0 p := ⟨h⟩
theorem w1l18_ {p : Prop} (h : p := by have := World.alloc_heap_new (w.alloc (.cells #[Value.int .i64 a0_0, Value.int .i64 a0_1, Value.slice A0_2 l0_2.length c0_2, Value.slice A0_3 l0_3.length c0_3] 26)) (.cells #[Value.int .i64 0, Value.int .i64 0, Value.slice none 0 0, Value.slice none 0 0] 26); rwa [World.size_alloc] at this) : p := h
set_option maxHeartbeats 4000000 in
set_option maxRecDepth 100000 in
theorem impl_TurnSide.calls (k : Nat) (a0_0 : Int) (a0_1 : Int) (A0_2 : Option Addr) (c0_2 : Nat) (l0_2 : List Int) (A0_3 : Option Addr) (c0_3 : Nat) (l0_3 : List Int) (r1 : Int) (r2 : Int) (r3 : List Int) (r4 : List Int) (r5 : Int) (w : World) (hr0_2 : Kd.C (Kd.int .i64) w A0_2 l0_2.length l0_2) (hc0_2 : l0_2.length ≤ c0_2) (hr0_3 : Kd.C (Kd.int .i64) w A0_3 l0_3.length l0_3) (hc0_3 : l0_3.length ≤ c0_3) (h : impl_TurnSide.f k a0_0 a0_1 l0_2 l0_3 = some (r1, r2, r3, r4, r5)) :
 Calls Tryz.prog 11 #[.agg #[.int .i64 a0_0, .int .i64 a0_1, .slice A0_2 l0_2.length c0_2, .slice A0_3 l0_3.length c0_3]] w fun e w' => ∃ v2_ v3_ : Value, e = .returned (.tuple #[.agg #[.int .i64 r1, .int .i64 r2, v2_, v3_], .int .i64 r5]) ∧ Kd.R (Kd.int .i64) 2 w' w.heap.size (fun k_ => some k_ ≠ (v3_ : Value).ownBlock) v2_ r3 ∧ Kd.R (Kd.int .i64) 2 w' w.heap.size (fun k_ => some k_ ≠ (v2_ : Value).ownBlock) v3_ r4 ∧ Below w.heap.size w w' := by
 have HW := al18_ (Below.refl w.heap.size w); have a4 := al18_ hr0_2; have a5 := al18_ hc0_2; have a3 := al18_ hr0_3; have a9 := al18_ hc0_3; clear hr0_2 hc0_2 hr0_3 hc0_3; unfold impl_TurnSide.f at h; obtain ⟨t, h4, H⟩ := Option.bind_eq_some_iff.mp h; have A4 := al18_ h4; clear h h4; cases t with
 | false =>
  obtain ⟨rfl, rfl, rfl, rfl, rfl⟩ : 0 = r1 ∧ 0 = r2 ∧ [] = r3 ∧ [] = r4 ∧ 1 = r5 := by simpa using H
  clear H; refine callsIn_wide.1 (callsIn_of_wp_marks (n := 6) Tryz.func11 rfl trivial (wpIn_wide.2 (wp_onlyRet ?_)) rfl); simp only [Tryz.ntmps11, List.size_toArray, List.length_cons, List.length_nil, Nat.reduceAdd, Nat.reduceSub, Array.replicate_succ, Array.replicate_zero, List.push_toArray, List.append_toArray, List.nil_append, List.cons_append]
  go_wp2_with (go_at_call 17; (with_reducible refine (impl_IsSide.calls _ _ _ _ l0_2 _ _ l0_3 false _ ?side1 a5.out ?side2 a9.out A4.out).mono ?_); (case side1 => exact Kd.C_below a4.out ((HW.out.alloc (Nat.le_refl _) _).alloc (by simp) _)); (case side2 => exact Kd.C_below a3.out ((HW.out.alloc (Nat.le_refl _) _).alloc (by simp) _)); rintro e w1 ⟨rfl, hb⟩; have a1 := al18_ (((HW.out.alloc (Nat.le_refl _) _).alloc (by simp) _).trans (hb.mono (by simp; omega))); have hS : w1.heap[w.heap.size]? = some (.cells #[Value.int .i64 a0_0, Value.int .i64 a0_1, Value.slice A0_2 l0_2.length c0_2, Value.slice A0_3 l0_3.length c0_3] 26 (0, 0)) := ((hb.block w.heap.size (by simp; omega)).trans ((Below.heap_alloc _ _ w.heap.size (by simp)).trans (World.alloc_heap_new w _))); have hRes : w1.heap[w.heap.size + 1]? = some (.cells #[Value.int .i64 0, Value.int .i64 0, Value.slice none 0 0, Value.slice none 0 0] 26 (0, 0)) := ((hb.block (w.heap.size + 1) (by simp)).trans w1l18_); have HS := al18_ hS; have HRES := al18_ hRes; have aa : w1.cell? ⟨w.heap.size, 0, none⟩ = some (Value.int .i64 a0_0) := (by simp [World.cell?, hS]); have ab : w1.cell? ⟨w.heap.size, 1, none⟩ = some (Value.int .i64 a0_1) := (by simp [World.cell?, hS]); have ae : w1.cell? ⟨w.heap.size, 2, none⟩ = some (Value.slice A0_2 l0_2.length c0_2) := (by simp [World.cell?, hS]); have ap : w1.cell? ⟨w.heap.size, 3, none⟩ = some (Value.slice A0_3 l0_3.length c0_3) := (by simp [World.cell?, hS]); have af : w1.cell? ⟨w.heap.size + 1, 0, none⟩ = some (Value.int .i64 0) := (by simp [World.cell?, hRes]); have ag : w1.cell? ⟨w.heap.size + 1, 1, none⟩ = some (Value.int .i64 0) := (by simp [World.cell?, hRes]); have ah : w1.cell? ⟨w.heap.size + 1, 2, none⟩ = some (Value.slice none 0 0) := (by simp [World.cell?, hRes]); have ai : w1.cell? ⟨w.heap.size + 1, 3, none⟩ = some (Value.slice none 0 0) := (by simp [World.cell?, hRes]); have aj : w1.frozen? ⟨w.heap.size + 1, 0, none⟩ = false := (by simp [World.frozen?, hRes]); have ak : w1.frozen? ⟨w.heap.size + 1, 1, none⟩ = false := (by simp [World.frozen?, hRes]); have al : w1.frozen? ⟨w.heap.size + 1, 2, none⟩ = false := (by simp [World.frozen?, hRes]); have am : w1.frozen? ⟨w.heap.size + 1, 3, none⟩ = false := (by simp [World.frozen?, hRes]); clear hb hS hRes)
  obtain ⟨h1, h2, h3, h4⟩ := store4 w1 (w.heap.size + 1) 26 (.int .i64 0) (.int .i64 0) (.slice none 0 0) (.slice none 0 0) _ _ _ _ HRES.out; have hbf := a1.out.trans (h4 w.heap.size (by omega)); generalize ((((w1.setCell ⟨w.heap.size + 1, 0, none⟩ (.int .i64 0)).setCell ⟨w.heap.size + 1, 1, none⟩ (.int .i64 0)).setCell ⟨w.heap.size + 1, 2, none⟩ (.slice none 0 0)).setCell ⟨w.heap.size + 1, 3, none⟩ (.slice none 0 0)) = Wf at h1 hbf ⊢; have k0 := cell_of_block h1 (j := 0) rfl; have k1 := cell_of_block h1 (j := 1) rfl; have k2 := cell_of_block h1 (j := 2) rfl; have k3 := cell_of_block h1 (j := 3) rfl; refine ⟨.tuple #[.agg #[.int .i64 0, .int .i64 0, .slice none 0 0, .slice none 0 0], .int .i64 1], ?_, _, _, rfl, Kd.R_nil _ _ _ _ _, Kd.R_nil _ _ _ _ _, hbf⟩
  simp [results, Tryz.f11, go_sem, k0, k1, k2, k3]
 | true =>
  rw [if_pos rfl] at H; by_cases hl : 0 < l0_2.length ∧ l0_2.length ≤ 1000 ∧ 0 < l0_3.length ∧ l0_3.length ≤ 1000
  ·
   rw [if_pos hl] at H; obtain ⟨q, hq, H⟩ := Option.bind_eq_some_iff.mp H; by_cases hql : q.length = l0_2.length
   ·
    rw [if_pos hql] at H; obtain ⟨rfl, rfl, rfl, rfl, rfl⟩ : a0_0 = r1 ∧ a0_1 = r2 ∧ q = r3 ∧ l0_3.reverse.map turned = r4 ∧ 0 = r5 := by simpa using H
    clear H; have HQ := al18_ hq; have HQL := al18_ hql; have HL := al18_ hl; have HCL := al18_ (show slices_Clone_int64_int64.f l0_2 = some l0_2 by unfold slices_Clone_int64_int64.f; rw [if_pos (by omega)]); clear hq hql hl; refine callsIn_wide.1 (callsIn_of_wp_marks (n := 6) Tryz.func11 rfl trivial (wpIn_wide.2 (wp_onlyRet ?_)) rfl); simp only [Tryz.ntmps11, List.size_toArray, List.length_cons, List.length_nil, Nat.reduceAdd, Nat.reduceSub, Array.replicate_succ, Array.replicate_zero, List.push_toArray, List.append_toArray, List.nil_append, List.cons_append]
    go_wp2_with (go_at_call 17; (with_reducible refine (impl_IsSide.calls _ _ _ _ l0_2 _ _ l0_3 true _ ?side1 a5.out ?side2 a9.out A4.out).mono ?_); (case side1 => exact Kd.C_below a4.out ((HW.out.alloc (Nat.le_refl _) _).alloc (by simp) _)); (case side2 => exact Kd.C_below a3.out ((HW.out.alloc (Nat.le_refl _) _).alloc (by simp) _)); rintro e w1 ⟨rfl, hb⟩; have a1 := al18_ (((HW.out.alloc (Nat.le_refl _) _).alloc (by simp) _).trans (hb.mono (by simp; omega))); have hS : w1.heap[w.heap.size]? = some (.cells #[Value.int .i64 a0_0, Value.int .i64 a0_1, Value.slice A0_2 l0_2.length c0_2, Value.slice A0_3 l0_3.length c0_3] 26 (0, 0)) := ((hb.block w.heap.size (by simp; omega)).trans ((Below.heap_alloc _ _ w.heap.size (by simp)).trans (World.alloc_heap_new w _))); have hRes : w1.heap[w.heap.size + 1]? = some (.cells #[Value.int .i64 0, Value.int .i64 0, Value.slice none 0 0, Value.slice none 0 0] 26 (0, 0)) := ((hb.block (w.heap.size + 1) (by simp)).trans w1l18_); have HS := al18_ hS; have HRES := al18_ hRes; have aa : w1.cell? ⟨w.heap.size, 0, none⟩ = some (Value.int .i64 a0_0) := (by simp [World.cell?, hS]); have ab : w1.cell? ⟨w.heap.size, 1, none⟩ = some (Value.int .i64 a0_1) := (by simp [World.cell?, hS]); have ae : w1.cell? ⟨w.heap.size, 2, none⟩ = some (Value.slice A0_2 l0_2.length c0_2) := (by simp [World.cell?, hS]); have ap : w1.cell? ⟨w.heap.size, 3, none⟩ = some (Value.slice A0_3 l0_3.length c0_3) := (by simp [World.cell?, hS]); have af : w1.cell? ⟨w.heap.size + 1, 0, none⟩ = some (Value.int .i64 0) := (by simp [World.cell?, hRes]); have ag : w1.cell? ⟨w.heap.size + 1, 1, none⟩ = some (Value.int .i64 0) := (by simp [World.cell?, hRes]); have ah : w1.cell? ⟨w.heap.size + 1, 2, none⟩ = some (Value.slice none 0 0) := (by simp [World.cell?, hRes]); have ai : w1.cell? ⟨w.heap.size + 1, 3, none⟩ = some (Value.slice none 0 0) := (by simp [World.cell?, hRes]); have aj : w1.frozen? ⟨w.heap.size + 1, 0, none⟩ = false := (by simp [World.frozen?, hRes]); have ak : w1.frozen? ⟨w.heap.size + 1, 1, none⟩ = false := (by simp [World.frozen?, hRes]); have al : w1.frozen? ⟨w.heap.size + 1, 2, none⟩ = false := (by simp [World.frozen?, hRes]); have am : w1.frozen? ⟨w.heap.size + 1, 3, none⟩ = false := (by simp [World.frozen?, hRes]); clear hb hS hRes)
    rename_i K hK; clear af ag ah ai aj ak al am
    have aq : w.heap.size < w1.heap.size := by have := (Array.getElem?_eq_some_iff.1 HRES.out).1; omega
    have a6 : ¬ (w.heap.size = w1.heap.size) := by omega
    have ar : ¬ (w1.heap.size = w.heap.size) := by omega
    go_region_held3 (fun w' => w'.cell? ⟨w.heap.size, 0, none⟩ = some (.int .i64 a0_0) ∧ w'.cell? ⟨w.heap.size, 1, none⟩ = some (.int .i64 a0_1) ∧ w'.cell? ⟨w.heap.size, 2, none⟩ = some (.slice A0_2 l0_2.length c0_2)) (first | exact ⟨au, av, aw⟩ | exact ⟨aa, ab, ae⟩ | go_keep) (first | (go_at_call 31; (with_reducible refine (slices_Clone_int64_int64.calls _ c0_2 l0_2 l0_2 _ ?side a5.out HCL.out).mono ?_); (case side => exact Kd.C_below a4.out (by repeat (first | exact a1.out | apply below_alloc | apply below_drew1 | apply pw_below_drewN))); rintro e w4 ⟨v0, rfl, hR, hb⟩; obtain ⟨gp, cp, rfl, _, hgl, _⟩ := Kd.R_form hR HL.out.1; have HGL := al18_ hgl; clear hgl; have hbw : Below w1.heap.size w1 w4 := Below.trans (show Below w1.heap.size w1 _ by repeat (first | exact Below.refl _ _ | apply below_alloc | apply below_drew1 | apply pw_below_drewN)) (hb.mono (by simp)); have a2 : w4.heap[w.heap.size]? = some (.cells #[Value.int .i64 a0_0, Value.int .i64 a0_1, Value.slice A0_2 l0_2.length c0_2, Value.slice A0_3 l0_3.length c0_3] 26 (0, 0)) := ((hbw.block w.heap.size (by have := (Array.getElem?_eq_some_iff.1 HS.out).1; omega)).trans HS.out); have au : w4.cell? ⟨w.heap.size, 0, none⟩ = some (Value.int .i64 a0_0) := (by simp [World.cell?, a2]); have av : w4.cell? ⟨w.heap.size, 1, none⟩ = some (Value.int .i64 a0_1) := (by simp [World.cell?, a2]); have aw : w4.cell? ⟨w.heap.size, 2, none⟩ = some (Value.slice A0_2 l0_2.length c0_2) := (by simp [World.cell?, a2]); have aF : w4.cell? ⟨w.heap.size, 3, none⟩ = some (Value.slice A0_3 l0_3.length c0_3) := (by simp [World.cell?, a2]); have z0 := (fun (h0 : w1.heap.size < _) => hb.cell (p := ⟨w1.heap.size, 0, none⟩) h0); have ax := (fun (h0 : w1.heap.size < _) => hb.frozen (p := ⟨w1.heap.size, 0, none⟩) h0); have z1 := (fun (h0 : w1.heap.size < _) => hb.cell (p := ⟨w1.heap.size, 1, none⟩) h0); have ay := (fun (h0 : w1.heap.size < _) => hb.frozen (p := ⟨w1.heap.size, 1, none⟩) h0); have z2 := (fun (h0 : w1.heap.size < _) => hb.cell (p := ⟨w1.heap.size, 2, none⟩) h0); have az := (fun (h0 : w1.heap.size < _) => hb.frozen (p := ⟨w1.heap.size, 2, none⟩) h0); have z3 := (fun (h0 : w1.heap.size < _) => hb.cell (p := ⟨w1.heap.size, 3, none⟩) h0); have aA := (fun (h0 : w1.heap.size < _) => hb.frozen (p := ⟨w1.heap.size, 3, none⟩) h0); (try simp at z0 ax z1 ay z2 az z3 aA); have a7 : w.heap.size < w4.heap.size := (Array.getElem?_eq_some_iff.1 a2).1; have aB : ¬ (w.heap.size = w4.heap.size) := (by omega); have aC : ¬ (w4.heap.size = w.heap.size) := (by omega); have HBW := al18_ hbw; have ao := al18_ a2; clear hbw a2; have HR := al18_ hR; have HB := al18_ hb; clear hR hb))
    ·
     have a8 := (Array.getElem?_eq_some_iff.1 HRES.out).1; have aD := HBW.out.size; have hbel := a1.out.trans (HBW.out.mono a1.out.size); have a0 := (HBW.out.block (w.heap.size + 1) a8).trans HRES.out; refine hK _ _ (turn_rest k w _ a0_0 a0_1 A0_2 c0_2 l0_2 A0_3 c0_3 l0_3 q _ gp cp _ _ _ _ _ _ _ _ _ _ _ _ _ ?_ ?_ ?_ ?_ ?_ ?_ a3.out HL.out.1 HL.out.2.2.1 (by have := HL.out.2.2.2; omega) HQ.out HQL.out (fun ac D v3 W' g1 g2 g3 g4 g5 g6 g7 g8 g9 => turn_fin w a0_0 a0_1 q (l0_3.reverse.map turned) ac D _ v3 W' g1 g2 g3 g4 g5 g6 g7 g8 g9))
     ·
      exact (Below.heap_alloc _ _ _ a7).trans ao.out
     ·
      exact (Below.heap_alloc _ _ _ (by omega)).trans a0
     ·
      exact World.alloc_heap_new w4 _
     ·
      omega
     ·
      exact hbel.alloc hbel.size _
     ·
      exact Kd.R_below (Kd.R_lower HR.out a1.out.size) (below_alloc (Below.refl _ _) _)
    ·
     have a8 := (Array.getElem?_eq_some_iff.1 HRES.out).1; have aD := HBW.out.size; have hbel := a1.out.trans (HBW.out.mono a1.out.size); have a0 := (HBW.out.block (w.heap.size + 1) a8).trans HRES.out; have aE : w4.heap[w1.heap.size]? = some (.cells #[.int .i64 0, .int .i64 0, .slice none 0 0, .slice none 0 0] 26 (0, 0)) := (HB.out.block w1.heap.size (by simp)).trans (World.alloc_heap_new w1 _); obtain ⟨e1, e2, e3, e4⟩ := store4 w4 w1.heap.size 26 (.int .i64 a0_0) (.int .i64 a0_1) (.slice (some ⟨gp, 0, none⟩) l0_2.length cp) (.slice none 0 0) _ _ _ _ aE
     have hgp : ∀ k, Value.ownBlock (.slice (some ⟨gp, 0, none⟩) l0_2.length cp) = some k → w1.heap.size + 1 ≤ k := fun k hk => by have := Kd.R_base HR.out k hk; simp at this; omega
     refine hK _ _ (turn_rest k w _ a0_0 a0_1 A0_2 c0_2 l0_2 A0_3 c0_3 l0_3 q _ gp cp _ _ _ _ _ _ _ _ _ _ _ _ _ ?_ ?_ ?_ ?_ ?_ ?_ a3.out HL.out.1 HL.out.2.2.1 (by have := HL.out.2.2.2; omega) HQ.out HQL.out (fun ac D v3 W' g1 g2 g3 g4 g5 g6 g7 g8 g9 => turn_fin w a0_0 a0_1 q (l0_3.reverse.map turned) ac D _ v3 W' g1 g2 g3 g4 g5 g6 g7 g8 g9))
     ·
      exact (e2 _ a6).trans ao.out
     ·
      exact (e2 _ (by omega)).trans a0
     ·
      exact e1
     ·
      omega
     ·
      exact hbel.trans (e4 _ (by omega))
     ·
      exact Kd.R_mono (Kd.R_move (Kd.R_flat (ok' := fun k_ => w1.heap.size + 1 ≤ k_) (fun h => h) (Kd.R_lower (base' := w.heap.size) HR.out (by simp; omega)) (fun k_ hk _ => hgp k_ hk)) (fun k_ hk => e2 k_ (by omega))) (fun _ _ => trivial)
   ·
    rw [if_neg hql] at H; cases H
  ·
   rw [if_neg hl] at H; cases H
end
end Go.Proofs.YtokpepaoneiepaaGreatDoor.PL
end
