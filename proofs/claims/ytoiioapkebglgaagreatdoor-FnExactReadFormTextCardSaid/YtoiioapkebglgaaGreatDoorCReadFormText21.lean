-- Gathered by this session's program wip/tool/shake.py out of its own texts and of what the kit's print and the session's patches of it wrote for this claim.
import Derived.Test.YtoiioapkebglgaaGreatDoorCReadFormText8
import Derived.Test.YtoiioapkebglgaaGreatDoorCReadFormText12
import Derived.Test.YtoiioapkebglgaaGreatDoorCReadFormText13
import Derived.Test.YtoiioapkebglgaaGreatDoorCReadFormText14
import Derived.Test.YtoiioapkebglgaaGreatDoorCReadFormText19
import Derived.Test.YtoiioapkebglgaaGreatDoorCReadFormText20
section
namespace Go.Proofs.YtoiioapkebglgaaGreatDoor.PF
open Go.RowKit Go.Proofs.YtoiioapkebglgaaGreatDoorW.PrintWords Go.Proofs.YtoiioapkebglgaaGreatDoorW.PrintLast Go.Proofs.YtoiioapkebglgaaGreatDoorW.PrintMore
attribute [local go_sem] max2_int min2_int max_two min_two max_three min_three max_four min_four   -- for this text's walks alone
set_option linter.unusedVariables false
set_option linter.unusedSimpArgs false
theorem pairI (W : World) (b t : Nat) (A1 A2 : Option Addr) (c1 c2 : Nat) (x y : List Int) (h1 : Kd.C (Kd.int .i64) W A1 x.length x) (h2 : Kd.C (Kd.int .i64) W A2 y.length y) (hc1 : x.length ≤ c1) (hc2 : y.length ≤ c2)
    (hb : W.heap[b]? = some (.cells #[.slice A1 x.length c1, .slice A2 y.length c2] t (0, 0))) : Kd.C (Kd.slice 2 (Kd.int .i64)) W (some ⟨b, 0, none⟩) ([x, y] : List (List Int)).length [x, y] := by
  refine ⟨rfl, by simp, fun _ => ⟨_, rfl, fun j p hj => ?_⟩⟩
  match j, hj with
  | 0, hj =>
    obtain rfl : x = p := by simpa using hj
    refine ⟨[.slice A1 x.length c1], rfl, ⟨A1, c1, rfl, hc1, h1⟩, fun i u hu => ?_⟩
    match i, hu with
    | 0, hu =>
      obtain rfl : Value.slice A1 x.length c1 = u := by simpa using hu
      simp [World.cell?, Addr.add, hb]
  | 1, hj =>
    obtain rfl : y = p := by simpa using hj
    refine ⟨[.slice A2 y.length c2], rfl, ⟨A2, c2, rfl, hc2, h2⟩, fun i u hu => ?_⟩
    match i, hu with
    | 0, hu =>
      obtain rfl : Value.slice A2 y.length c2 = u := by simpa using hu
      have e : (Kd.slice 2 (Kd.int .i64)).sz = 1 := rfl
      simp [World.cell?, Addr.add, hb, e]
theorem catI (l0 l1 : List Int) (W : World) (b : Nat) (hr : Kd.C (Kd.slice 2 (Kd.int .i64)) W (some ⟨b, 0, none⟩) ([l0, l1] : List (List Int)).length [l0, l1]) (hl : (l0 ++ l1).length ≤ 1000) :
    Calls Tryz.prog 43 #[.slice (some ⟨b, 0, none⟩) 2 2] W fun e w' => ∃ v, e = .returned v ∧ Kd.R (Kd.int .i64) 2 w' W.heap.size (fun _ => True) v (l0 ++ l1) ∧ Below W.heap.size W w' := by
  have hf : ([l0, l1] : List (List Int)).flatten = l0 ++ l1 := by simp
  have h := slices_Concat_int64_int64.calls (some ⟨b, 0, none⟩) 2 ([l0, l1] : List (List Int)) W hr (Nat.le_refl _) (by rw [hf]; omega) (by simp)
  rw [hf] at h
  exact h
/-- One number of a run: the first in its range, each one more than the one ahead. -/
def okAt (ps : List Int) (i : Nat) : Bool := inB 1 1000000000 (rd ps 0) && decide (rd ps (i : Int) = wrap64 (rd ps 0 + (i : Int)))
def runI (ps : List Int) : Bool := (List.range ps.length).all (okAt ps)
theorem runI_false {ps : List Int} {i : Nat} (hi : i < ps.length) (h : okAt ps i = false) : runI ps = false := by
  rw [Bool.eq_false_iff]
  intro h2
  have := List.all_eq_true.1 h2 i (List.mem_range.2 hi)
  rw [h] at this; cases this
def lensOk (n : Int) (p q h : List Int) : Bool := decide ((p.length : Int) = n) && decide ((q.length : Int) = n) && decide ((h.length : Int) = n) && h.all (inB 0 1)
def impl_IsForm.f (a b : Int) (p q h : List Int) : Option Bool := (impl_isSheet.f a b).bind fun t => if t = true then (if lensOk (wrap64 (a * b)) p q h = true then (if 0 < p.length ∧ p.length ≤ 100 ∧ q.length ≤ 100 then some (runI (sortI (p ++ q))) else none) else some false) else some false
theorem drawn_below {W W' : World} (n : Nat) (h : Drawn0 W W') : Below n W W' := by
  obtain ⟨nd, rfl⟩ := h
  exact pw_below_drewN (Below.refl _ _) nd
/-- The box that holds the form. -/
structure FormBox (B : Nat) (a b : Int) (A2 : Option Addr) (c2 : Nat) (p : List Int) (A3 : Option Addr) (c3 : Nat) (q : List Int) (A4 : Option Addr) (c4 : Nat) (h : List Int) (W : World) : Prop where
  k0 : W.cell? ⟨B, 0, none⟩ = some (.int .i64 a)
  k1 : W.cell? ⟨B, 1, none⟩ = some (.int .i64 b)
  k2 : W.cell? ⟨B, 2, none⟩ = some (.slice A2 p.length c2)
  k3 : W.cell? ⟨B, 3, none⟩ = some (.slice A3 q.length c3)
  k4 : W.cell? ⟨B, 4, none⟩ = some (.slice A4 h.length c4)
theorem FormBox.below {B : Nat} {a b : Int} {A2 : Option Addr} {c2 : Nat} {p : List Int} {A3 : Option Addr} {c3 : Nat} {q : List Int} {A4 : Option Addr} {c4 : Nat} {h : List Int} {W W' : World} (x : FormBox B a b A2 c2 p A3 c3 q A4 c4 h W) (hb : Below (B + 1) W W') : FormBox B a b A2 c2 p A3 c3 q A4 c4 h W' :=
  ⟨(hb.cell (p := ⟨B, 0, none⟩) (Nat.lt_succ_self B)).trans x.k0, (hb.cell (p := ⟨B, 1, none⟩) (Nat.lt_succ_self B)).trans x.k1, (hb.cell (p := ⟨B, 2, none⟩) (Nat.lt_succ_self B)).trans x.k2, (hb.cell (p := ⟨B, 3, none⟩) (Nat.lt_succ_self B)).trans x.k3, (hb.cell (p := ⟨B, 4, none⟩) (Nat.lt_succ_self B)).trans x.k4⟩
theorem af8_ {p : Prop} (h : p) : Aside0 p := ⟨h⟩
set_option maxHeartbeats 8000000 in
set_option maxRecDepth 100000 in
theorem impl_IsForm.calls (a0_0 : Int) (a0_1 : Int) (A0_2 : Option Addr) (c0_2 : Nat) (l0_2 : List Int) (A0_3 : Option Addr) (c0_3 : Nat) (l0_3 : List Int) (A0_4 : Option Addr) (c0_4 : Nat) (l0_4 : List Int) (r : Bool) (w : World) (hr0_2 : Kd.C (Kd.int .i64) w A0_2 l0_2.length l0_2) (hc0_2 : l0_2.length ≤ c0_2) (hr0_3 : Kd.C (Kd.int .i64) w A0_3 l0_3.length l0_3) (hc0_3 : l0_3.length ≤ c0_3) (hr0_4 : Kd.C (Kd.int .i64) w A0_4 l0_4.length l0_4) (hc0_4 : l0_4.length ≤ c0_4) (h : impl_IsForm.f a0_0 a0_1 l0_2 l0_3 l0_4 = some r) :
 Calls Tryz.prog 16 #[.agg #[.int .i64 a0_0, .int .i64 a0_1, .slice A0_2 l0_2.length c0_2, .slice A0_3 l0_3.length c0_3, .slice A0_4 l0_4.length c0_4]] w fun e w' => e = .returned (.bool r) ∧ Below w.heap.size w w' := by
 have HW := af8_ (Below.refl w.heap.size w); have HR2 := af8_ hr0_2; have HC2 := af8_ hc0_2; have HR3 := af8_ hr0_3; have HC3 := af8_ hc0_3; have HR4 := af8_ hr0_4; have HC4 := af8_ hc0_4; clear hr0_2 hc0_2 hr0_3 hc0_3 hr0_4 hc0_4
 unfold impl_IsForm.f at h
 obtain ⟨t, h4, H⟩ := Option.bind_eq_some_iff.mp h; have A4 := af8_ h4; clear h h4; obtain ⟨W1, hW1⟩ : ∃ W1, W1 = w.alloc (.cells #[.int .i64 a0_0, .int .i64 a0_1, .slice A0_2 l0_2.length c0_2, .slice A0_3 l0_3.length c0_3, .slice A0_4 l0_4.length c0_4] 24) := ⟨_, rfl⟩
 have hv1 : W1.heap[w.heap.size]? = some (.cells #[.int .i64 a0_0, .int .i64 a0_1, .slice A0_2 l0_2.length c0_2, .slice A0_3 l0_3.length c0_3, .slice A0_4 l0_4.length c0_4] 24 (0, 0)) := by rw [hW1]; exact World.alloc_heap_new w _
 have HB1 := af8_ (show Below w.heap.size w W1 by rw [hW1]; exact (Below.refl _ w).alloc (Nat.le_refl _) _)
 have HS1 := af8_ (show W1.heap.size = w.heap.size + 1 by rw [hW1]; simp)
 have HX1 := af8_ (show FormBox w.heap.size a0_0 a0_1 A0_2 c0_2 l0_2 A0_3 c0_3 l0_3 A0_4 c0_4 l0_4 W1 from ⟨by simp [World.cell?, hv1], by simp [World.cell?, hv1], by simp [World.cell?, hv1], by simp [World.cell?, hv1], by simp [World.cell?, hv1]⟩)
 have HWE := af8_ hW1.symm; clear hv1 hW1
 go_enter Tryz.func16, Tryz.ntmps16
 go_wp2_with fail
 rw [HWE.out]
 refine (impl_isSheet.calls a0_0 a0_1 t W1 A4.out).mono ?_
 rintro e W2 ⟨rfl, hd⟩; have HB2 := af8_ (HB1.out.trans (drawn_below w.heap.size hd)); have HX2 := af8_ (HX1.out.below (drawn_below _ hd))
 have HS2 := af8_ (show w.heap.size + 1 ≤ W2.heap.size by have := (drawn_below 0 hd).size; have := HS1.out; omega)
 clear hd HX1 HB1 HS1
 cases t with
 | false =>
  obtain rfl : false = r := by simpa using H
  go_wp2
  go_ret
  exact ⟨rfl, HB2.out⟩
 | true =>
  rw [if_pos rfl] at H
  have k0 := HX2.out.k0; have k1 := HX2.out.k1; have k2 := HX2.out.k2
  go_wp2_with fail
  refine (impl_length_int64.calls A0_2 c0_2 l0_2 (l0_2.length : Int) W2 (Kd.C_below HR2.out HB2.out) HC2.out rfl).mono ?_
  rintro e W3 ⟨rfl, hd⟩; have HB3 := af8_ (HB2.out.trans (drawn_below w.heap.size hd)); have HX3 := af8_ (HX2.out.below (drawn_below _ hd)); have HS3 := af8_ (Nat.le_trans HS2.out (drawn_below 0 hd).size); clear hd k0 k1 k2 HB2 HX2 HS2
  by_cases e2 : (l0_2.length : Int) = wrap64 (a0_0 * a0_1)
  case neg =>
   have e2b : ((l0_2.length : Int) != wrap64 (a0_0 * a0_1)) = true := bne_iff_ne.mpr e2
   obtain rfl : false = r := by
    have hl : lensOk (wrap64 (a0_0 * a0_1)) l0_2 l0_3 l0_4 = false := by simp [lensOk, e2]
    rw [hl] at H; simpa using H
   clear e2 H
   go_wp2
   go_ret
   exact ⟨rfl, HB3.out⟩
  have e2b : ((l0_2.length : Int) != wrap64 (a0_0 * a0_1)) = false := bne_eq_false_iff_eq.mpr e2; have E2 := af8_ e2; have k3 := HX3.out.k3; clear e2
  go_wp2_with fail
  refine (impl_length_int64.calls A0_3 c0_3 l0_3 (l0_3.length : Int) W3 (Kd.C_below HR3.out HB3.out) HC3.out rfl).mono ?_
  rintro e W4 ⟨rfl, hd⟩; have HB4 := af8_ (HB3.out.trans (drawn_below w.heap.size hd)); have HX4 := af8_ (HX3.out.below (drawn_below _ hd)); have HS4 := af8_ (Nat.le_trans HS3.out (drawn_below 0 hd).size); clear hd k3 HB3 HX3 HS3
  by_cases e3 : (l0_3.length : Int) = wrap64 (a0_0 * a0_1)
  case neg =>
   have e3b : ((l0_3.length : Int) != wrap64 (a0_0 * a0_1)) = true := bne_iff_ne.mpr e3
   obtain rfl : false = r := by
    have hl : lensOk (wrap64 (a0_0 * a0_1)) l0_2 l0_3 l0_4 = false := by simp [lensOk, e3]
    rw [hl] at H; simpa using H
   clear e3 H
   go_wp2
   go_ret
   exact ⟨rfl, HB4.out⟩
  have e3b : ((l0_3.length : Int) != wrap64 (a0_0 * a0_1)) = false := bne_eq_false_iff_eq.mpr e3; have E3 := af8_ e3; have k4 := HX4.out.k4; clear e3
  go_wp2_with fail
  refine (impl_length_int64.calls A0_4 c0_4 l0_4 (l0_4.length : Int) W4 (Kd.C_below HR4.out HB4.out) HC4.out rfl).mono ?_
  rintro e W5 ⟨rfl, hd⟩; have HB5 := af8_ (HB4.out.trans (drawn_below w.heap.size hd)); have HX5 := af8_ (HX4.out.below (drawn_below _ hd)); have HS5 := af8_ (Nat.le_trans HS4.out (drawn_below 0 hd).size); clear hd k4 HB4 HX4 HS4
  by_cases e4 : (l0_4.length : Int) = wrap64 (a0_0 * a0_1)
  case neg =>
   have e4b : ((l0_4.length : Int) != wrap64 (a0_0 * a0_1)) = true := bne_iff_ne.mpr e4
   obtain rfl : false = r := by
    have hl : lensOk (wrap64 (a0_0 * a0_1)) l0_2 l0_3 l0_4 = false := by simp [lensOk, e4]
    rw [hl] at H; simpa using H
   clear e4 H
   go_wp2
   go_ret
   exact ⟨rfl, HB5.out⟩
  have e4b : ((l0_4.length : Int) != wrap64 (a0_0 * a0_1)) = false := bne_eq_false_iff_eq.mpr e4; have E4 := af8_ e4; have k4 := HX5.out.k4; clear e4
  go_wp2_with fail
  obtain ⟨u, hu⟩ : ∃ u, l0_4.all (inB 0 1) = u := ⟨_, rfl⟩
  refine (impl_allIn.calls A0_4 c0_4 l0_4 0 1 u W5 (Kd.C_below HR4.out HB5.out) HC4.out (by unfold impl_allIn.f; rw [hu])).mono ?_
  rintro e W6 ⟨rfl, hd⟩; have HB6 := af8_ (HB5.out.trans (hd.mono HB5.out.size)); have HX6 := af8_ (HX5.out.below (hd.mono HS5.out)); have HS6 := af8_ (Nat.le_trans HS5.out hd.size); clear hd k4 HB5 HX5 HS5
  have hl : lensOk (wrap64 (a0_0 * a0_1)) l0_2 l0_3 l0_4 = u := by simp [lensOk, E2.out, E3.out, E4.out, hu]
  rw [hl] at H
  cases u with
  | false =>
   obtain rfl : false = r := by simpa using H
   clear H hl hu
   go_wp2
   go_ret
   exact ⟨rfl, HB6.out⟩
  | true =>
   rw [if_pos rfl] at H
   by_cases hp : 0 < l0_2.length ∧ l0_2.length ≤ 100 ∧ l0_3.length ≤ 100
   case neg => rw [if_neg hp] at H; cases H
   rw [if_pos hp] at H
   obtain rfl := Option.some.inj H; have HP := af8_ hp; have k2 := HX6.out.k2; have k3 := HX6.out.k3; clear H hl hu hp
   go_wp2_with fail
   have hl2 : (l0_2 ++ l0_3).length ≤ 200 := by rw [List.length_append]; have := HP.out; omega
   have hpos : 0 < (l0_2 ++ l0_3).length := by rw [List.length_append]; have := HP.out; omega
   obtain ⟨zs, hzs⟩ : ∃ zs, l0_2 ++ l0_3 = zs := ⟨_, rfl⟩; have HZS := af8_ hzs; have hB7 : Below w.heap.size w (W6.alloc (.cells #[.slice A0_2 l0_2.length c0_2, .slice A0_3 l0_3.length c0_3] 22)) := HB6.out.alloc HB6.out.size _; have hcat := catI l0_2 l0_3 (W6.alloc (.cells #[.slice A0_2 l0_2.length c0_2, .slice A0_3 l0_3.length c0_3] 22)) W6.heap.size (pairI _ _ 22 _ _ _ _ _ _ (Kd.C_below HR2.out hB7) (Kd.C_below HR3.out hB7) HC2.out HC3.out (World.alloc_heap_new W6 _)) (by omega)
   rw [hzs] at hcat hl2 hpos
   have HLZ := af8_ (And.intro hpos hl2); have HB7 := af8_ hB7
   refine hcat.mono ?_
   rintro e W8 ⟨v8, rfl, hR8, hb8⟩; obtain ⟨g8, c8, rfl, _, _, _⟩ := Kd.R_form hR8 hpos; have HB8 := af8_ (hB7.trans (hb8.mono hB7.size)); have HC8 := af8_ (Kd.R_reads' hR8).2.2; clear hcat hb8 hR8 hzs hpos hl2 hB7 k2 k3 HB6 HX6 HS6 HB7
   go_wp2_with fail
   refine (vals_contract (some ⟨g8, 0, none⟩) zs.length c8 W8).mono ?_
   rintro e W9 ⟨rfl, rfl⟩; have hB9 : Below w.heap.size w (W8.alloc (.cells #[.slice (some ⟨g8, 0, none⟩) zs.length c8] 22)) := HB8.out.alloc HB8.out.size _; have hsrt := sortedV W8.heap.size c8 (some ⟨g8, 0, none⟩) zs HLZ.out.1 (by have := HLZ.out.2; omega) (W8.alloc (.cells #[.slice (some ⟨g8, 0, none⟩) zs.length c8] 22)) (by simp) (by simp) (Kd.C_below HC8.out ((Below.refl _ _).alloc (Nat.le_refl _) _)); have HB9 := af8_ hB9; have HSR := af8_ hsrt; clear hB9 hsrt
   go_wp2_with fail
   refine HSR.out.mono ?_
   rintro e W10 ⟨v10, rfl, hR10, hb10⟩
   have hspos : 0 < (sortI zs).length := by rw [sortI_length]; exact HLZ.out.1
   obtain ⟨g10, c10, rfl, _, _, _⟩ := Kd.R_form hR10 hspos; have HB10 := af8_ (HB9.out.trans (hb10.mono HB9.out.size)); have HC10 := af8_ (Kd.R_reads' hR10).2.2; obtain ⟨ps, hps⟩ : ∃ ps, sortI zs = ps := ⟨_, rfl⟩
   have HPS := af8_ (show ps.length ≤ 200 by rw [← hps, sortI_length]; exact HLZ.out.2)
   have HPQ := af8_ (show runI (sortI (l0_2 ++ l0_3)) = runI ps by rw [HZS.out, hps])
   rw [hps] at hspos HC10 ⊢
   have HPP := af8_ hspos; clear hb10 hR10 HSR HB8 HB9 HC8 hps hspos
   go_wp2_with fail
   go_loopg [5, 6, 53] ps.length (fun gg _ _ s53 wr => ∃ i : Nat, s53 = .int .i64 i ∧ Aside0 (i ≤ ps.length ∧ ps.length - i ≤ gg) ∧ Aside0 (∀ j, j < i → okAt ps j = true) ∧ Aside0 (Below W10.heap.size W10 wr))
   case atStart => exact ⟨0, rfl, ⟨(by omega)⟩, ⟨fun j hj => by omega⟩, ⟨Below.refl _ _⟩⟩
   case round =>
    obtain ⟨i, rfl, HI, HOK, HBR⟩ := hrel
    by_cases hlt : i < ps.length
    ·
     obtain ⟨ad, e, hx⟩ := Kd.at_int (Kd.C_below HC10.out HBR.out) (i : Int) (by omega) (by omega)
     cases e
     obtain ⟨ad0, e0, hx0⟩ := Kd.at_int (Kd.C_below HC10.out HBR.out) 0 (Int.le_refl 0) (by have := HPP.out; omega)
     cases e0
     simp only [Int.toNat_natCast] at hx
     have q0 : ((0 : Int) ≤ (i : Int)) = True := eq_true (by omega); have q1 : ((i : Int) < (ps.length : Int)) = True := eq_true (by omega); have b0 : decide ((i : Int) < (ps.length : Int)) = true := decide_eq_true (by omega); have p0 : ((0 : Int) < (ps.length : Int)) = True := eq_true (by have := HPP.out; omega); have p1 : (0 < ps.length) = True := eq_true HPP.out; have HT := af8_ hlt; clear hlt
     have hadd : Addr.add ⟨g10, 0, none⟩ 0 = ⟨g10, 0, none⟩ := by simp [Addr.add]
     simp only [Int.toNat_zero, hadd] at hx0
     have hadi : Addr.add ⟨g10, 0, none⟩ i = ⟨g10, i, none⟩ := by
      unfold Addr.add
      split
      ·
       rename_i hz; rw [hz]
      ·
       simp
     rw [hadi] at hx
     go_wp2_with fail
     obtain ⟨b, hb⟩ : ∃ b, inB 1 1000000000 (rd ps 0) = b := ⟨_, rfl⟩
     have hin : impl_inRange.f (rd ps 0) 1 1000000000 = some b := by
      rw [← hb]
      unfold impl_inRange.f inB
      by_cases h : (1 : Int) ≤ rd ps 0 <;> simp [h]
     refine (impl_inRange.calls (rd ps 0) 1 1000000000 b wr hin).mono ?_
     rintro e W11 ⟨rfl, hd⟩; have hlt0 := World.block_lt_of_cell? _ _ hx0; have hx0' := ((drawn_below wr.heap.size hd).cell hlt0).trans hx0; have HB11 := af8_ (HBR.out.trans (drawn_below W10.heap.size hd)); have HBF := af8_ (HB10.out.trans (HB11.out.mono HB10.out.size)); clear hd hx hx0 hlt0 hin
     cases b with
     | false =>
      have hr : runI (sortI (l0_2 ++ l0_3)) = false := by rw [HPQ.out]; exact runI_false HT.out (by simp [okAt, hb])
      clear hx0' hb
      go_wp2
      go_ret
      exact ⟨ret_b hr.symm, HBF.out⟩
     | true =>
      by_cases he : rd ps (i : Int) = wrap64 (rd ps 0 + (i : Int))
      ·
       have n0 : (rd ps (i : Int) != wrap64 (rd ps 0 + (i : Int))) = false := bne_eq_false_iff_eq.mpr he
       have HOK2 := af8_ (show ∀ j, j < i + 1 → okAt ps j = true from fun j hj => by
        by_cases hji : j = i
        ·
         rw [hji]; simp [okAt, hb, ← he]
        ·
         exact HOK.out j (by omega))
       have HWI := af8_ (show wrap64 ((i : Int) + 1) = ((i + 1 : Nat) : Int) by unfold wrap64; have := HPS.out; have := HT.out; omega)
       clear he hb
       go_wp2_with fail
       go_roundg (ps.length - (i + 1))
       case measure => have := HI.out; have := HT.out; omega
       case rel => exact ⟨i + 1, (by rw [HWI.out]), ⟨(by have := HT.out; omega)⟩, HOK2, HB11⟩
      ·
       have n0 : (rd ps (i : Int) != wrap64 (rd ps 0 + (i : Int))) = true := bne_iff_ne.mpr he
       have hr : runI (sortI (l0_2 ++ l0_3)) = false := by rw [HPQ.out]; exact runI_false HT.out (by simp [okAt, he])
       clear he hb
       go_wp2
       go_ret
       exact ⟨ret_b hr.symm, HBF.out⟩
    ·
     have hie : i = ps.length := by have := HI.out; omega
     subst hie; have b0 : decide ((ps.length : Int) < (ps.length : Int)) = false := decide_eq_false (by omega)
     have hr : runI (sortI (l0_2 ++ l0_3)) = true := by
      rw [HPQ.out]
      exact List.all_eq_true.2 fun j hj => HOK.out j (List.mem_range.1 hj)
     have HBF := af8_ (HB10.out.trans (HBR.out.mono HB10.out.size)); clear hlt
     go_wp2
     go_ret
     exact ⟨ret_b hr.symm, HBF.out⟩
end Go.Proofs.YtoiioapkebglgaaGreatDoor.PF
end
