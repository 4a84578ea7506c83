import Derived.Test.YtokpepaoneiepaaGreatDoorCFnSides11
import Derived.Test.YtokpepaoneiepaaGreatDoorCFnSides24
import Derived.Test.YtokpepaoneiepaaGreatDoorCFnSides25
set_option linter.unusedVariables false
set_option linter.unusedSimpArgs false
section
namespace Go.Proofs.YtokpepaoneiepaaGreatDoor.PL
open Go.RowKit Go.Proofs.YtokpepaoneiepaaGreatDoorW.PrintWords Go.Proofs.YtokpepaoneiepaaGreatDoorW.PrintLast Go.Proofs.YtokpepaoneiepaaGreatDoorW.PrintMore
attribute [local go_sem] min2_int min_two
theorem pairI (W : World) (b t : Nat) (A1 A2 : Option Addr) (c1 c2 : Nat) (x y : List Int) (h1 : Kd.C (Kd.int .i64) W A1 x.length x) (h2 : Kd.C (Kd.int .i64) W A2 y.length y) (hc1 : x.length ≤ c1) (hc2 : y.length ≤ c2)
    (hb : W.heap[b]? = some (.cells #[.slice A1 x.length c1, .slice A2 y.length c2] t (0, 0))) : Kd.C (Kd.slice 2 (Kd.int .i64)) W (some ⟨b, 0, none⟩) ([x, y] : List (List Int)).length [x, y] := by
  refine ⟨rfl, by simp, fun _ => ⟨_, rfl, fun j p hj => ?_⟩⟩
  match j, hj with
  | 0, hj =>
    obtain rfl : x = p := by simpa using hj
    refine ⟨[.slice A1 x.length c1], rfl, ⟨A1, c1, rfl, hc1, h1⟩, fun i u hu => ?_⟩
    match i, hu with
    | 0, hu =>
      obtain rfl : Value.slice A1 x.length c1 = u := by simpa using hu
      simp [World.cell?, Addr.add, hb]
  | 1, hj =>
    obtain rfl : y = p := by simpa using hj
    refine ⟨[.slice A2 y.length c2], rfl, ⟨A2, c2, rfl, hc2, h2⟩, fun i u hu => ?_⟩
    match i, hu with
    | 0, hu =>
      obtain rfl : Value.slice A2 y.length c2 = u := by simpa using hu
      have e : (Kd.slice 2 (Kd.int .i64)).sz = 1 := rfl
      simp [World.cell?, Addr.add, hb, e]
theorem catI (l0 l1 : List Int) (W : World) (b : Nat) (hr : Kd.C (Kd.slice 2 (Kd.int .i64)) W (some ⟨b, 0, none⟩) ([l0, l1] : List (List Int)).length [l0, l1]) (hl : (l0 ++ l1).length ≤ 1000) :
  Calls Tryz.prog 65 #[.slice (some ⟨b, 0, none⟩) 2 2] W fun e w' => ∃ v, e = .returned v ∧ Kd.R (Kd.int .i64) 2 w' W.heap.size (fun _ => True) v (l0 ++ l1) ∧ Below W.heap.size W w' := by
 have hf : ([l0, l1] : List (List Int)).flatten = l0 ++ l1 := by simp
 have h := slices_Concat_int64_int64.calls (some ⟨b, 0, none⟩) 2 ([l0, l1] : List (List Int)) W hr (Nat.le_refl _) (by rw [hf]; omega) (by simp)
 rw [hf] at h
 exact h
def okAt (ps : List Int) (i : Nat) : Bool := inB 1 1000000000 (rd ps 0) && decide (rd ps (i : Int) = wrap64 (rd ps 0 + (i : Int)))
def runI (ps : List Int) : Bool := (List.range ps.length).all (okAt ps)
theorem runI_false {ps : List Int} {i : Nat} (hi : i < ps.length) (h : okAt ps i = false) : runI ps = false := by
 rw [Bool.eq_false_iff]
 intro h2
 have := List.all_eq_true.1 h2 i (List.mem_range.2 hi)
 rw [h] at this; cases this
def lensOk (n : Int) (p q h : List Int) : Bool := decide ((p.length : Int) = n) && decide ((q.length : Int) = n) && decide ((h.length : Int) = n) && h.all (inB 0 1)
def impl_IsForm.f (a b : Int) (p q h : List Int) : Option Bool := (impl_isSheet.f a b).bind fun t => if t = true then (if lensOk (wrap64 (a * b)) p q h = true then (if 0 < p.length ∧ p.length ≤ 100 ∧ q.length ≤ 100 then some (runI (sortI (p ++ q))) else none) else some false) else some false
theorem drawn_below {W W' : World} (n : Nat) (h : Drawn0 W W') : Below n W W' := by
 obtain ⟨nd, rfl⟩ := h
 exact pw_below_drewN (Below.refl _ _) nd
structure FormBox (B : Nat) (a b : Int) (A2 : Option Addr) (c2 : Nat) (p : List Int) (A3 : Option Addr) (c3 : Nat) (q : List Int) (A4 : Option Addr) (c4 : Nat) (h : List Int) (W : World) : Prop where
 k0 : W.cell? ⟨B, 0, none⟩ = some (.int .i64 a)
 k1 : W.cell? ⟨B, 1, none⟩ = some (.int .i64 b)
 k2 : W.cell? ⟨B, 2, none⟩ = some (.slice A2 p.length c2)
 k3 : W.cell? ⟨B, 3, none⟩ = some (.slice A3 q.length c3)
 k4 : W.cell? ⟨B, 4, none⟩ = some (.slice A4 h.length c4)
theorem FormBox.below {B : Nat} {a b : Int} {A2 : Option Addr} {c2 : Nat} {p : List Int} {A3 : Option Addr} {c3 : Nat} {q : List Int} {A4 : Option Addr} {c4 : Nat} {h : List Int} {W W' : World} (x : FormBox B a b A2 c2 p A3 c3 q A4 c4 h W) (hb : Below (B + 1) W W') : FormBox B a b A2 c2 p A3 c3 q A4 c4 h W' :=
 ⟨(hb.cell (p := ⟨B, 0, none⟩) (Nat.lt_succ_self B)).trans x.k0, (hb.cell (p := ⟨B, 1, none⟩) (Nat.lt_succ_self B)).trans x.k1, (hb.cell (p := ⟨B, 2, none⟩) (Nat.lt_succ_self B)).trans x.k2, (hb.cell (p := ⟨B, 3, none⟩) (Nat.lt_succ_self B)).trans x.k3, (hb.cell (p := ⟨B, 4, none⟩) (Nat.lt_succ_self B)).trans x.k4⟩
theorem al21_ {p : Prop} (h : p) : Aside0 p := ⟨h⟩
set_option maxHeartbeats 8000000 in
set_option maxRecDepth 100000 in
theorem impl_IsForm.calls (a0_0 : Int) (a0_1 : Int) (A0_2 : Option Addr) (c0_2 : Nat) (l0_2 : List Int) (A0_3 : Option Addr) (c0_3 : Nat) (l0_3 : List Int) (A0_4 : Option Addr) (c0_4 : Nat) (l0_4 : List Int) (r : Bool) (w : World) (hr0_2 : Kd.C (Kd.int .i64) w A0_2 l0_2.length l0_2) (hc0_2 : l0_2.length ≤ c0_2) (hr0_3 : Kd.C (Kd.int .i64) w A0_3 l0_3.length l0_3) (hc0_3 : l0_3.length ≤ c0_3) (hr0_4 : Kd.C (Kd.int .i64) w A0_4 l0_4.length l0_4) (hc0_4 : l0_4.length ≤ c0_4) (h : impl_IsForm.f a0_0 a0_1 l0_2 l0_3 l0_4 = some r) :
 Calls Tryz.prog 35 #[.agg #[.int .i64 a0_0, .int .i64 a0_1, .slice A0_2 l0_2.length c0_2, .slice A0_3 l0_3.length c0_3, .slice A0_4 l0_4.length c0_4]] w fun e w' => e = .returned (.bool r) ∧ Below w.heap.size w w' := by
 have HW := al21_ (Below.refl w.heap.size w); have au := al21_ hr0_2; have av := al21_ hc0_2; have aw := al21_ hr0_3; have ax := al21_ hc0_3; have ay := al21_ hr0_4; have az := al21_ hc0_4; clear hr0_2 hc0_2 hr0_3 hc0_3 hr0_4 hc0_4; unfold impl_IsForm.f at h; obtain ⟨t, h4, H⟩ := Option.bind_eq_some_iff.mp h; have A4 := al21_ h4; clear h h4; obtain ⟨W1, a5⟩ : ∃ W1, W1 = w.alloc (.cells #[.int .i64 a0_0, .int .i64 a0_1, .slice A0_2 l0_2.length c0_2, .slice A0_3 l0_3.length c0_3, .slice A0_4 l0_4.length c0_4] 35) := ⟨_, rfl⟩; have a3 : W1.heap[w.heap.size]? = some (.cells #[.int .i64 a0_0, .int .i64 a0_1, .slice A0_2 l0_2.length c0_2, .slice A0_3 l0_3.length c0_3, .slice A0_4 l0_4.length c0_4] 35 (0, 0)) := by rw [a5]; exact World.alloc_heap_new w _
 have aA := al21_ (show Below w.heap.size w W1 by rw [a5]; exact (Below.refl _ w).alloc (Nat.le_refl _) _); have aB := al21_ (show W1.heap.size = w.heap.size + 1 by rw [a5]; simp); have aC := al21_ (show FormBox w.heap.size a0_0 a0_1 A0_2 c0_2 l0_2 A0_3 c0_3 l0_3 A0_4 c0_4 l0_4 W1 from ⟨by simp [World.cell?, a3], by simp [World.cell?, a3], by simp [World.cell?, a3], by simp [World.cell?, a3], by simp [World.cell?, a3]⟩); have HWE := al21_ a5.symm; clear a3 a5; go_enter Tryz.func35, Tryz.ntmps35
 go_wp2_with fail
 rw [HWE.out]; refine (impl_isSheet.calls a0_0 a0_1 t W1 A4.out).mono ?_; rintro e W2 ⟨rfl, hd⟩; have ab := al21_ (aA.out.trans (drawn_below w.heap.size hd)); have a6 := al21_ (aC.out.below (drawn_below _ hd)); have aD := al21_ (show w.heap.size + 1 ≤ W2.heap.size by have := (drawn_below 0 hd).size; have := aB.out; omega); clear hd aC aA aB; cases t with
 | false =>
  obtain rfl : false = r := by simpa using H
  go_wp2; go_ret; exact ⟨rfl, ab.out⟩
 | true =>
  rw [if_pos rfl] at H; have k0 := a6.out.k0; have k1 := a6.out.k1; have k2 := a6.out.k2
  go_wp2_with fail
  refine (impl_length_int64.calls A0_2 c0_2 l0_2 (l0_2.length : Int) W2 (Kd.C_below au.out ab.out) av.out rfl).mono ?_; rintro e W3 ⟨rfl, hd⟩; have ac := al21_ (ab.out.trans (drawn_below w.heap.size hd)); have ah := al21_ (a6.out.below (drawn_below _ hd)); have aE := al21_ (Nat.le_trans aD.out (drawn_below 0 hd).size); clear hd k0 k1 k2 ab a6 aD; by_cases e2 : (l0_2.length : Int) = wrap64 (a0_0 * a0_1)
  case neg =>
   have aJ : ((l0_2.length : Int) != wrap64 (a0_0 * a0_1)) = true := bne_iff_ne.mpr e2
   obtain rfl : false = r := by
    have hl : lensOk (wrap64 (a0_0 * a0_1)) l0_2 l0_3 l0_4 = false := by simp [lensOk, e2]
    rw [hl] at H; simpa using H
   clear e2 H; go_wp2; go_ret; exact ⟨rfl, ac.out⟩
  have aJ : ((l0_2.length : Int) != wrap64 (a0_0 * a0_1)) = false := bne_eq_false_iff_eq.mpr e2; have E2 := al21_ e2; have k3 := ah.out.k3; clear e2
  go_wp2_with fail
  refine (impl_length_int64.calls A0_3 c0_3 l0_3 (l0_3.length : Int) W3 (Kd.C_below aw.out ac.out) ax.out rfl).mono ?_; rintro e W4 ⟨rfl, hd⟩; have ae := al21_ (ac.out.trans (drawn_below w.heap.size hd)); have ai := al21_ (ah.out.below (drawn_below _ hd)); have aF := al21_ (Nat.le_trans aE.out (drawn_below 0 hd).size); clear hd k3 ac ah aE; by_cases e3 : (l0_3.length : Int) = wrap64 (a0_0 * a0_1)
  case neg =>
   have aK : ((l0_3.length : Int) != wrap64 (a0_0 * a0_1)) = true := bne_iff_ne.mpr e3
   obtain rfl : false = r := by
    have hl : lensOk (wrap64 (a0_0 * a0_1)) l0_2 l0_3 l0_4 = false := by simp [lensOk, e3]
    rw [hl] at H; simpa using H
   clear e3 H; go_wp2; go_ret; exact ⟨rfl, ae.out⟩
  have aK : ((l0_3.length : Int) != wrap64 (a0_0 * a0_1)) = false := bne_eq_false_iff_eq.mpr e3; have E3 := al21_ e3; have k4 := ai.out.k4; clear e3
  go_wp2_with fail
  refine (impl_length_int64.calls A0_4 c0_4 l0_4 (l0_4.length : Int) W4 (Kd.C_below ay.out ae.out) az.out rfl).mono ?_; rintro e W5 ⟨rfl, hd⟩; have a7 := al21_ (ae.out.trans (drawn_below w.heap.size hd)); have aj := al21_ (ai.out.below (drawn_below _ hd)); have ak := al21_ (Nat.le_trans aF.out (drawn_below 0 hd).size); clear hd k4 ae ai aF; by_cases e4 : (l0_4.length : Int) = wrap64 (a0_0 * a0_1)
  case neg =>
   have aL : ((l0_4.length : Int) != wrap64 (a0_0 * a0_1)) = true := bne_iff_ne.mpr e4
   obtain rfl : false = r := by
    have hl : lensOk (wrap64 (a0_0 * a0_1)) l0_2 l0_3 l0_4 = false := by simp [lensOk, e4]
    rw [hl] at H; simpa using H
   clear e4 H; go_wp2; go_ret; exact ⟨rfl, a7.out⟩
  have aL : ((l0_4.length : Int) != wrap64 (a0_0 * a0_1)) = false := bne_eq_false_iff_eq.mpr e4; have E4 := al21_ e4; have k4 := aj.out.k4; clear e4
  go_wp2_with fail
  obtain ⟨u, hu⟩ : ∃ u, l0_4.all (inB 0 1) = u := ⟨_, rfl⟩; refine (impl_allIn.calls A0_4 c0_4 l0_4 0 1 u W5 (Kd.C_below ay.out a7.out) az.out (by unfold impl_allIn.f; rw [hu])).mono ?_; rintro e W6 ⟨rfl, hd⟩; have af := al21_ (a7.out.trans (hd.mono a7.out.size)); have al := al21_ (aj.out.below (hd.mono ak.out)); have aM := al21_ (Nat.le_trans ak.out hd.size); clear hd k4 a7 aj ak; have hl : lensOk (wrap64 (a0_0 * a0_1)) l0_2 l0_3 l0_4 = u := by simp [lensOk, E2.out, E3.out, E4.out, hu]
  rw [hl] at H; cases u with
  | false =>
   obtain rfl : false = r := by simpa using H
   clear H hl hu; go_wp2; go_ret; exact ⟨rfl, af.out⟩
  | true =>
   rw [if_pos rfl] at H; by_cases hp : 0 < l0_2.length ∧ l0_2.length ≤ 100 ∧ l0_3.length ≤ 100
   case neg => rw [if_neg hp] at H; cases H
   rw [if_pos hp] at H; obtain rfl := Option.some.inj H; have HP := al21_ hp; have k2 := al.out.k2; have k3 := al.out.k3; clear H hl hu hp
   go_wp2_with fail
   have hl2 : (l0_2 ++ l0_3).length ≤ 200 := by rw [List.length_append]; have := HP.out; omega
   have hpos : 0 < (l0_2 ++ l0_3).length := by rw [List.length_append]; have := HP.out; omega
   obtain ⟨zs, hzs⟩ : ∃ zs, l0_2 ++ l0_3 = zs := ⟨_, rfl⟩; have HZS := al21_ hzs; have a4 : Below w.heap.size w (W6.alloc (.cells #[.slice A0_2 l0_2.length c0_2, .slice A0_3 l0_3.length c0_3] 24)) := af.out.alloc af.out.size _; have hcat := catI l0_2 l0_3 (W6.alloc (.cells #[.slice A0_2 l0_2.length c0_2, .slice A0_3 l0_3.length c0_3] 24)) W6.heap.size (pairI _ _ 24 _ _ _ _ _ _ (Kd.C_below au.out a4) (Kd.C_below aw.out a4) av.out ax.out (World.alloc_heap_new W6 _)) (by omega); rw [hzs] at hcat hl2 hpos; have HLZ := al21_ (And.intro hpos hl2); have aN := al21_ a4; refine hcat.mono ?_; rintro e W8 ⟨v8, rfl, am, aG⟩; obtain ⟨g8, c8, rfl, _, _, _⟩ := Kd.R_form am hpos; have ao := al21_ (a4.trans (aG.mono a4.size)); have aH := al21_ (Kd.R_reads' am).2.2; clear hcat aG am hzs hpos hl2 a4 k2 k3 af al aM aN
   go_wp2_with fail
   refine (vals_contract (some ⟨g8, 0, none⟩) zs.length c8 W8).mono ?_; rintro e W9 ⟨rfl, rfl⟩; have aI : Below w.heap.size w (W8.alloc (.cells #[.slice (some ⟨g8, 0, none⟩) zs.length c8] 24)) := ao.out.alloc ao.out.size _; have hsrt := sortedV W8.heap.size c8 (some ⟨g8, 0, none⟩) zs HLZ.out.1 (by have := HLZ.out.2; omega) (W8.alloc (.cells #[.slice (some ⟨g8, 0, none⟩) zs.length c8] 24)) (by simp) (by simp) (Kd.C_below aH.out ((Below.refl _ _).alloc (Nat.le_refl _) _)); have ap := al21_ aI; have HSR := al21_ hsrt; clear aI hsrt
   go_wp2_with fail
   refine HSR.out.mono ?_; rintro e aq ⟨v10, rfl, a1, a8⟩; have hspos : 0 < (sortI zs).length := by rw [sortI_length]; exact HLZ.out.1
   obtain ⟨ag, aP, rfl, _, _, _⟩ := Kd.R_form a1 hspos; have a0 := al21_ (ap.out.trans (a8.mono ap.out.size)); have a2 := al21_ (Kd.R_reads' a1).2.2; obtain ⟨ps, hps⟩ : ∃ ps, sortI zs = ps := ⟨_, rfl⟩; have HPS := al21_ (show ps.length ≤ 200 by rw [← hps, sortI_length]; exact HLZ.out.2); have HPQ := al21_ (show runI (sortI (l0_2 ++ l0_3)) = runI ps by rw [HZS.out, hps]); rw [hps] at hspos a2 ⊢; have HPP := al21_ hspos; clear a8 a1 HSR ao ap aH hps hspos
   go_wp2_with fail
   go_loopg [5, 6, 53] ps.length (fun gg _ _ aO wr => ∃ i : Nat, aO = .int .i64 i ∧ Aside0 (i ≤ ps.length ∧ ps.length - i ≤ gg) ∧ Aside0 (∀ j, j < i → okAt ps j = true) ∧ Aside0 (Below aq.heap.size aq wr))
   case atStart => exact ⟨0, rfl, ⟨(by omega)⟩, ⟨fun j hj => by omega⟩, ⟨Below.refl _ _⟩⟩
   case round =>
    obtain ⟨i, rfl, HI, HOK, HBR⟩ := hrel; by_cases hlt : i < ps.length
    ·
     obtain ⟨ad, e, hx⟩ := Kd.at_int (Kd.C_below a2.out HBR.out) (i : Int) (by omega) (by omega); cases e; obtain ⟨aQ, e0, hx0⟩ := Kd.at_int (Kd.C_below a2.out HBR.out) 0 (Int.le_refl 0) (by have := HPP.out; omega); cases e0; simp only [Int.toNat_natCast] at hx; have q0 : ((0 : Int) ≤ (i : Int)) = True := eq_true (by omega); have q1 : ((i : Int) < (ps.length : Int)) = True := eq_true (by omega); have b0 : decide ((i : Int) < (ps.length : Int)) = true := decide_eq_true (by omega); have p0 : ((0 : Int) < (ps.length : Int)) = True := eq_true (by have := HPP.out; omega); have p1 : (0 < ps.length) = True := eq_true HPP.out; have HT := al21_ hlt; clear hlt; have hadd : Addr.add ⟨ag, 0, none⟩ 0 = ⟨ag, 0, none⟩ := by simp [Addr.add]
     simp only [Int.toNat_zero, hadd] at hx0
     have hadi : Addr.add ⟨ag, 0, none⟩ i = ⟨ag, i, none⟩ := by
      unfold Addr.add
      split
      ·
       rename_i hz; rw [hz]
      ·
       simp
     rw [hadi] at hx
     go_wp2_with fail
     obtain ⟨b, hb⟩ : ∃ b, inB 1 1000000000 (rd ps 0) = b := ⟨_, rfl⟩
     have hin : impl_inRange.f (rd ps 0) 1 1000000000 = some b := by
      rw [← hb]; unfold impl_inRange.f inB; by_cases h : (1 : Int) ≤ rd ps 0 <;> simp [h]
     refine (impl_inRange.calls (rd ps 0) 1 1000000000 b wr hin).mono ?_; rintro e aR ⟨rfl, hd⟩; have a9 := World.block_lt_of_cell? _ _ hx0; have hx0' := ((drawn_below wr.heap.size hd).cell a9).trans hx0; have aa := al21_ (HBR.out.trans (drawn_below aq.heap.size hd)); have HBF := al21_ (a0.out.trans (aa.out.mono a0.out.size)); clear hd hx hx0 a9 hin; cases b with
     | false =>
      have hr : runI (sortI (l0_2 ++ l0_3)) = false := by rw [HPQ.out]; exact runI_false HT.out (by simp [okAt, hb])
      clear hx0' hb; go_wp2; go_ret; exact ⟨ret_b hr.symm, HBF.out⟩
     | true =>
      by_cases he : rd ps (i : Int) = wrap64 (rd ps 0 + (i : Int))
      ·
       have n0 : (rd ps (i : Int) != wrap64 (rd ps 0 + (i : Int))) = false := bne_eq_false_iff_eq.mpr he
       have ar := al21_ (show ∀ j, j < i + 1 → okAt ps j = true from fun j hj => by
        by_cases hji : j = i
        ·
         rw [hji]; simp [okAt, hb, ← he]
        ·
         exact HOK.out j (by omega))
       have HWI := al21_ (show wrap64 ((i : Int) + 1) = ((i + 1 : Nat) : Int) by unfold wrap64; have := HPS.out; have := HT.out; omega); clear he hb
       go_wp2_with fail
       go_roundg (ps.length - (i + 1))
       case measure => have := HI.out; have := HT.out; omega
       case rel => exact ⟨i + 1, (by rw [HWI.out]), ⟨(by have := HT.out; omega)⟩, ar, aa⟩
      ·
       have n0 : (rd ps (i : Int) != wrap64 (rd ps 0 + (i : Int))) = true := bne_iff_ne.mpr he; have hr : runI (sortI (l0_2 ++ l0_3)) = false := by rw [HPQ.out]; exact runI_false HT.out (by simp [okAt, he])
       clear he hb; go_wp2; go_ret; exact ⟨ret_b hr.symm, HBF.out⟩
    ·
     have hie : i = ps.length := by have := HI.out; omega
     subst hie; have b0 : decide ((ps.length : Int) < (ps.length : Int)) = false := decide_eq_false (by omega)
     have hr : runI (sortI (l0_2 ++ l0_3)) = true := by
      rw [HPQ.out]; exact List.all_eq_true.2 fun j hj => HOK.out j (List.mem_range.1 hj)
     have HBF := al21_ (a0.out.trans (HBR.out.mono a0.out.size)); clear hlt; go_wp2; go_ret; exact ⟨ret_b hr.symm, HBF.out⟩
end Go.Proofs.YtokpepaoneiepaaGreatDoor.PL
end
