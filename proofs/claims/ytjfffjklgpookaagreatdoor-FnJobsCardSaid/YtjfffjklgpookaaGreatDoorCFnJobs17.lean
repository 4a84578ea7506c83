import Derived.Lib.SmallJoins
import Derived.Test.YtjfffjklgpookaaGreatDoorCFnJobs16
set_option linter.unusedVariables false
set_option linter.unusedSimpArgs false
section
namespace Go.Proofs.YtjfffjklgpookaaGreatDoor.PJ
open Go.RowKit Go.Proofs.YtjfffjklgpookaaGreatDoorW.PrintWords Go.Proofs.YtjfffjklgpookaaGreatDoorW.PrintLast Go.Proofs.YtjfffjklgpookaaGreatDoorW.PrintMore
def decOf (s : ByteArray) (v : Int) : Int × Bool := if s.size > 10 then (0, false) else if v < 0 then (0, false) else if (itoaB v).toList = s.toList then (v, true) else (0, false)
def impl_readDecimal.f (a0 : ByteArray) : Option (Int × Bool) := if a0.size ≤ 281474976710656 then (match Lib.parseIntB 64 a0.data.toList with | .ok v => if -9223372036854775808 ≤ v ∧ v ≤ 9223372036854775807 then some (decOf a0 v) else none | _ => some (0, false)) else none
theorem bytes_or {w w' : World} (h : w' = w ∨ ∃ t, w' = Lib.bytesWorld w 5 t) : Below w.heap.size w w' := by
 rcases h with rfl | ⟨t, rfl⟩
 ·exact Below.refl _ _
 ·exact Go.Joins.below_bytesWorld _ _ _ _ (Nat.le_refl _)
set_option maxHeartbeats 8000000 in
set_option maxRecDepth 100000 in
theorem impl_readDecimal.ok (a0 : ByteArray) (v : Int) (w : World) (hlim : a0.size ≤ 281474976710656) (hp : Lib.parseIntB 64 a0.data.toList = .ok v) (hv : -9223372036854775808 ≤ v ∧ v ≤ 9223372036854775807) (hT : TabW w) :
  Calls Tryz.prog 41 #[.string a0] w fun e w' => e = .returned (.tuple #[.int .i64 (decOf a0 v).1, .bool (decOf a0 v).2]) ∧ Below w.heap.size w w' := by
 have HC := Aside0.mk (fun w => Go.Proofs.Tryz.strconv_ParseInt_10_at64_ok a0 (by omega) v hp w)
 have HB := Aside0.mk (Below.refl w.heap.size w)
 have HT := Aside0.mk hT
 have HD := Aside0.mk (show impl_decimal.f v = some (itoaB v) by unfold impl_decimal.f strconv_FormatInt.f; rw [if_pos ⟨hv.1, hv.2, rfl⟩]; rfl)
 unfold decOf
 clear hp hT
 by_cases c1 : a0.size > 10
 ·rw [if_pos c1]
  have c1b0 : decide (10 < (a0.size : Int)) = true := decide_eq_true (by omega)
  have c1b1 : decide (10 < a0.size) = true := decide_eq_true (by omega)
  clear c1
  go_enter Tryz.func41, Tryz.ntmps41
  go_wp2_with (go_at_call 66; refine (HC.out _).mono ?_; rintro e w1 ⟨rfl, hb0⟩; have hb := bytes_or hb0; clear hb0; have n0_ := Aside0.mk (below_step k0_ hb); clear HB; have HB := n0_; clear n0_ hb)
  go_ret2
  exact ⟨k8_, k0_⟩
 ·rw [if_neg c1]
  have c1b0 : decide (10 < (a0.size : Int)) = false := decide_eq_false (by omega)
  have c1b1 : decide (10 < a0.size) = false := decide_eq_false (by omega)
  clear c1
  by_cases c2 : v < 0
  ·rw [if_pos c2]
   have c2b0 : decide (v < 0) = true := decide_eq_true c2
   clear c2
   go_enter Tryz.func41, Tryz.ntmps41
   go_wp2_with (go_at_call 66; refine (HC.out _).mono ?_; rintro e w1 ⟨rfl, hb0⟩; have hb := bytes_or hb0; clear hb0; have n0_ := Aside0.mk (below_step k0_ hb); clear HB; have HB := n0_; clear n0_ hb)
   go_ret2
   exact ⟨k8_, k0_⟩
  ·rw [if_neg c2]
   have c2b0 : decide (v < 0) = false := decide_eq_false c2
   clear c2
   by_cases c3 : (itoaB v).toList = a0.toList
   ·rw [if_pos c3]
    have c3b0 : ((itoaB v).toList == a0.toList) = true := beq_iff_eq.mpr c3
    have c3b1 : ((itoaB v).toList != a0.toList) = false := bne_eq_false_iff_eq.mpr c3
    clear c3
    go_enter Tryz.func41, Tryz.ntmps41
    go_wp2_with (first | (go_at_call 66; refine (HC.out _).mono ?_; rintro e w1 ⟨rfl, hb0⟩; have hb := bytes_or hb0; clear hb0; have n0_ := Aside0.mk (below_step k0_ hb); clear HB; have HB := n0_; clear n0_ hb) | (go_at_call 23; (with_reducible refine (impl_decimal.calls v (itoaB v) _ HD.out (tabw_below HT.out k0_)).mono ?_); rintro e w2 ⟨rfl, hb⟩; have n0_ := Aside0.mk (below_step k0_ hb); clear HB; have HB := n0_; clear n0_ hb))
    go_ret2
    exact ⟨k8_, k0_⟩
   ·rw [if_neg c3]
    have c3b0 : ((itoaB v).toList == a0.toList) = false := beq_eq_false_iff_ne.mpr c3
    have c3b1 : ((itoaB v).toList != a0.toList) = true := bne_iff_ne.mpr c3
    clear c3
    go_enter Tryz.func41, Tryz.ntmps41
    go_wp2_with (first | (go_at_call 66; refine (HC.out _).mono ?_; rintro e w1 ⟨rfl, hb0⟩; have hb := bytes_or hb0; clear hb0; have n0_ := Aside0.mk (below_step k0_ hb); clear HB; have HB := n0_; clear n0_ hb) | (go_at_call 23; (with_reducible refine (impl_decimal.calls v (itoaB v) _ HD.out (tabw_below HT.out k0_)).mono ?_); rintro e w2 ⟨rfl, hb⟩; have n0_ := Aside0.mk (below_step k0_ hb); clear HB; have HB := n0_; clear n0_ hb))
    go_ret2
    exact ⟨k8_, k0_⟩
set_option maxHeartbeats 8000000 in
set_option maxRecDepth 100000 in
theorem impl_readDecimal.bad (a0 : ByteArray) (w : World) (hC : Calls Tryz.prog 66 #[.string a0, .int .i64 10, .int .i64 64] w fun e w' => ∃ x t p, e = .returned (.tuple #[.int .i64 x, .iface t p]) ∧ Below w.heap.size w w') :
  Calls Tryz.prog 41 #[.string a0] w fun e w' => e = .returned (.tuple #[.int .i64 0, .bool false]) ∧ Below w.heap.size w w' := by
 have HC := Aside0.mk hC
 clear hC
 go_enter Tryz.func41, Tryz.ntmps41
 go_wp2_with (go_at_call 66; refine HC.out.mono ?_; rintro e w1 ⟨x, t, p, rfl, hb⟩; have HB := Aside0.mk hb; clear hb)
 go_ret2
 exact ⟨k8_, k0_⟩
theorem impl_readDecimal.calls (a0 : ByteArray) (r1 : Int) (r2 : Bool) (w : World) (h : impl_readDecimal.f a0 = some (r1, r2)) (hT : TabW w) :
  Calls Tryz.prog 41 #[.string a0] w fun e w' => e = .returned (.tuple #[.int .i64 r1, .bool r2]) ∧ Below w.heap.size w w' := by
 unfold impl_readDecimal.f at h
 split at h
 ·rename_i hlim
  split at h
  ·rename_i v hp
   split at h
   ·rename_i hv
    have h1 := Option.some.inj h; have h2 := impl_readDecimal.ok a0 v w hlim hp hv hT; rw [h1] at h2; exact h2
   ·cases h
  ·rename_i hp
   obtain ⟨rfl, rfl⟩ := Prod.mk.inj (Option.some.inj h); refine impl_readDecimal.bad a0 w ?_; cases hq : Lib.parseIntB 64 a0.data.toList
   ·rename_i v
    exact absurd hq (hp v)
   ·obtain ⟨_, _, ⟨ev, h3, h4⟩, _⟩ := hT
    refine (Go.Proofs.Tryz.strconv_ParseInt_10_at64_syntax a0 hlim hq ev w h3 h4).mono ?_; rintro e w' ⟨N, rfl, _, _, hb⟩; exact ⟨_, _, _, rfl, hb⟩
   ·obtain ⟨_, _, _, ⟨ev, h3, h4⟩⟩ := hT
    refine (Go.Proofs.Tryz.strconv_ParseInt_10_at64_range a0 hlim hq ev w h3 h4).mono ?_; rintro e w' ⟨N, rfl, _, _, hb⟩; exact ⟨_, _, _, rfl, hb⟩
 ·cases h
def impl_IsPaper.f (a0_0 : Int) (a0_1 : Int) : Option (Bool) := (impl_inRange.f a0_0 30 500).bind fun t419 => (if t419 = true then ((impl_inRange.f a0_1 50 300).bind fun t420 => (some t420)) else (some false))
set_option maxHeartbeats 8000000 in
set_option maxRecDepth 100000 in
theorem impl_IsPaper.calls (a0_0 : Int) (a0_1 : Int) (r : Bool) (w : World) (h : impl_IsPaper.f a0_0 a0_1 = some r) :
  Calls Tryz.prog 33 #[.agg #[.int .i64 a0_0, .int .i64 a0_1]] w fun e w' => e = .returned (.bool r) ∧ Below w.heap.size w w' := by
 have hu28 := Tryz.underlying28; have HB := Aside0.mk (Below.refl w.heap.size w); have H : ((impl_inRange.f a0_0 30 500).bind fun t419 => (if t419 = true then ((impl_inRange.f a0_1 50 300).bind fun t420 => (some t420)) else (some false))) = some r := h; clear h; replace H := Option.bind_eq_some_iff.mp H; obtain ⟨t419, A20, H⟩ := H; (try dsimp only at H); have A2 := Aside0.mk A20; clear A20; by_cases c3 : t419 = true
 ·subst c3
  rw [if_pos rfl] at H; replace H := Option.bind_eq_some_iff.mp H; obtain ⟨t420, A40, H⟩ := H; (try dsimp only at H); have A4 := Aside0.mk A40; clear A40; obtain rfl := Option.some.inj H; go_enter Tryz.func33, Tryz.ntmps33
  go_wp2_with (first | ((with_reducible refine gate_dst (N := 1) rfl ?_); refine be_ (N := 1) (cs := #[.int .i64 a0_0, .int .i64 a0_1]) (t := 28) ?_; intro gb418 hg w5 hbox hb; have n0_ := Aside0.mk (below_step k0_ hb); have n1_ := Aside0.mk (hbox); have n2_ := Aside0.mk ((by rw [hg]; exact (below_size k0_) : w.heap.size ≤ gb418)); have n3_ := Aside0.mk ((by rw [hg]; exact (below_size k0_) : w.heap.size ≤ gb418)); clear HB; have HB := n0_; have BK418 := n1_; have GW418 := n2_; have GE418 := n3_; clear n0_ n1_ n2_ n3_; clear hb hbox hg; obtain ⟨hcz6_0, hcz6_1⟩ := blk2 BK418.out; obtain ⟨hfz6_0, hfz6_1⟩ := frz2 BK418.out) | ((with_reducible refine gate_callee (f := 35) rfl ?_); refine goesL_ (some 5) rfl rfl Tryz.func35 (by kernel_rfl) rfl #[.int .i64 a0_0, .int .i64 30, .int .i64 500] rfl k1_ ?_; (with_reducible refine (impl_inRange.calls a0_0 30 500 true _ A2.out).mono ?_); rintro e w' ⟨rfl, ⟨nd, rfl⟩⟩; refine ⟨_, rfl, ?_⟩) | (go_at_call 35; (with_reducible refine (impl_inRange.calls a0_1 50 300 t420 _ A4.out).mono ?_); rintro e w' ⟨rfl, ⟨nd, rfl⟩⟩))
  go_ret; exact ⟨k5_, (by repeat (first | (with_reducible first | exact HB.out | apply below_alloc | apply pw_below_drewN | apply below_drew1 | refine below_set ?_ GE418.out) | exact HB.out))⟩
 ·replace c3 := Bool.eq_false_iff.mpr c3
  subst c3; rw [if_neg (show ¬ (false = true) by decide)] at H; obtain rfl := Option.some.inj H; go_enter Tryz.func33, Tryz.ntmps33
  go_wp2_with (first | ((with_reducible refine gate_dst (N := 1) rfl ?_); refine be_ (N := 1) (cs := #[.int .i64 a0_0, .int .i64 a0_1]) (t := 28) ?_; intro gb418 hg w7 hbox hb; have BK418 := Aside0.mk (hbox); have GW418 := Aside0.mk ((by rw [hg]; exact (below_size k0_) : w.heap.size ≤ gb418)); have GE418 := Aside0.mk ((by rw [hg]; exact (below_size k0_) : w.heap.size ≤ gb418)); replace HB := Aside0.mk (below_step k0_ hb); clear hb hbox hg; obtain ⟨hcz8_0, hcz8_1⟩ := blk2 BK418.out; obtain ⟨hfz8_0, hfz8_1⟩ := frz2 BK418.out) | ((with_reducible refine gate_callee (f := 35) rfl ?_); refine goesL_ (some 5) rfl rfl Tryz.func35 (by kernel_rfl) rfl #[.int .i64 a0_0, .int .i64 30, .int .i64 500] rfl k1_ ?_; (with_reducible refine (impl_inRange.calls a0_0 30 500 false _ A2.out).mono ?_); rintro e w' ⟨rfl, ⟨nd, rfl⟩⟩; refine ⟨_, rfl, ?_⟩))
  go_ret; exact ⟨k5_, (by repeat (first | (with_reducible first | exact HB.out | apply below_alloc | apply pw_below_drewN | apply below_drew1 | refine below_set ?_ GE418.out) | exact HB.out))⟩
def impl_PaperText.f (a0_0 : Int) (a0_1 : Int) : Option (ByteArray) := (impl_IsPaper.f a0_0 a0_1).bind fun t422 => (if t422 = true then ((impl_decimal.f a0_0).bind fun t423 => (if t423.size + 1 ≤ 9223372036854775807 then ((impl_decimal.f a0_1).bind fun t424 => (if (t423 ++ (⟨#[47]⟩ : ByteArray)).size + t424.size ≤ 9223372036854775807 then (some ((t423 ++ (⟨#[47]⟩ : ByteArray)) ++ t424)) else (none))) else (none))) else (some (⟨#[]⟩ : ByteArray)))
def impl_PaperText.T3 : Bool × List (List Nat × List Nat) := (true, [([], []), ([0], [0]), ([1], [1]), ([2], [2]), ([], []), ([4], [4]), ([5, 2], [5]), ([3, 6], [3, 6]), ([7, 6, 0, 1, 2, 3, 4, 5, 6, 7], [7])])
def impl_PaperText.B3 : List Nat := [0, 1, 3, 7, 0, 16, 55, 127, 255]
theorem impl_PaperText.tab3 : rtab .any (opsOf Tryz.f25 3) = impl_PaperText.T3 := by kernel_rfl
theorem impl_PaperText.bits3 : waitsOk impl_PaperText.T3.2 impl_PaperText.B3 = true := by kernel_rfl
theorem aj14_ {p : Prop} (h : p) : Aside0 p := ⟨h⟩
theorem w1j14_ {p : Prop} (h : p := by repeat (first | (with_reducible first | exact HB.out | apply below_alloc | apply pw_below_drewN | apply below_drew1 | refine below_set ?_ GE421.out) | exact HB.out)) : p := h
theorem w4j14_ {p : Prop} (h : p := by (with_reducible repeat (first | refine blk_drewN ?_ _ | refine blk_drew ?_ | refine blk_alloc ?_ _)); exact BK421.out) : p := h
set_option maxHeartbeats 8000000 in
set_option maxRecDepth 100000 in
theorem impl_PaperText.calls (a0_0 : Int) (a0_1 : Int) (r : ByteArray) (w : World) (h : impl_PaperText.f a0_0 a0_1 = some r) (hT : TabW w) :
 Calls Tryz.prog 25 #[.agg #[.int .i64 a0_0, .int .i64 a0_1]] w fun e w' => e = .returned (.string r) ∧ Below w.heap.size w w' := by
 have HT := aj14_ hT; clear hT; have hu28 := Tryz.underlying28; have HB := aj14_ (Below.refl w.heap.size w); have H : ((impl_IsPaper.f a0_0 a0_1).bind fun t422 => (if t422 = true then ((impl_decimal.f a0_0).bind fun t423 => (if t423.size + 1 ≤ 9223372036854775807 then ((impl_decimal.f a0_1).bind fun t424 => (if (t423 ++ (⟨#[47]⟩ : ByteArray)).size + t424.size ≤ 9223372036854775807 then (some ((t423 ++ (⟨#[47]⟩ : ByteArray)) ++ t424)) else (none))) else (none))) else (some (⟨#[]⟩ : ByteArray)))) = some r := h; clear h; replace H := Option.bind_eq_some_iff.mp H; obtain ⟨t422, A20, H⟩ := H; (try dsimp only at H); have A2 := aj14_ A20; clear A20; by_cases c3 : t422 = true
 ·
  subst c3; rw [if_pos rfl] at H; replace H := Option.bind_eq_some_iff.mp H; obtain ⟨t423, A40, H⟩ := H; (try dsimp only at H); have A4 := aj14_ A40; clear A40; by_cases c5 : t423.size + 1 ≤ 9223372036854775807
  ·
   rw [if_pos c5] at H; have c5b0 := eq_true c5; have c5b1 : decide (t423.size + 1 ≤ 9223372036854775807) = true := decide_eq_true c5; (try have c5b2 : (9223372036854775807 < t423.size + 1) = False := eq_false (Nat.not_lt.2 c5)); replace H := Option.bind_eq_some_iff.mp H; obtain ⟨t424, A60, H⟩ := H; (try dsimp only at H); have A6 := aj14_ A60; clear A60; by_cases c7 : (t423 ++ (⟨#[47]⟩ : ByteArray)).size + t424.size ≤ 9223372036854775807
   ·
    rw [if_pos c7] at H; have c7b0 := eq_true c7; have c7b1 : decide ((t423 ++ (⟨#[47]⟩ : ByteArray)).size + t424.size ≤ 9223372036854775807) = true := decide_eq_true c7; (try have c7b1s := c7b1); (try simp only [ByteArray.size_append, z0_] at c7b1s); (try have c7b2 : (9223372036854775807 < (t423 ++ (⟨#[47]⟩ : ByteArray)).size + t424.size) = False := eq_false (Nat.not_lt.2 c7)); (try have c7b2s := c7b2); (try simp only [ByteArray.size_append, z0_] at c7b2s); obtain rfl := Option.some.inj H; go_enter Tryz.func25, Tryz.ntmps25
    try go_wp2_with (first | ((with_reducible refine gate_dst (N := 1) rfl ?_); refine be_ (N := 1) (cs := #[.int .i64 a0_0, .int .i64 a0_1]) (t := 28) ?_; intro gb421 hg w8 hbox hb; have BK421 := aj14_ (hbox); have GW421 := gw_ (w := w) hg k0_; have GE421 := gw_ (w := w) hg k0_; replace HB := aj14_ (below_step k0_ hb); clear hb hbox hg; obtain ⟨hcz9_0, hcz9_1⟩ := blk2 BK421.out; obtain ⟨hfz9_0, hfz9_1⟩ := frz2 BK421.out) | ((with_reducible refine gate_callee (f := 33) rfl ?_); refine goesL_ (some 4) rfl rfl Tryz.func33 (by kernel_rfl) rfl #[.agg #[.int .i64 a0_0, .int .i64 a0_1]] rfl k1_ ?_; (with_reducible refine (impl_IsPaper.calls a0_0 a0_1 true _ A2.out).mono ?_); rintro e w10 ⟨rfl, hb⟩; refine ⟨_, rfl, ?_⟩; replace BK421 := aj14_ (blk_below w4j14_ hb); replace HB := aj14_ (below_step w1j14_ hb); clear hb))
    replace BK421 := aj14_ (blk_drew BK421.out); replace HB := aj14_ (below_drew1 HB.out); refine start_ (n := 9) (S := fun w' => w'.cell? ⟨gb421, 0, none⟩ = some (.int .i64 a0_0) ∧ w'.cell? ⟨gb421, 1, none⟩ = some (.int .i64 a0_1)) (ds := []) (bs_ 9 0) (by kernel_rfl) rfl rfl ⟨(blk_cell BK421.out 0).trans rfl, (blk_cell BK421.out 1).trans rfl⟩ (fun hHeld => ?_); refine with_tabW impl_PaperText.tab3 impl_PaperText.bits3 (fun HT_ HW_ => ?_); generalize w10.drew = w11 at BK421 HB hHeld ⊢; refine pd_ (i := 0) (N := some 6) (bs_ 9 1) rfl rfl ?_; refine pd_ (i := 4) (N := some 10) (bs_ 9 17) rfl rfl ?_; refine td2_ (i := 1) (N := some 7) (bs_ 9 19) rfl rfl hHeld ?_; refine td2_ (i := 5) (N := some 11) (bs_ 9 51) rfl rfl hHeld ?_; refine one_ (i := 2) (N := some 8) (bs_ 9 55) rfl rfl (one_of HT_.out (by kernel_rfl)) (by decide) (fun K hK => ?_); refine goes_ Tryz.func23 (by kernel_rfl) rfl #[.int .i64 a0_0] (by rfl) rfl rfl k1_ ?_; (with_reducible refine (impl_decimal.calls a0_0 t423 _ A4.out (tabw_below HT.out w1j14_)).mono ?_); rintro e w12 ⟨rfl, hb⟩; refine ⟨_, rfl, ?_⟩; replace BK421 := aj14_ (blk_below w4j14_ hb); replace HB := aj14_ (below_step w1j14_ hb); clear hb; refine hK.out _ _ ⟨(blk_cell BK421.out 0).trans rfl, (blk_cell BK421.out 1).trans rfl⟩ (fun hHeld => ?_); clear hK K; refine norm_ (a' := _) k2_ ?_; refine pd_ (i := 3) (N := some 9) (bs_ 9 63) rfl rfl ?_; refine one_ (i := 6) (N := some 12) (bs_ 9 127) rfl rfl (one_of HT_.out (by kernel_rfl)) (by decide) (fun K hK => ?_); refine goes_ Tryz.func23 (by kernel_rfl) rfl #[.int .i64 a0_1] (by rfl) rfl rfl k1_ ?_; (with_reducible refine (impl_decimal.calls a0_1 t424 _ A6.out (tabw_below HT.out w1j14_)).mono ?_); rintro e w13 ⟨rfl, hb⟩; refine ⟨_, rfl, ?_⟩; replace BK421 := aj14_ (blk_below w4j14_ hb); replace HB := aj14_ (below_step w1j14_ hb); clear hb; refine hK.out _ _ ⟨(blk_cell BK421.out 0).trans rfl, (blk_cell BK421.out 1).trans rfl⟩ (fun hHeld => ?_); clear hK K; refine norm_ (a' := _) k2_ ?_; refine pd_ (i := 7) (N := some 13) (bs_ 9 255) rfl rfl ?_; refine pd_ (i := 8) (N := some 2) (bs_ 9 511) rfl rfl ?_; refine done_ (done_of HT_.out (by kernel_rfl)) ?_
    try go_wp2
    go_ret; exact ⟨k5_, w1j14_⟩
   ·
    rw [if_neg c7] at H; exact absurd H (by simp)
  ·
   rw [if_neg c5] at H; exact absurd H (by simp)
 ·
  replace c3 := Bool.eq_false_iff.mpr c3; subst c3; have H1 : (some (⟨#[]⟩ : ByteArray)) = some r := by rw [if_neg (show ¬ (false = true) by decide)] at H; exact H
  clear H; have H := H1; clear H1; obtain rfl := Option.some.inj H; go_enter Tryz.func25, Tryz.ntmps25
  go_wp2_with (first | ((with_reducible refine gate_dst (N := 1) rfl ?_); refine be_ (N := 1) (cs := #[.int .i64 a0_0, .int .i64 a0_1]) (t := 28) ?_; intro gb421 hg w14 hbox hb; have BK421 := aj14_ (hbox); have GW421 := gw_ (w := w) hg k0_; have GE421 := gw_ (w := w) hg k0_; replace HB := aj14_ (below_step k0_ hb); clear hb hbox hg; obtain ⟨hcz15_0, hcz15_1⟩ := blk2 BK421.out; obtain ⟨hfz15_0, hfz15_1⟩ := frz2 BK421.out) | ((with_reducible refine gate_callee (f := 33) rfl ?_); refine goesL_ (some 4) rfl rfl Tryz.func33 (by kernel_rfl) rfl #[.agg #[.int .i64 a0_0, .int .i64 a0_1]] rfl k1_ ?_; (with_reducible refine (impl_IsPaper.calls a0_0 a0_1 false _ A2.out).mono ?_); rintro e w16 ⟨rfl, hb⟩; refine ⟨_, rfl, ?_⟩; replace BK421 := aj14_ (blk_below w4j14_ hb); replace HB := aj14_ (below_step w1j14_ hb); clear hb))
  go_ret; exact ⟨k5_, w1j14_⟩
end Go.Proofs.YtjfffjklgpookaaGreatDoor.PJ
end
