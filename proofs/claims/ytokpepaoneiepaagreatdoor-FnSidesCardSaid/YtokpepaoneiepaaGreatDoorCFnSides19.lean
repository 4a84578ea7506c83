import Derived.Lib.SmallJoins
import Derived.Test.YtokpepaoneiepaaGreatDoorCFnSides15
set_option linter.unusedVariables false
set_option linter.unusedSimpArgs false
section
namespace Go.Proofs.YtokpepaoneiepaaGreatDoor.PL
open Go.RowKit Go.Proofs.YtokpepaoneiepaaGreatDoorW.PrintWords Go.Proofs.YtokpepaoneiepaaGreatDoorW.PrintLast Go.Proofs.YtokpepaoneiepaaGreatDoorW.PrintMore
attribute [local go_sem] min2_int min_two
def decOf (s : ByteArray) (v : Int) : Int × Bool := if s.size > 10 then (0, false) else if v < 0 then (0, false) else if (itoaB v).toList = s.toList then (v, true) else (0, false)
def impl_readDecimal.f (a0 : ByteArray) : Option (Int × Bool) := if a0.size ≤ 281474976710656 then (match Lib.parseIntB 64 a0.data.toList with | .ok v => if -9223372036854775808 ≤ v ∧ v ≤ 9223372036854775807 then some (decOf a0 v) else none | _ => some (0, false)) else none
theorem bytes_or {w w' : World} (h : w' = w ∨ ∃ t, w' = Lib.bytesWorld w 5 t) : Below w.heap.size w w' := by
 rcases h with rfl | ⟨t, rfl⟩
 ·exact Below.refl _ _
 ·exact Go.Joins.below_bytesWorld _ _ _ _ (Nat.le_refl _)
set_option maxHeartbeats 8000000 in
set_option maxRecDepth 100000 in
theorem impl_readDecimal.ok (a0 : ByteArray) (v : Int) (w : World) (hlim : a0.size ≤ 281474976710656) (hp : Lib.parseIntB 64 a0.data.toList = .ok v) (hv : -9223372036854775808 ≤ v ∧ v ≤ 9223372036854775807) (hT : TabW w) :
  Calls Tryz.prog 28 #[.string a0] w fun e w' => e = .returned (.tuple #[.int .i64 (decOf a0 v).1, .bool (decOf a0 v).2]) ∧ Below w.heap.size w w' := by
 have HC := Aside0.mk (fun w => Go.Proofs.Tryz.strconv_ParseInt_10_at64_ok a0 (by omega) v hp w)
 have HB := Aside0.mk (Below.refl w.heap.size w)
 have HT := Aside0.mk hT
 have HD := Aside0.mk (show impl_decimal.f v = some (itoaB v) by unfold impl_decimal.f strconv_FormatInt.f; rw [if_pos ⟨hv.1, hv.2, rfl⟩]; rfl)
 unfold decOf
 clear hp hT
 by_cases c1 : a0.size > 10
 ·rw [if_pos c1]
  have c1b0 : decide (10 < (a0.size : Int)) = true := decide_eq_true (by omega)
  have c1b1 : decide (10 < a0.size) = true := decide_eq_true (by omega)
  clear c1
  go_enter Tryz.func28, Tryz.ntmps28
  go_wp2_with (go_at_call 56; refine (HC.out _).mono ?_; rintro e w1 ⟨rfl, hb0⟩; have hb := bytes_or hb0; clear hb0; replace HB := bst_ HB hb)
  go_ret2
  exact ⟨k1_, (by repeat (first | (with_reducible first | exact HB.out | apply below_alloc | apply pw_below_drewN | apply below_drew1) | exact HB.out))⟩
 ·rw [if_neg c1]
  have c1b0 : decide (10 < (a0.size : Int)) = false := decide_eq_false (by omega)
  have c1b1 : decide (10 < a0.size) = false := decide_eq_false (by omega)
  clear c1
  by_cases c2 : v < 0
  ·rw [if_pos c2]
   have c2b0 : decide (v < 0) = true := decide_eq_true c2
   clear c2
   go_enter Tryz.func28, Tryz.ntmps28
   go_wp2_with (go_at_call 56; refine (HC.out _).mono ?_; rintro e w1 ⟨rfl, hb0⟩; have hb := bytes_or hb0; clear hb0; replace HB := bst_ HB hb)
   go_ret2
   exact ⟨k1_, (by repeat (first | (with_reducible first | exact HB.out | apply below_alloc | apply pw_below_drewN | apply below_drew1) | exact HB.out))⟩
  ·rw [if_neg c2]
   have c2b0 : decide (v < 0) = false := decide_eq_false c2
   clear c2
   by_cases c3 : (itoaB v).toList = a0.toList
   ·rw [if_pos c3]
    have c3b0 : ((itoaB v).toList == a0.toList) = true := beq_iff_eq.mpr c3
    have c3b1 : ((itoaB v).toList != a0.toList) = false := bne_eq_false_iff_eq.mpr c3
    clear c3
    go_enter Tryz.func28, Tryz.ntmps28
    go_wp2_with (first | (go_at_call 56; refine (HC.out _).mono ?_; rintro e w1 ⟨rfl, hb0⟩; have hb := bytes_or hb0; clear hb0; replace HB := bst_ HB hb) | (go_at_call 46; (with_reducible refine (impl_decimal.calls _ _ _ HD.out (tabw_below HT.out (wn_ HB))).mono ?_); rintro e w2 ⟨rfl, hb⟩; replace HB := bst_ HB hb))
    go_ret2
    exact ⟨k1_, (by repeat (first | (with_reducible first | exact HB.out | apply below_alloc | apply pw_below_drewN | apply below_drew1) | exact HB.out))⟩
   ·rw [if_neg c3]
    have c3b0 : ((itoaB v).toList == a0.toList) = false := beq_eq_false_iff_ne.mpr c3
    have c3b1 : ((itoaB v).toList != a0.toList) = true := bne_iff_ne.mpr c3
    clear c3
    go_enter Tryz.func28, Tryz.ntmps28
    go_wp2_with (first | (go_at_call 56; refine (HC.out _).mono ?_; rintro e w1 ⟨rfl, hb0⟩; have hb := bytes_or hb0; clear hb0; replace HB := bst_ HB hb) | (go_at_call 46; (with_reducible refine (impl_decimal.calls _ _ _ HD.out (tabw_below HT.out (wn_ HB))).mono ?_); rintro e w2 ⟨rfl, hb⟩; replace HB := bst_ HB hb))
    go_ret2
    exact ⟨k1_, (by repeat (first | (with_reducible first | exact HB.out | apply below_alloc | apply pw_below_drewN | apply below_drew1) | exact HB.out))⟩
set_option maxHeartbeats 8000000 in
set_option maxRecDepth 100000 in
theorem impl_readDecimal.bad (a0 : ByteArray) (w : World) (hC : Calls Tryz.prog 56 #[.string a0, .int .i64 10, .int .i64 64] w fun e w' => ∃ x t p, e = .returned (.tuple #[.int .i64 x, .iface t p]) ∧ Below w.heap.size w w') :
  Calls Tryz.prog 28 #[.string a0] w fun e w' => e = .returned (.tuple #[.int .i64 0, .bool false]) ∧ Below w.heap.size w w' := by
 have HC := Aside0.mk hC
 clear hC
 go_enter Tryz.func28, Tryz.ntmps28
 go_wp2_with (go_at_call 56; refine HC.out.mono ?_; rintro e w1 ⟨x, t, p, rfl, hb⟩; have HB := Aside0.mk hb; clear hb)
 go_ret2
 exact ⟨k1_, (by repeat (first | (with_reducible first | exact HB.out | apply below_alloc | apply pw_below_drewN | apply below_drew1) | exact HB.out))⟩
theorem impl_readDecimal.calls (a0 : ByteArray) (r1 : Int) (r2 : Bool) (w : World) (h : impl_readDecimal.f a0 = some (r1, r2)) (hT : TabW w) :
  Calls Tryz.prog 28 #[.string a0] w fun e w' => e = .returned (.tuple #[.int .i64 r1, .bool r2]) ∧ Below w.heap.size w w' := by
 unfold impl_readDecimal.f at h
 split at h
 ·rename_i hlim
  split at h
  ·rename_i v hp
   split at h
   ·rename_i hv
    have h1 := Option.some.inj h; have h2 := impl_readDecimal.ok a0 v w hlim hp hv hT; rw [h1] at h2; exact h2
   ·cases h
  ·rename_i hp
   obtain ⟨rfl, rfl⟩ := Prod.mk.inj (Option.some.inj h); refine impl_readDecimal.bad a0 w ?_; cases hq : Lib.parseIntB 64 a0.data.toList
   ·rename_i v
    exact absurd hq (hp v)
   ·obtain ⟨_, _, ⟨ev, h3, h4⟩, _⟩ := hT
    refine (Go.Proofs.Tryz.strconv_ParseInt_10_at64_syntax a0 hlim hq ev w h3 h4).mono ?_; rintro e w' ⟨N, rfl, _, _, hb⟩; exact ⟨_, _, _, rfl, hb⟩
   ·obtain ⟨_, _, _, ⟨ev, h3, h4⟩⟩ := hT
    refine (Go.Proofs.Tryz.strconv_ParseInt_10_at64_range a0 hlim hq ev w h3 h4).mono ?_; rintro e w' ⟨N, rfl, _, _, hb⟩; exact ⟨_, _, _, rfl, hb⟩
 ·cases h
def impl_toInt.f (a0 : Bool) : Option (Int) := if a0 = true then (some 1) else (some 0)
set_option maxHeartbeats 8000000 in
set_option maxRecDepth 100000 in
theorem impl_toInt.calls (a0 : Bool) (r : Int) (w : World) (h : impl_toInt.f a0 = some r) :
  Calls Tryz.prog 29 #[.bool a0] w fun e w' => e = .returned (.int .i64 r) ∧ Drawn0 w w' := by
 unfold impl_toInt.f at h; have H := h; clear h; by_cases c2 : a0 = true
 ·subst c2
  replace H := it_ H; obtain rfl := Option.some.inj H; go_enter Tryz.func29, Tryz.ntmps29; go_wp2; go_ret; exact ⟨k1_, (by repeat (first | exact Drawn0.refl _ | apply Drawn0.step))⟩
 ·replace c2 := Bool.eq_false_iff.mpr c2
  subst c2; replace H := if0_ H; obtain rfl := Option.some.inj H; go_enter Tryz.func29, Tryz.ntmps29; go_wp2; go_ret; exact ⟨k1_, (by repeat (first | exact Drawn0.refl _ | apply Drawn0.step))⟩
end Go.Proofs.YtokpepaoneiepaaGreatDoor.PL
end
