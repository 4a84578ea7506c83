-- Gathered by this session's program wip/tool/shake.py out of its own texts and of what the kit's print and the session's patches of it wrote for this claim.
import Derived.Lib.SmallJoins
import Derived.Test.YtoiioapkebglgaaDoorCFnJournals3
import Derived.Test.YtoiioapkebglgaaDoorCFnJournals9
import Derived.Test.YtoiioapkebglgaaDoorCFnJournals11
import Derived.Test.YtoiioapkebglgaaDoorCFnJournals12
section
namespace Go.Proofs.YtoiioapkebglgaaDoor.PG
open Go.RowKit Go.Proofs.YtoiioapkebglgaaDoorW.PrintWords Go.Proofs.YtoiioapkebglgaaDoorW.PrintLast Go.Proofs.YtoiioapkebglgaaDoorW.PrintMore
attribute [local go_sem] max2_int min2_int max_two min_two max_three min_three max_four min_four   -- for this text's walks alone
set_option linter.unusedVariables false
set_option linter.unusedSimpArgs false
/-- What readDecimal reads. -/
def decOf (s : ByteArray) (v : Int) : Int × Bool := if s.size > 10 then (0, false) else if v < 0 then (0, false) else if (itoaB v).toList = s.toList then (v, true) else (0, false)
def impl_readDecimal.f (a0 : ByteArray) : Option (Int × Bool) := if a0.size ≤ 281474976710656 then (match Lib.parseIntB 64 a0.data.toList with | .ok v => if -9223372036854775808 ≤ v ∧ v ≤ 9223372036854775807 then some (decOf a0 v) else none | _ => some (0, false)) else none
theorem bytes_or {w w' : World} (h : w' = w ∨ ∃ t, w' = Lib.bytesWorld w 5 t) : Below w.heap.size w w' := by
  rcases h with rfl | ⟨t, rfl⟩
  · exact Below.refl _ _
  · exact Go.Joins.below_bytesWorld _ _ _ _ (Nat.le_refl _)
set_option maxHeartbeats 8000000 in
set_option maxRecDepth 100000 in
theorem impl_readDecimal.ok (a0 : ByteArray) (v : Int) (w : World) (hlim : a0.size ≤ 281474976710656) (hp : Lib.parseIntB 64 a0.data.toList = .ok v) (hv : -9223372036854775808 ≤ v ∧ v ≤ 9223372036854775807) (hT : TabW w) :
    Calls Tryd.prog 64 #[.string a0] w fun e w' => e = .returned (.tuple #[.int .i64 (decOf a0 v).1, .bool (decOf a0 v).2]) ∧ Below w.heap.size w w' := by
  have HC := Aside0.mk (fun w => Go.Proofs.Tryd.strconv_ParseInt_10_at64_ok a0 (by omega) v hp w)
  have HB := Aside0.mk (Below.refl w.heap.size w)
  have HT := Aside0.mk hT
  have HD := Aside0.mk (show impl_decimal.f v = some (itoaB v) by unfold impl_decimal.f strconv_FormatInt.f; rw [if_pos ⟨hv.1, hv.2, rfl⟩]; rfl)
  unfold decOf
  clear hp hT
  by_cases c1 : a0.size > 10
  · rw [if_pos c1]
    have c1b0 : decide (10 < (a0.size : Int)) = true := decide_eq_true (by omega)
    have c1b1 : decide (10 < a0.size) = true := decide_eq_true (by omega)
    clear c1
    go_enter Tryd.func64, Tryd.ntmps64
    go_wp2_with (go_at_call 124; refine (HC.out _).mono ?_; rintro e w1 ⟨rfl, hb0⟩; have hb := bytes_or hb0; clear hb0; have n0_ := Aside0.mk (below_step (by repeat (first | (with_reducible first | exact HB.out | apply below_alloc | apply pw_below_drewN | apply below_drew1) | exact HB.out)) hb); clear HB; have HB := n0_; clear n0_ hb)
    go_ret2
    exact ⟨(by first | rfl | (simp; done) | (simp [*]; done)), (by repeat (first | (with_reducible first | exact HB.out | apply below_alloc | apply pw_below_drewN | apply below_drew1) | exact HB.out))⟩
  · rw [if_neg c1]
    have c1b0 : decide (10 < (a0.size : Int)) = false := decide_eq_false (by omega)
    have c1b1 : decide (10 < a0.size) = false := decide_eq_false (by omega)
    clear c1
    by_cases c2 : v < 0
    · rw [if_pos c2]
      have c2b0 : decide (v < 0) = true := decide_eq_true c2
      clear c2
      go_enter Tryd.func64, Tryd.ntmps64
      go_wp2_with (go_at_call 124; refine (HC.out _).mono ?_; rintro e w1 ⟨rfl, hb0⟩; have hb := bytes_or hb0; clear hb0; have n0_ := Aside0.mk (below_step (by repeat (first | (with_reducible first | exact HB.out | apply below_alloc | apply pw_below_drewN | apply below_drew1) | exact HB.out)) hb); clear HB; have HB := n0_; clear n0_ hb)
      go_ret2
      exact ⟨(by first | rfl | (simp; done) | (simp [*]; done)), (by repeat (first | (with_reducible first | exact HB.out | apply below_alloc | apply pw_below_drewN | apply below_drew1) | exact HB.out))⟩
    · rw [if_neg c2]
      have c2b0 : decide (v < 0) = false := decide_eq_false c2
      clear c2
      by_cases c3 : (itoaB v).toList = a0.toList
      · rw [if_pos c3]
        have c3b0 : ((itoaB v).toList == a0.toList) = true := beq_iff_eq.mpr c3
        have c3b1 : ((itoaB v).toList != a0.toList) = false := bne_eq_false_iff_eq.mpr c3
        clear c3
        go_enter Tryd.func64, Tryd.ntmps64
        go_wp2_with (first | (go_at_call 124; refine (HC.out _).mono ?_; rintro e w1 ⟨rfl, hb0⟩; have hb := bytes_or hb0; clear hb0; have n0_ := Aside0.mk (below_step (by repeat (first | (with_reducible first | exact HB.out | apply below_alloc | apply pw_below_drewN | apply below_drew1) | exact HB.out)) hb); clear HB; have HB := n0_; clear n0_ hb) | (go_at_call 125; (with_reducible refine (impl_decimal.calls v (itoaB v) _ HD.out (tabw_below HT.out (by repeat (first | (with_reducible first | exact HB.out | apply below_alloc | apply pw_below_drewN | apply below_drew1) | exact HB.out)))).mono ?_); rintro e w2 ⟨rfl, hb⟩; have n0_ := Aside0.mk (below_step (by repeat (first | (with_reducible first | exact HB.out | apply below_alloc | apply pw_below_drewN | apply below_drew1) | exact HB.out)) hb); clear HB; have HB := n0_; clear n0_ hb))
        go_ret2
        exact ⟨(by first | rfl | (simp; done) | (simp [*]; done)), (by repeat (first | (with_reducible first | exact HB.out | apply below_alloc | apply pw_below_drewN | apply below_drew1) | exact HB.out))⟩
      · rw [if_neg c3]
        have c3b0 : ((itoaB v).toList == a0.toList) = false := beq_eq_false_iff_ne.mpr c3
        have c3b1 : ((itoaB v).toList != a0.toList) = true := bne_iff_ne.mpr c3
        clear c3
        go_enter Tryd.func64, Tryd.ntmps64
        go_wp2_with (first | (go_at_call 124; refine (HC.out _).mono ?_; rintro e w1 ⟨rfl, hb0⟩; have hb := bytes_or hb0; clear hb0; have n0_ := Aside0.mk (below_step (by repeat (first | (with_reducible first | exact HB.out | apply below_alloc | apply pw_below_drewN | apply below_drew1) | exact HB.out)) hb); clear HB; have HB := n0_; clear n0_ hb) | (go_at_call 125; (with_reducible refine (impl_decimal.calls v (itoaB v) _ HD.out (tabw_below HT.out (by repeat (first | (with_reducible first | exact HB.out | apply below_alloc | apply pw_below_drewN | apply below_drew1) | exact HB.out)))).mono ?_); rintro e w2 ⟨rfl, hb⟩; have n0_ := Aside0.mk (below_step (by repeat (first | (with_reducible first | exact HB.out | apply below_alloc | apply pw_below_drewN | apply below_drew1) | exact HB.out)) hb); clear HB; have HB := n0_; clear n0_ hb))
        go_ret2
        exact ⟨(by first | rfl | (simp; done) | (simp [*]; done)), (by repeat (first | (with_reducible first | exact HB.out | apply below_alloc | apply pw_below_drewN | apply below_drew1) | exact HB.out))⟩
set_option maxHeartbeats 8000000 in
set_option maxRecDepth 100000 in
theorem impl_readDecimal.bad (a0 : ByteArray) (w : World) (hC : Calls Tryd.prog 124 #[.string a0, .int .i64 10, .int .i64 64] w fun e w' => ∃ x t p, e = .returned (.tuple #[.int .i64 x, .iface t p]) ∧ Below w.heap.size w w') :
    Calls Tryd.prog 64 #[.string a0] w fun e w' => e = .returned (.tuple #[.int .i64 0, .bool false]) ∧ Below w.heap.size w w' := by
  have HC := Aside0.mk hC
  clear hC
  go_enter Tryd.func64, Tryd.ntmps64
  go_wp2_with (go_at_call 124; refine HC.out.mono ?_; rintro e w1 ⟨x, t, p, rfl, hb⟩; have HB := Aside0.mk hb; clear hb)
  go_ret2
  exact ⟨(by first | rfl | (simp; done) | (simp [*]; done)), (by repeat (first | (with_reducible first | exact HB.out | apply below_alloc | apply pw_below_drewN | apply below_drew1) | exact HB.out))⟩
theorem impl_readDecimal.calls (a0 : ByteArray) (r1 : Int) (r2 : Bool) (w : World) (h : impl_readDecimal.f a0 = some (r1, r2)) (hT : TabW w) :
    Calls Tryd.prog 64 #[.string a0] w fun e w' => e = .returned (.tuple #[.int .i64 r1, .bool r2]) ∧ Below w.heap.size w w' := by
  unfold impl_readDecimal.f at h
  split at h
  · rename_i hlim
    split at h
    · rename_i v hp
      split at h
      · rename_i hv
        have h1 := Option.some.inj h
        have h2 := impl_readDecimal.ok a0 v w hlim hp hv hT
        rw [h1] at h2
        exact h2
      · cases h
    · rename_i hp
      obtain ⟨rfl, rfl⟩ := Prod.mk.inj (Option.some.inj h)
      refine impl_readDecimal.bad a0 w ?_
      cases hq : Lib.parseIntB 64 a0.data.toList
      · rename_i v
        exact absurd hq (hp v)
      · obtain ⟨_, _, ⟨ev, h3, h4⟩, _⟩ := hT
        refine (Go.Proofs.Tryd.strconv_ParseInt_10_at64_syntax a0 hlim hq ev w h3 h4).mono ?_
        rintro e w' ⟨N, rfl, _, _, hb⟩
        exact ⟨_, _, _, rfl, hb⟩
      · obtain ⟨_, _, _, ⟨ev, h3, h4⟩⟩ := hT
        refine (Go.Proofs.Tryd.strconv_ParseInt_10_at64_range a0 hlim hq ev w h3 h4).mono ?_
        rintro e w' ⟨N, rfl, _, _, hb⟩
        exact ⟨_, _, _, rfl, hb⟩
  · cases h
def impl_inRange.f (a0 : Int) (a1 : Int) (a2 : Int) : Option (Bool) := if a1 ≤ a0 then (some (decide (a0 ≤ a2))) else (some false)
set_option maxHeartbeats 8000000 in
set_option maxRecDepth 100000 in
theorem impl_inRange.calls (a0 : Int) (a1 : Int) (a2 : Int) (r : Bool) (w : World) (h : impl_inRange.f a0 a1 a2 = some r) :
    Calls Tryd.prog 107 #[.int .i64 a0, .int .i64 a1, .int .i64 a2] w fun e w' => e = .returned (.bool r) ∧ Drawn0 w w' := by
  have H : (if a1 ≤ a0 then (some (decide (a0 ≤ a2))) else (some false)) = some r := h
  clear h
  by_cases c4 : a1 ≤ a0
  · rw [if_pos c4] at H
    have c4b0 : decide (a1 ≤ a0) = true := decide_eq_true c4
    clear c4
    obtain rfl := Option.some.inj H
    go_enter Tryd.func107, Tryd.ntmps107
    go_wp2
    go_ret
    exact ⟨(by first | rfl | (simp; done) | (simp [*]; done)), (by repeat (first | exact Drawn0.refl _ | apply Drawn0.step))⟩
  · rw [if_neg c4] at H
    have c4b0 : decide (a1 ≤ a0) = false := decide_eq_false c4
    clear c4
    obtain rfl := Option.some.inj H
    go_enter Tryd.func107, Tryd.ntmps107
    go_wp2
    go_ret
    exact ⟨(by first | rfl | (simp; done) | (simp [*]; done)), (by repeat (first | exact Drawn0.refl _ | apply Drawn0.step))⟩
end Go.Proofs.YtoiioapkebglgaaDoor.PG
end
section
namespace Go.Proofs.YtoiioapkebglgaaDoor.PG
open Go.RowKit Go.Proofs.YtoiioapkebglgaaDoorW.PrintWords Go.Proofs.YtoiioapkebglgaaDoorW.PrintLast Go.Proofs.YtoiioapkebglgaaDoorW.PrintMore
attribute [local go_sem] max2_int min2_int max_two min_two max_three min_three max_four min_four   -- for this text's walks alone
set_option linter.unusedVariables false
set_option linter.unusedSimpArgs false
def impl_after.j0 : Nat → Bool → Int → Int → Int → Int → Int → Int → Option (Int × Int × Int × Int × Bool)
  | 0, _, _, _, _, _, _, _ => none
  | k + 1, x18, x103000, x103001, x103002, x103003, x104000, x104001 => if x18 = true then (some (x103000, x103001, x103002, x103003, false)) else (if x104000 = 1 then (some (x104001, x103001, x103002, x103003, decide (x104001 ≥ 1))) else (if x104000 = 2 then (some (x103000, wrap64 (x103001 + x104001), x103002, x103003, decide ((wrap64 (x103001 + x104001)) ≤ 1000000))) else (if x104000 = 3 then (if x104001 < 12 then (some (x103000, x103001, wrap64 (x103002 + 1), x103003, decide ((wrap64 (x103002 + 1)) ≤ 1000000))) else (some (x103000, x103001, wrap64 (x103002 + 1), x103003, false))) else (if x104000 = 4 then (if x104001 = x103001 then (some (0, 0, 0, wrap64 (x103003 + 1), decide (x103003 < 1000000000))) else (some (0, 0, 0, wrap64 (x103003 + 1), false))) else (some (x103000, x103001, x103002, x103003, false))))))
def impl_after.f (k : Nat) (a0_0 : Int) (a0_1 : Int) (a0_2 : Int) (a0_3 : Int) (a1_0 : Int) (a1_1 : Int) : Option (Int × Int × Int × Int × Bool) := (impl_inRange.f a1_1 0 1000000000).bind fun t105 => (if t105 = true then (impl_after.j0 k ((a0_0 == 0) != (a1_0 == 1)) a0_0 a0_1 a0_2 a0_3 a1_0 a1_1) else (impl_after.j0 k true a0_0 a0_1 a0_2 a0_3 a1_0 a1_1))
theorem impl_after.mono_l : ∀ k, (∀ y0 y1 y2 y3 y4 y5 y6, LeO (impl_after.j0 k y0 y1 y2 y3 y4 y5 y6) (impl_after.j0 (k + 1) y0 y1 y2 y3 y4 y5 y6))
  | 0 => fun _ _ _ _ _ _ _ r h => by simp [impl_after.j0] at h
  | k + 1 => by
    have ih0 := impl_after.mono_l k
    · intro y0 y1 y2 y3 y4 y5 y6
      unfold impl_after.j0
      repeat' first
      | (with_reducible exact ih0 _ _ _ _ _ _ _)
      | (with_reducible exact LeO.refl _)
      | (with_reducible exact LeO.none _)
      | (with_reducible refine LeO.ite ?_ ?_)
      | (with_reducible refine LeO.bind ?_ (fun _ => ?_))
      | exact ih0 _ _ _ _ _ _ _
      | exact LeO.none _
      | refine LeO.ite ?_ ?_
      | refine LeO.bind ?_ (fun _ => ?_)
theorem impl_after.mono : ∀ a0 a1 a2 a3 a4 a5 k, LeO (impl_after.f k a0 a1 a2 a3 a4 a5) (impl_after.f (k + 1) a0 a1 a2 a3 a4 a5) := by
  intro a0 a1 a2 a3 a4 a5 k
  have ih0 := impl_after.mono_l k
  unfold impl_after.f
  repeat' first
      | (with_reducible exact ih0 _ _ _ _ _ _ _)
      | (with_reducible exact LeO.refl _)
      | (with_reducible exact LeO.none _)
      | (with_reducible refine LeO.ite ?_ ?_)
      | (with_reducible refine LeO.bind ?_ (fun _ => ?_))
      | exact ih0 _ _ _ _ _ _ _
      | exact LeO.none _
      | refine LeO.ite ?_ ?_
      | refine LeO.bind ?_ (fun _ => ?_)
def impl_after.T12 : Bool × List (List Nat × List Nat) := (true, [([], []), ([], []), ([1], [1]), ([2], [2]), ([3], [3]), ([4], [4]), ([5, 4], [4, 5]), ([6, 4], [4, 6]), ([4, 7], [4, 7]), ([0, 4, 0], [0]), ([8, 9, 0, 1, 2, 3, 4, 5, 6, 7, 8, 9], [8])])
def impl_after.B12 : List Nat := [0, 0, 2, 6, 14, 30, 62, 126, 254, 31, 1023]
theorem impl_after.tab12 : rtab .any (opsOf Tryd.f105 12) = impl_after.T12 := by kernel_rfl
theorem impl_after.bits12 : waitsOk impl_after.T12.2 impl_after.B12 = true := by kernel_rfl
def impl_after.T14 : Bool × List (List Nat × List Nat) := (true, [([], []), ([0], [0]), ([1], [1]), ([2], [2]), ([], []), ([4], [4]), ([], []), ([6], [6]), ([5, 7], [5, 7]), ([8], [8]), ([9], [9]), ([10, 9], [9, 10]), ([11, 9], [9, 11]), ([9, 12], [9, 12]), ([3, 9, 0, 1, 2, 3], [3]), ([13, 14, 0, 1, 2, 3, 4, 5, 6, 7, 8, 9, 10, 11, 12, 13, 14], [13])])
def impl_after.B14 : List Nat := [0, 1, 3, 7, 0, 16, 0, 64, 240, 496, 1008, 2032, 4080, 8176, 1023, 32767]
theorem impl_after.tab14 : rtab .any (opsOf Tryd.f105 14) = impl_after.T14 := by kernel_rfl
theorem impl_after.bits14 : waitsOk impl_after.T14.2 impl_after.B14 = true := by kernel_rfl
theorem ag36_ {p : Prop} (h : p) : Aside0 p := ⟨h⟩
abbrev b0g36_ : Array Bool := #[false, false, false, false, false, false, false, false, false, false, false, false, false, false, false, false]
abbrev b1g36_ : Array Bool := #[false, false, false, false, false, false, false, false, false, false, false]
abbrev b2g36_ : Array Bool := #[false, true, false, false, false, false, false, false, false, false, false]
abbrev b3g36_ : Array Bool := #[true, false, false, false, false, false, false, false, false, false, false, false, false, false, false, false]
abbrev b4g36_ : Array Bool := #[true, false, false, false, true, false, false, false, false, false, false, false, false, false, false, false]
abbrev b5g36_ : Array Bool := #[true, false, false, false, true, false, true, false, false, false, false, false, false, false, false, false]
abbrev b6g36_ : Array Bool := #[true, true, false, false, false, false, false, false, false, false, false]
abbrev b7g36_ : Array Bool := #[true, true, false, false, true, false, true, false, false, false, false, false, false, false, false, false]
abbrev b8g36_ : Array Bool := #[true, true, true, false, false, false, false, false, false, false, false]
abbrev b9g36_ : Array Bool := #[true, true, true, false, true, false, true, false, false, false, false, false, false, false, false, false]
abbrev b10g36_ : Array Bool := #[true, true, true, true, false, false, false, false, false, false, false]
abbrev b11g36_ : Array Bool := #[true, true, true, true, true, false, false, false, false, false, false]
abbrev b12g36_ : Array Bool := #[true, true, true, true, true, false, true, false, false, false, false, false, false, false, false, false]
abbrev b13g36_ : Array Bool := #[true, true, true, true, true, true, false, false, false, false, false]
abbrev b14g36_ : Array Bool := #[true, true, true, true, true, true, true, false, false, false, false, false, false, false, false, false]
abbrev b15g36_ : Array Bool := #[true, true, true, true, true, true, true, false, false, false, false]
abbrev b16g36_ : Array Bool := #[true, true, true, true, true, true, true, true, false, false, false, false, false, false, false, false]
abbrev b17g36_ : Array Bool := #[true, true, true, true, true, true, true, true, false, false, false]
abbrev b18g36_ : Array Bool := #[true, true, true, true, true, true, true, true, true, false, false, false, false, false, false, false]
abbrev b19g36_ : Array Bool := #[true, true, true, true, true, true, true, true, true, false, false]
abbrev b20g36_ : Array Bool := #[true, true, true, true, true, true, true, true, true, true, false, false, false, false, false, false]
abbrev b21g36_ : Array Bool := #[true, true, true, true, true, true, true, true, true, true, false]
abbrev b22g36_ : Array Bool := #[true, true, true, true, true, true, true, true, true, true, true, false, false, false, false, false]
abbrev b23g36_ : Array Bool := #[true, true, true, true, true, true, true, true, true, true, true, true, false, false, false, false]
abbrev b24g36_ : Array Bool := #[true, true, true, true, true, true, true, true, true, true, true, true, true, false, false, false]
abbrev b25g36_ : Array Bool := #[true, true, true, true, true, true, true, true, true, true, true, true, true, true, false, false]
abbrev b26g36_ : Array Bool := #[true, true, true, true, true, true, true, true, true, true, true, true, true, true, true, false]
abbrev b27g36_ : Array Bool := #[true, true, true, true, true, true, true, true, true, true, true, true, true, true, true, true]
abbrev b28g36_ : Array Bool := #[true, true, true, true, true, true, true, true, true, true, true]
theorem w1g36_ {p : Prop} (h : p := by repeat (first | (with_reducible first | exact HB.out | apply below_alloc | apply pw_below_drewN | apply below_drew1 | refine below_set ?_ GE102.out | refine below_set ?_ GE103.out | refine below_set ?_ GE104.out) | exact HB.out)) : p := h
theorem w2g36_ {p : Prop} (h : p := by (with_reducible repeat (first | refine blk_drewN ?_ _ | refine blk_drew ?_ | refine blk_alloc ?_ _)); refine blk_put (cs := #[.int .i64 a0_0, .int .i64 a0_1, .int .i64 (wrap64 (a0_2 + 1)), .int .i64 0]) ?_ 3 _ rfl; (with_reducible repeat (first | refine blk_drewN ?_ _ | refine blk_drew ?_ | refine blk_alloc ?_ _)); refine blk_put (cs := #[.int .i64 a0_0, .int .i64 a0_1, .int .i64 0, .int .i64 0]) ?_ 2 _ rfl; (with_reducible repeat (first | refine blk_drewN ?_ _ | refine blk_drew ?_ | refine blk_alloc ?_ _)); refine blk_put (cs := #[.int .i64 a0_0, .int .i64 0, .int .i64 0, .int .i64 0]) ?_ 1 _ rfl; (with_reducible repeat (first | refine blk_drewN ?_ _ | refine blk_drew ?_ | refine blk_alloc ?_ _)); refine blk_put (cs := #[.int .i64 0, .int .i64 0, .int .i64 0, .int .i64 0]) ?_ 0 _ rfl; (with_reducible repeat (first | refine blk_drewN ?_ _ | refine blk_drew ?_ | refine blk_alloc ?_ _)); exact BK104.out) : p := h
theorem w3g36_ {p : Prop} (h : p := by (with_reducible repeat (first | refine blk_drewN ?_ _ | refine blk_drew ?_ | refine blk_alloc ?_ _)); refine blk_put (cs := #[.int .i64 a0_0, .int .i64 a0_1, .int .i64 a0_2, .int .i64 0]) ?_ 3 _ rfl; (with_reducible repeat (first | refine blk_drewN ?_ _ | refine blk_drew ?_ | refine blk_alloc ?_ _)); refine blk_put (cs := #[.int .i64 a0_0, .int .i64 a0_1, .int .i64 0, .int .i64 0]) ?_ 2 _ rfl; (with_reducible repeat (first | refine blk_drewN ?_ _ | refine blk_drew ?_ | refine blk_alloc ?_ _)); refine blk_put (cs := #[.int .i64 a0_0, .int .i64 0, .int .i64 0, .int .i64 0]) ?_ 1 _ rfl; (with_reducible repeat (first | refine blk_drewN ?_ _ | refine blk_drew ?_ | refine blk_alloc ?_ _)); refine blk_put (cs := #[.int .i64 0, .int .i64 0, .int .i64 0, .int .i64 0]) ?_ 0 _ rfl; (with_reducible repeat (first | refine blk_drewN ?_ _ | refine blk_drew ?_ | refine blk_alloc ?_ _)); exact BK104.out) : p := h
theorem w4g36_ {p : Prop} (h : p := by (with_reducible repeat (first | refine blk_drewN ?_ _ | refine blk_drew ?_ | refine blk_alloc ?_ _)); refine blk_put (cs := #[.int .i64 0, .int .i64 0, .int .i64 0, .int .i64 0]) ?_ 3 _ rfl; (with_reducible repeat (first | refine blk_drewN ?_ _ | refine blk_drew ?_ | refine blk_alloc ?_ _)); refine blk_put (cs := #[.int .i64 0, .int .i64 0, .int .i64 0, .int .i64 0]) ?_ 2 _ rfl; (with_reducible repeat (first | refine blk_drewN ?_ _ | refine blk_drew ?_ | refine blk_alloc ?_ _)); refine blk_put (cs := #[.int .i64 0, .int .i64 0, .int .i64 0, .int .i64 0]) ?_ 1 _ rfl; (with_reducible repeat (first | refine blk_drewN ?_ _ | refine blk_drew ?_ | refine blk_alloc ?_ _)); refine blk_put (cs := #[.int .i64 0, .int .i64 0, .int .i64 0, .int .i64 0]) ?_ 0 _ rfl; (with_reducible repeat (first | refine blk_drewN ?_ _ | refine blk_drew ?_ | refine blk_alloc ?_ _)); exact BK104.out) : p := h
theorem w5g36_ {p : Prop} (h : p := by (with_reducible repeat (first | refine blk_drewN ?_ _ | refine blk_drew ?_ | refine blk_alloc ?_ _)); exact BK102.out) : p := h
theorem w6g36_ {p : Prop} (h : p := by first | rfl | (simp [errW_none, errW_some] <;> rfl) | (simp [*, errW_none, errW_some] <;> rfl)) : p := h
theorem w7g36_ {p : Prop} (h : p := by (with_reducible repeat (first | refine blk_drewN ?_ _ | refine blk_drew ?_ | refine blk_alloc ?_ _)); exact BK103.out) : p := h
theorem w8g36_ {p : Prop} (h : p := by repeat (first | (with_reducible first | exact HB.out | apply below_alloc | apply pw_below_drewN | apply below_drew1 | refine below_set ?_ GE102.out | refine below_set ?_ GE103.out) | exact HB.out)) : p := h
theorem w9g36_ {p : Prop} (h : p := by repeat (first | (with_reducible first | exact HB.out | apply below_alloc | apply pw_below_drewN | apply below_drew1 | refine below_set ?_ GE102.out) | exact HB.out)) : p := h
theorem w10g36_ {p : Prop} (h : p := by repeat (first | (with_reducible first | exact HB.out | apply below_alloc | apply pw_below_drewN | apply below_drew1) | exact HB.out)) : p := h
theorem w11g36_ {p : Prop} (h : p := by (try simp only [List.map_toArray, List.map_cons, List.map_nil]); first | done | rfl | (simp only [List.length_drop, List.length_take]; rfl)) : p := h
theorem w12g36_ {p : Prop} (h : p := by (with_reducible repeat (first | refine blk_drewN ?_ _ | refine blk_drew ?_ | refine blk_alloc ?_ _)); exact BK104.out) : p := h
set_option maxHeartbeats 8000000 in
set_option maxRecDepth 100000 in
theorem impl_after.calls (k : Nat) (a0_0 : Int) (a0_1 : Int) (a0_2 : Int) (a0_3 : Int) (a1_0 : Int) (a1_1 : Int) (r1 : Int) (r2 : Int) (r3 : Int) (r4 : Int) (r5 : Bool) (w : World) (h : impl_after.f k a0_0 a0_1 a0_2 a0_3 a1_0 a1_1 = some (r1, r2, r3, r4, r5)) :
 Calls Tryd.prog 105 #[.agg #[.int .i64 a0_0, .int .i64 a0_1, .int .i64 a0_2, .int .i64 a0_3], .agg #[.int .i64 a1_0, .int .i64 a1_1]] w fun e w' => e = .returned (.tuple #[.agg #[.int .i64 r1, .int .i64 r2, .int .i64 r3, .int .i64 r4], .bool r5]) ∧ Below w.heap.size w w' := by
 have hu68 := Tryd.underlying68; have hu70 := Tryd.underlying70; have HB := ag36_ (Below.refl w.heap.size w); have H : ((impl_inRange.f a1_1 0 1000000000).bind fun t105 => (if t105 = true then (impl_after.j0 k ((a0_0 == 0) != (a1_0 == 1)) a0_0 a0_1 a0_2 a0_3 a1_0 a1_1) else (impl_after.j0 k true a0_0 a0_1 a0_2 a0_3 a1_0 a1_1))) = some (r1, r2, r3, r4, r5) := h; clear h; have HC3 := ag36_ H; clear H
 go_enter Tryd.func105, Tryd.ntmps105
 go_upto_region 1 with (first | ((with_reducible refine gate_dst (N := 2) rfl ?_); refine be_ (N := 2) (cs := #[.int .i64 a0_0, .int .i64 a0_1, .int .i64 a0_2, .int .i64 a0_3]) (t := 68) ?_; intro gb102 hg w4 hbox hb; have BK102 := ag36_ (hbox); have GW102 := gw_ (w := w) hg w10g36_; have GE102 := gw_ (w := w) hg w10g36_; replace HB := ag36_ (below_step w10g36_ hb); clear hb hbox hg) | ((with_reducible refine gate_dst (N := 3) rfl ?_); refine be_ (N := 3) (cs := #[.int .i64 a1_0, .int .i64 a1_1]) (t := 70) ?_; intro gb103 hg w5 hbox hb; have BK103 := ag36_ (hbox); have GW103 := gw_ (w := w) hg w9g36_; have GE103 := gw_ (w := w) hg w9g36_; obtain ⟨NB102_103, NB103_102⟩ := nb2_ hg w5g36_; replace BK102 := ag36_ (blk_below w5g36_ hb); replace HB := ag36_ (below_step w9g36_ hb); clear hb hbox hg) | ((with_reducible refine gate_dst (N := 4) rfl ?_); refine be_ (N := 4) (cs := #[.int .i64 0, .int .i64 0, .int .i64 0, .int .i64 0]) (t := 68) ?_; intro gb104 hg w6 hbox hb; have BK104 := ag36_ (hbox); have GW104 := gw_ (w := w) hg w8g36_; have GE104 := gw_ (w := w) hg w8g36_; obtain ⟨NB102_104, NB104_102⟩ := nb2_ hg w5g36_; obtain ⟨NB103_104, NB104_103⟩ := nb2_ hg w7g36_; replace BK102 := ag36_ (blk_below w5g36_ hb); replace BK103 := ag36_ (blk_below w7g36_ hb); replace HB := ag36_ (below_step w8g36_ hb); clear hb hbox hg))
 (try simp only [Act.put, List.setIfInBounds_toArray, List.set_cons_zero, List.set_cons_succ])
 go_cut [18] (fun v18 wc => ∃ (kq : Nat) (x18_2 : Bool), v18 = .bool x18_2 ∧ Aside0 (impl_after.j0 kq x18_2 a0_0 a0_1 a0_2 a0_3 a1_0 a1_1 = some (r1, r2, r3, r4, r5)) ∧ Aside0 (kq ≤ k) ∧ Aside0 (wc.heap[gb102]? = some (.cells #[.int .i64 a0_0, .int .i64 a0_1, .int .i64 a0_2, .int .i64 a0_3] 68 (0, 0))) ∧ Aside0 (wc.heap[gb103]? = some (.cells #[.int .i64 a1_0, .int .i64 a1_1] 70 (0, 0))) ∧ Aside0 (wc.heap[gb104]? = some (.cells #[.int .i64 0, .int .i64 0, .int .i64 0, .int .i64 0] 68 (0, 0))) ∧ Aside0 (Below w.heap.size w wc))
 case first =>
  have H := HC3.out; clear HC3
  replace H := Option.bind_eq_some_iff.mp H
  obtain ⟨t105, A70, H⟩ := H
  try dsimp only at H
  have A7 := ag36_ A70; clear A70
  by_cases c8 : t105 = true
  ·
   subst c8
   have H1 : (impl_after.j0 k ((a0_0 == 0) != (a1_0 == 1)) a0_0 a0_1 a0_2 a0_3 a1_0 a1_1) = some (r1, r2, r3, r4, r5) := by rw [if_pos rfl] at H; exact H
   clear H; have H := H1; clear H1; have H' := ag36_ H; clear H; have hnb9 := NB103_102.out; have hnc9 := NB102_103.out; have hnb10 := NB103_104.out; have hnc10 := NB104_103.out; obtain ⟨hcz11_0, hcz11_1⟩ := blk2 BK103.out; obtain ⟨hfz11_0, hfz11_1⟩ := frz2 BK103.out
   go_wp2_with (first | ((with_reducible refine gate_callee (f := 107) rfl ?_); refine goesL_ (some 8) rfl rfl Tryd.func107 (by kernel_rfl) rfl #[.int .i64 a1_1, .int .i64 0, .int .i64 1000000000] rfl w11g36_ ?_; (with_reducible refine (impl_inRange.calls a1_1 0 1000000000 true _ A7.out).mono ?_); rintro e w' ⟨rfl, ⟨nd, rfl⟩⟩; refine ⟨_, rfl, ?_⟩; have hnb12 := NB102_104.out; have hnc12 := NB104_102.out; obtain ⟨hcz13_0, hcz13_1, hcz13_2, hcz13_3⟩ := blk4 BK102.out; obtain ⟨hfz13_0, hfz13_1, hfz13_2, hfz13_3⟩ := frz4 BK102.out))
   go_meet
   case rel => exact ⟨_, (((a0_0 == 0) != (a1_0 == 1))), (by first | rfl | (simp; done) | (simp [*]; done)), H', ⟨(by first | omega | exact Nat.le_refl _)⟩, ⟨w5g36_⟩, ⟨w7g36_⟩, ⟨w12g36_⟩, ⟨w1g36_⟩⟩
  ·
   replace c8 := Bool.eq_false_iff.mpr c8
   subst c8
   have H1 : (impl_after.j0 k true a0_0 a0_1 a0_2 a0_3 a1_0 a1_1) = some (r1, r2, r3, r4, r5) := by rw [if_neg (show ¬ (false = true) by decide)] at H; exact H
   clear H; have H := H1; clear H1; have H' := ag36_ H; clear H; have hnb14 := NB103_102.out; have hnc14 := NB102_103.out; have hnb15 := NB103_104.out; have hnc15 := NB104_103.out; obtain ⟨hcz16_0, hcz16_1⟩ := blk2 BK103.out; obtain ⟨hfz16_0, hfz16_1⟩ := frz2 BK103.out
   go_wp2_with (first | ((with_reducible refine gate_callee (f := 107) rfl ?_); refine goesL_ (some 8) rfl rfl Tryd.func107 (by kernel_rfl) rfl #[.int .i64 a1_1, .int .i64 0, .int .i64 1000000000] rfl w11g36_ ?_; (with_reducible refine (impl_inRange.calls a1_1 0 1000000000 false _ A7.out).mono ?_); rintro e w' ⟨rfl, ⟨nd, rfl⟩⟩; refine ⟨_, rfl, ?_⟩))
   go_meet
   case rel => exact ⟨_, (true), (by first | rfl | (simp; done) | (simp [*]; done)), H', ⟨(by first | omega | exact Nat.le_refl _)⟩, ⟨w5g36_⟩, ⟨w7g36_⟩, ⟨w12g36_⟩, ⟨w1g36_⟩⟩
 case rest =>
  clear HC3
  try clear c8
  try clear hcz11_0
  try clear hcz11_1
  try clear hcz13_0
  try clear hcz13_1
  try clear hcz13_2
  try clear hcz13_3
  try clear hcz16_0
  try clear hcz16_1
  try clear hfz11_0
  try clear hfz11_1
  try clear hfz13_0
  try clear hfz13_1
  try clear hfz13_2
  try clear hfz13_3
  try clear hfz16_0
  try clear hfz16_1
  obtain ⟨kq, x18_2, rfl, HA, HJ2, BK102, BK103, BK104, HB⟩ := hcut
  cases kq with
  | zero => exact absurd HA.out (by simp [impl_after.j0])
  | succ kj2 =>
   have H := HA.out; clear HA
   simp only [impl_after.j0] at H
   by_cases c17 : x18_2 = true
   ·
    subst c17
    rw [if_pos rfl] at H
    simp only [Option.some.injEq, Prod.mk.injEq] at H
    obtain ⟨rfl, rfl, rfl, rfl, rfl⟩ := H; have hnb18 := NB102_103.out; have hnc18 := NB103_102.out; have hnb19 := NB102_104.out; have hnc19 := NB104_102.out; obtain ⟨hcz20_0, hcz20_1, hcz20_2, hcz20_3⟩ := blk4 BK102.out; obtain ⟨hfz20_0, hfz20_1, hfz20_2, hfz20_3⟩ := frz4 BK102.out; have hnb21 := NB104_103.out; have hnc21 := NB103_104.out; obtain ⟨hcz22_0, hcz22_1, hcz22_2, hcz22_3⟩ := blk4 BK104.out; obtain ⟨hfz22_0, hfz22_1, hfz22_2, hfz22_3⟩ := frz4 BK104.out
    go_wp2
    refine bodyPost_ret (results_ct rfl _ _ gb104 68 #[.int .i64 a0_0, .int .i64 a0_1, .int .i64 a0_2, .int .i64 a0_3] (0, 0) _ rfl w3g36_ Tryd.underlying68 rfl (by kernel_rfl)) rfl ?_
    exact ⟨w6g36_, w1g36_⟩
   ·
    replace c17 := Bool.eq_false_iff.mpr c17
    subst c17
    rw [if_neg (show ¬ (false = true) by decide)] at H
    by_cases c23 : a1_0 = 1
    ·
     rw [if_pos c23] at H
     have c23b0 : (a1_0 == 1) = true := beq_iff_eq.mpr c23; have c23b1 : (a1_0 != 1) = false := bne_eq_false_iff_eq.mpr c23; clear c23
     simp only [Option.some.injEq, Prod.mk.injEq] at H
     obtain ⟨rfl, rfl, rfl, rfl, rfl⟩ := H; have hnb24 := NB103_102.out; have hnc24 := NB102_103.out; have hnb25 := NB103_104.out; have hnc25 := NB104_103.out; obtain ⟨hcz26_0, hcz26_1⟩ := blk2 BK103.out; obtain ⟨hfz26_0, hfz26_1⟩ := frz2 BK103.out; have hnb27 := NB102_104.out; have hnc27 := NB104_102.out; obtain ⟨hcz28_0, hcz28_1, hcz28_2, hcz28_3⟩ := blk4 BK102.out; obtain ⟨hfz28_0, hfz28_1, hfz28_2, hfz28_3⟩ := frz4 BK102.out
     try go_wp2
     have n0_ : Aside0 ((wc.setCell ⟨gb102, 0, none⟩ (.int .i64 a1_1)).heap[gb102]? = some (.cells #[.int .i64 a1_1, .int .i64 a0_1, .int .i64 a0_2, .int .i64 a0_3] 68 (0, 0))) := ⟨by (with_reducible repeat (first | refine blk_drewN ?_ _ | refine blk_drew ?_ | refine blk_alloc ?_ _)); refine blk_put (cs := #[.int .i64 a0_0, .int .i64 a0_1, .int .i64 a0_2, .int .i64 a0_3]) ?_ 0 _ rfl; (with_reducible repeat (first | refine blk_drewN ?_ _ | refine blk_drew ?_ | refine blk_alloc ?_ _)); exact BK102.out⟩
     have n1_ : Aside0 ((wc.setCell ⟨gb102, 0, none⟩ (.int .i64 a1_1)).heap[gb103]? = some (.cells #[.int .i64 a1_0, .int .i64 a1_1] 70 (0, 0))) := ⟨by (with_reducible repeat (first | refine blk_far ?_ NB103_102.out _ | refine blk_drewN ?_ _ | refine blk_drew ?_ | refine blk_alloc ?_ _)); exact BK103.out⟩
     have n2_ : Aside0 ((wc.setCell ⟨gb102, 0, none⟩ (.int .i64 a1_1)).heap[gb104]? = some (.cells #[.int .i64 0, .int .i64 0, .int .i64 0, .int .i64 0] 68 (0, 0))) := ⟨by (with_reducible repeat (first | refine blk_far ?_ NB104_102.out _ | refine blk_drewN ?_ _ | refine blk_drew ?_ | refine blk_alloc ?_ _)); exact BK104.out⟩
     have n3_ : Aside0 (Below w.heap.size w (wc.setCell ⟨gb102, 0, none⟩ (.int .i64 a1_1))) := ⟨by repeat (first | (with_reducible first | exact HB.out | apply below_alloc | apply pw_below_drewN | apply below_drew1 | refine below_set ?_ GE102.out | refine below_set ?_ GE103.out | refine below_set ?_ GE104.out) | exact HB.out)⟩
     (try clear BK102)
     (try clear BK103)
     (try clear BK104)
     (try clear HB)
     generalize (wc.setCell ⟨gb102, 0, none⟩ (.int .i64 a1_1)) = w29 at n0_ n1_ n2_ n3_ ⊢
     have BK102 := n0_; have BK103 := n1_; have BK104 := n2_; have HB := n3_; clear n0_ n1_ n2_ n3_; have n0_ := ag36_ (blk_drew BK102.out); have n1_ := ag36_ (blk_drew BK103.out); have n2_ := ag36_ (blk_drew BK104.out); have n3_ := ag36_ (below_drew1 HB.out); clear BK102 BK103 BK104 HB; have BK102 := n0_; have BK103 := n1_; have BK104 := n2_; have HB := n3_; clear n0_ n1_ n2_ n3_
     refine start_ (n := 6) (S := fun w' => w'.cell? ⟨gb102, 0, none⟩ = some (.int .i64 a1_1) ∧ w'.cell? ⟨gb102, 1, none⟩ = some (.int .i64 a0_1) ∧ w'.cell? ⟨gb102, 2, none⟩ = some (.int .i64 a0_2) ∧ w'.cell? ⟨gb102, 3, none⟩ = some (.int .i64 a0_3) ∧ w'.cell? ⟨gb103, 0, none⟩ = some (.int .i64 a1_0) ∧ w'.cell? ⟨gb103, 1, none⟩ = some (.int .i64 a1_1)) (ds := []) #[false, false, false, false, false, false] (by kernel_rfl) rfl rfl ⟨(blk_cell BK102.out 0).trans rfl, (blk_cell BK102.out 1).trans rfl, (blk_cell BK102.out 2).trans rfl, (blk_cell BK102.out 3).trans rfl, (blk_cell BK103.out 0).trans rfl, (blk_cell BK103.out 1).trans rfl⟩ (fun hHeld => ?_)
     generalize w29.drew = w30 at BK102 BK103 BK104 HB hHeld ⊢
     refine pd_ (i := 1) (N := some 28) #[false, true, false, false, false, false] rfl rfl (hc := by kernel_rfl) ?_
     refine td6_ (i := 0) (N := some 27) #[true, true, false, false, false, false] rfl rfl hHeld (hc := by kernel_rfl) ?_
     refine td6_ (i := 2) (N := some 29) #[true, true, true, false, false, false] rfl rfl hHeld (hc := by kernel_rfl) ?_
     refine pd_ (i := 3) (N := some 30) #[true, true, true, true, false, false] rfl rfl (hc := by kernel_rfl) ?_
     refine one_ (i := 4) (N := none) #[true, true, true, true, true, false] rfl rfl (by kernel_rfl) (by decide) (fun K hK => ?_)
     have hs31 : w30.cell? ⟨gb104, 0, none⟩ = some (.int .i64 0) := (blk_cell BK104.out 0).trans rfl; have hfs31 := blk_frozen BK104.out 0; have hns31_0 := NB102_104.out; have hns31_1 := NB103_104.out; have hms31_0 := NB104_102.out; have hms31_1 := NB104_103.out; have hs32 : w30.cell? ⟨gb104, 1, none⟩ = some (.int .i64 0) := (blk_cell BK104.out 1).trans rfl; have hfs32 := blk_frozen BK104.out 1; have hns32_0 := NB102_104.out; have hns32_1 := NB103_104.out; have hms32_0 := NB104_102.out; have hms32_1 := NB104_103.out; have hs33 : w30.cell? ⟨gb104, 2, none⟩ = some (.int .i64 0) := (blk_cell BK104.out 2).trans rfl; have hfs33 := blk_frozen BK104.out 2; have hns33_0 := NB102_104.out; have hns33_1 := NB103_104.out; have hms33_0 := NB104_102.out; have hms33_1 := NB104_103.out; have hs34 : w30.cell? ⟨gb104, 3, none⟩ = some (.int .i64 0) := (blk_cell BK104.out 3).trans rfl; have hfs34 := blk_frozen BK104.out 3; have hns34_0 := NB102_104.out; have hns34_1 := NB103_104.out; have hms34_0 := NB104_102.out; have hms34_1 := NB104_103.out
     refine skip_ (w1 := ?_) (by rfl) rfl ?_ ?_
     rotate_left
     ·
      go_simp
      rfl
     refine hK.out _ _ ⟨((cell_far (p := ⟨gb104, _, none⟩) NB102_104.out _).trans (((cell_far (p := ⟨gb104, _, none⟩) NB102_104.out _).trans (((cell_far (p := ⟨gb104, _, none⟩) NB102_104.out _).trans (((cell_far (p := ⟨gb104, _, none⟩) NB102_104.out _).trans (hHeld.1)))))))), ((cell_far (p := ⟨gb104, _, none⟩) NB102_104.out _).trans (((cell_far (p := ⟨gb104, _, none⟩) NB102_104.out _).trans (((cell_far (p := ⟨gb104, _, none⟩) NB102_104.out _).trans (((cell_far (p := ⟨gb104, _, none⟩) NB102_104.out _).trans (hHeld.2.1)))))))), ((cell_far (p := ⟨gb104, _, none⟩) NB102_104.out _).trans (((cell_far (p := ⟨gb104, _, none⟩) NB102_104.out _).trans (((cell_far (p := ⟨gb104, _, none⟩) NB102_104.out _).trans (((cell_far (p := ⟨gb104, _, none⟩) NB102_104.out _).trans (hHeld.2.2.1)))))))), ((cell_far (p := ⟨gb104, _, none⟩) NB102_104.out _).trans (((cell_far (p := ⟨gb104, _, none⟩) NB102_104.out _).trans (((cell_far (p := ⟨gb104, _, none⟩) NB102_104.out _).trans (((cell_far (p := ⟨gb104, _, none⟩) NB102_104.out _).trans (hHeld.2.2.2.1)))))))), ((cell_far (p := ⟨gb104, _, none⟩) NB103_104.out _).trans (((cell_far (p := ⟨gb104, _, none⟩) NB103_104.out _).trans (((cell_far (p := ⟨gb104, _, none⟩) NB103_104.out _).trans (((cell_far (p := ⟨gb104, _, none⟩) NB103_104.out _).trans (hHeld.2.2.2.2.1)))))))), ((cell_far (p := ⟨gb104, _, none⟩) NB103_104.out _).trans (((cell_far (p := ⟨gb104, _, none⟩) NB103_104.out _).trans (((cell_far (p := ⟨gb104, _, none⟩) NB103_104.out _).trans (((cell_far (p := ⟨gb104, _, none⟩) NB103_104.out _).trans (hHeld.2.2.2.2.2))))))))⟩ (fun hHeld => ?_); clear hK K
     refine pd_ (i := 5) (N := some 5) #[true, true, true, true, true, true] rfl rfl (hc := by kernel_rfl) ?_
     refine done_ (by kernel_rfl) ?_
     try go_wp2
     refine bodyPost_ret (results_ct rfl _ _ gb104 68 #[.int .i64 a1_1, .int .i64 a0_1, .int .i64 a0_2, .int .i64 a0_3] (0, 0) _ rfl (by (with_reducible repeat (first | refine blk_drewN ?_ _ | refine blk_drew ?_ | refine blk_alloc ?_ _)); refine blk_put (cs := #[.int .i64 a1_1, .int .i64 a0_1, .int .i64 a0_2, .int .i64 0]) ?_ 3 _ rfl; (with_reducible repeat (first | refine blk_drewN ?_ _ | refine blk_drew ?_ | refine blk_alloc ?_ _)); refine blk_put (cs := #[.int .i64 a1_1, .int .i64 a0_1, .int .i64 0, .int .i64 0]) ?_ 2 _ rfl; (with_reducible repeat (first | refine blk_drewN ?_ _ | refine blk_drew ?_ | refine blk_alloc ?_ _)); refine blk_put (cs := #[.int .i64 a1_1, .int .i64 0, .int .i64 0, .int .i64 0]) ?_ 1 _ rfl; (with_reducible repeat (first | refine blk_drewN ?_ _ | refine blk_drew ?_ | refine blk_alloc ?_ _)); refine blk_put (cs := #[.int .i64 0, .int .i64 0, .int .i64 0, .int .i64 0]) ?_ 0 _ rfl; (with_reducible repeat (first | refine blk_drewN ?_ _ | refine blk_drew ?_ | refine blk_alloc ?_ _)); exact BK104.out) Tryd.underlying68 rfl (by kernel_rfl)) rfl ?_
     exact ⟨w6g36_, w1g36_⟩
    ·
     rw [if_neg c23] at H
     have c23b0 : (a1_0 == 1) = false := beq_eq_false_iff_ne.mpr c23; have c23b1 : (a1_0 != 1) = true := bne_iff_ne.mpr c23
     by_cases c35 : a1_0 = 2
     ·
      rw [if_pos c35] at H
      have c35b0 : (a1_0 == 2) = true := beq_iff_eq.mpr c35; have c35b1 : (a1_0 != 2) = false := bne_eq_false_iff_eq.mpr c35; clear c35
      simp only [Option.some.injEq, Prod.mk.injEq] at H
      obtain ⟨rfl, rfl, rfl, rfl, rfl⟩ := H; have hnb36 := NB103_102.out; have hnc36 := NB102_103.out; have hnb37 := NB103_104.out; have hnc37 := NB104_103.out; obtain ⟨hcz38_0, hcz38_1⟩ := blk2 BK103.out; obtain ⟨hfz38_0, hfz38_1⟩ := frz2 BK103.out; have hnb39 := NB102_104.out; have hnc39 := NB104_102.out; obtain ⟨hcz40_0, hcz40_1, hcz40_2, hcz40_3⟩ := blk4 BK102.out; obtain ⟨hfz40_0, hfz40_1, hfz40_2, hfz40_3⟩ := frz4 BK102.out
      try go_wp2
      have n0_ : Aside0 ((wc.setCell ⟨gb102, 1, none⟩ (.int .i64 (wrap64 (a0_1 + a1_1)))).heap[gb102]? = some (.cells #[.int .i64 a0_0, .int .i64 (wrap64 (a0_1 + a1_1)), .int .i64 a0_2, .int .i64 a0_3] 68 (0, 0))) := ⟨by (with_reducible repeat (first | refine blk_drewN ?_ _ | refine blk_drew ?_ | refine blk_alloc ?_ _)); refine blk_put (cs := #[.int .i64 a0_0, .int .i64 a0_1, .int .i64 a0_2, .int .i64 a0_3]) ?_ 1 _ rfl; (with_reducible repeat (first | refine blk_drewN ?_ _ | refine blk_drew ?_ | refine blk_alloc ?_ _)); exact BK102.out⟩
      have n1_ : Aside0 ((wc.setCell ⟨gb102, 1, none⟩ (.int .i64 (wrap64 (a0_1 + a1_1)))).heap[gb103]? = some (.cells #[.int .i64 a1_0, .int .i64 a1_1] 70 (0, 0))) := ⟨by (with_reducible repeat (first | refine blk_far ?_ NB103_102.out _ | refine blk_drewN ?_ _ | refine blk_drew ?_ | refine blk_alloc ?_ _)); exact BK103.out⟩
      have n2_ : Aside0 ((wc.setCell ⟨gb102, 1, none⟩ (.int .i64 (wrap64 (a0_1 + a1_1)))).heap[gb104]? = some (.cells #[.int .i64 0, .int .i64 0, .int .i64 0, .int .i64 0] 68 (0, 0))) := ⟨by (with_reducible repeat (first | refine blk_far ?_ NB104_102.out _ | refine blk_drewN ?_ _ | refine blk_drew ?_ | refine blk_alloc ?_ _)); exact BK104.out⟩
      have n3_ : Aside0 (Below w.heap.size w (wc.setCell ⟨gb102, 1, none⟩ (.int .i64 (wrap64 (a0_1 + a1_1))))) := ⟨by repeat (first | (with_reducible first | exact HB.out | apply below_alloc | apply pw_below_drewN | apply below_drew1 | refine below_set ?_ GE102.out | refine below_set ?_ GE103.out | refine below_set ?_ GE104.out) | exact HB.out)⟩
      (try clear BK102)
      (try clear BK103)
      (try clear BK104)
      (try clear HB)
      generalize (wc.setCell ⟨gb102, 1, none⟩ (.int .i64 (wrap64 (a0_1 + a1_1)))) = w41 at n0_ n1_ n2_ n3_ ⊢
      have BK102 := n0_; have BK103 := n1_; have BK104 := n2_; have HB := n3_; clear n0_ n1_ n2_ n3_; have n0_ := ag36_ (blk_drew BK102.out); have n1_ := ag36_ (blk_drew BK103.out); have n2_ := ag36_ (blk_drew BK104.out); have n3_ := ag36_ (below_drew1 HB.out); clear BK102 BK103 BK104 HB; have BK102 := n0_; have BK103 := n1_; have BK104 := n2_; have HB := n3_; clear n0_ n1_ n2_ n3_
      refine start_ (n := 6) (S := fun w' => w'.cell? ⟨gb102, 0, none⟩ = some (.int .i64 a0_0) ∧ w'.cell? ⟨gb102, 1, none⟩ = some (.int .i64 (wrap64 (a0_1 + a1_1))) ∧ w'.cell? ⟨gb102, 2, none⟩ = some (.int .i64 a0_2) ∧ w'.cell? ⟨gb102, 3, none⟩ = some (.int .i64 a0_3)) (ds := []) #[false, false, false, false, false, false] (by kernel_rfl) rfl rfl ⟨(blk_cell BK102.out 0).trans rfl, (blk_cell BK102.out 1).trans rfl, (blk_cell BK102.out 2).trans rfl, (blk_cell BK102.out 3).trans rfl⟩ (fun hHeld => ?_)
      generalize w41.drew = w42 at BK102 BK103 BK104 HB hHeld ⊢
      refine pd_ (i := 1) (N := some 40) #[false, true, false, false, false, false] rfl rfl (hc := by kernel_rfl) ?_
      refine td4_ (i := 0) (N := some 39) #[true, true, false, false, false, false] rfl rfl hHeld (hc := by kernel_rfl) ?_
      refine td4_ (i := 2) (N := some 41) #[true, true, true, false, false, false] rfl rfl hHeld (hc := by kernel_rfl) ?_
      refine pd_ (i := 3) (N := some 42) #[true, true, true, true, false, false] rfl rfl (hc := by kernel_rfl) ?_
      refine one_ (i := 4) (N := none) #[true, true, true, true, true, false] rfl rfl (by kernel_rfl) (by decide) (fun K hK => ?_)
      have hs43 : w42.cell? ⟨gb104, 0, none⟩ = some (.int .i64 0) := (blk_cell BK104.out 0).trans rfl; have hfs43 := blk_frozen BK104.out 0; have hns43_0 := NB102_104.out; have hns43_1 := NB103_104.out; have hms43_0 := NB104_102.out; have hms43_1 := NB104_103.out; have hs44 : w42.cell? ⟨gb104, 1, none⟩ = some (.int .i64 0) := (blk_cell BK104.out 1).trans rfl; have hfs44 := blk_frozen BK104.out 1; have hns44_0 := NB102_104.out; have hns44_1 := NB103_104.out; have hms44_0 := NB104_102.out; have hms44_1 := NB104_103.out; have hs45 : w42.cell? ⟨gb104, 2, none⟩ = some (.int .i64 0) := (blk_cell BK104.out 2).trans rfl; have hfs45 := blk_frozen BK104.out 2; have hns45_0 := NB102_104.out; have hns45_1 := NB103_104.out; have hms45_0 := NB104_102.out; have hms45_1 := NB104_103.out; have hs46 : w42.cell? ⟨gb104, 3, none⟩ = some (.int .i64 0) := (blk_cell BK104.out 3).trans rfl; have hfs46 := blk_frozen BK104.out 3; have hns46_0 := NB102_104.out; have hns46_1 := NB103_104.out; have hms46_0 := NB104_102.out; have hms46_1 := NB104_103.out
      refine skip_ (w1 := ?_) (by rfl) rfl ?_ ?_
      rotate_left
      ·
       go_simp
       rfl
      refine hK.out _ _ ⟨((cell_far (p := ⟨gb104, _, none⟩) NB102_104.out _).trans (((cell_far (p := ⟨gb104, _, none⟩) NB102_104.out _).trans (((cell_far (p := ⟨gb104, _, none⟩) NB102_104.out _).trans (((cell_far (p := ⟨gb104, _, none⟩) NB102_104.out _).trans (hHeld.1)))))))), ((cell_far (p := ⟨gb104, _, none⟩) NB102_104.out _).trans (((cell_far (p := ⟨gb104, _, none⟩) NB102_104.out _).trans (((cell_far (p := ⟨gb104, _, none⟩) NB102_104.out _).trans (((cell_far (p := ⟨gb104, _, none⟩) NB102_104.out _).trans (hHeld.2.1)))))))), ((cell_far (p := ⟨gb104, _, none⟩) NB102_104.out _).trans (((cell_far (p := ⟨gb104, _, none⟩) NB102_104.out _).trans (((cell_far (p := ⟨gb104, _, none⟩) NB102_104.out _).trans (((cell_far (p := ⟨gb104, _, none⟩) NB102_104.out _).trans (hHeld.2.2.1)))))))), ((cell_far (p := ⟨gb104, _, none⟩) NB102_104.out _).trans (((cell_far (p := ⟨gb104, _, none⟩) NB102_104.out _).trans (((cell_far (p := ⟨gb104, _, none⟩) NB102_104.out _).trans (((cell_far (p := ⟨gb104, _, none⟩) NB102_104.out _).trans (hHeld.2.2.2))))))))⟩ (fun hHeld => ?_); clear hK K
      refine pd_ (i := 5) (N := some 5) #[true, true, true, true, true, true] rfl rfl (hc := by kernel_rfl) ?_
      refine done_ (by kernel_rfl) ?_
      try go_wp2
      refine bodyPost_ret (results_ct rfl _ _ gb104 68 #[.int .i64 a0_0, .int .i64 (wrap64 (a0_1 + a1_1)), .int .i64 a0_2, .int .i64 a0_3] (0, 0) _ rfl (by (with_reducible repeat (first | refine blk_drewN ?_ _ | refine blk_drew ?_ | refine blk_alloc ?_ _)); refine blk_put (cs := #[.int .i64 a0_0, .int .i64 (wrap64 (a0_1 + a1_1)), .int .i64 a0_2, .int .i64 0]) ?_ 3 _ rfl; (with_reducible repeat (first | refine blk_drewN ?_ _ | refine blk_drew ?_ | refine blk_alloc ?_ _)); refine blk_put (cs := #[.int .i64 a0_0, .int .i64 (wrap64 (a0_1 + a1_1)), .int .i64 0, .int .i64 0]) ?_ 2 _ rfl; (with_reducible repeat (first | refine blk_drewN ?_ _ | refine blk_drew ?_ | refine blk_alloc ?_ _)); refine blk_put (cs := #[.int .i64 a0_0, .int .i64 0, .int .i64 0, .int .i64 0]) ?_ 1 _ rfl; (with_reducible repeat (first | refine blk_drewN ?_ _ | refine blk_drew ?_ | refine blk_alloc ?_ _)); refine blk_put (cs := #[.int .i64 0, .int .i64 0, .int .i64 0, .int .i64 0]) ?_ 0 _ rfl; (with_reducible repeat (first | refine blk_drewN ?_ _ | refine blk_drew ?_ | refine blk_alloc ?_ _)); exact BK104.out) Tryd.underlying68 rfl (by kernel_rfl)) rfl ?_
      exact ⟨w6g36_, w1g36_⟩
     ·
      rw [if_neg c35] at H
      have c35b0 : (a1_0 == 2) = false := beq_eq_false_iff_ne.mpr c35; have c35b1 : (a1_0 != 2) = true := bne_iff_ne.mpr c35
      by_cases c47 : a1_0 = 3
      ·
       rw [if_pos c47] at H
       have c47b0 : (a1_0 == 3) = true := beq_iff_eq.mpr c47; have c47b1 : (a1_0 != 3) = false := bne_eq_false_iff_eq.mpr c47; clear c47
       by_cases c48 : a1_1 < 12
       ·
        rw [if_pos c48] at H
        have c48b0 : decide (a1_1 < 12) = true := decide_eq_true c48; clear c48
        simp only [Option.some.injEq, Prod.mk.injEq] at H
        obtain ⟨rfl, rfl, rfl, rfl, rfl⟩ := H; have hnb49 := NB103_102.out; have hnc49 := NB102_103.out; have hnb50 := NB103_104.out; have hnc50 := NB104_103.out; obtain ⟨hcz51_0, hcz51_1⟩ := blk2 BK103.out; obtain ⟨hfz51_0, hfz51_1⟩ := frz2 BK103.out; have hnb52 := NB102_104.out; have hnc52 := NB104_102.out; obtain ⟨hcz53_0, hcz53_1, hcz53_2, hcz53_3⟩ := blk4 BK102.out; obtain ⟨hfz53_0, hfz53_1, hfz53_2, hfz53_3⟩ := frz4 BK102.out
        try go_wp2
        have n0_ : Aside0 ((wc.setCell ⟨gb102, 2, none⟩ (.int .i64 (wrap64 (a0_2 + 1)))).heap[gb102]? = some (.cells #[.int .i64 a0_0, .int .i64 a0_1, .int .i64 (wrap64 (a0_2 + 1)), .int .i64 a0_3] 68 (0, 0))) := ⟨by (with_reducible repeat (first | refine blk_drewN ?_ _ | refine blk_drew ?_ | refine blk_alloc ?_ _)); refine blk_put (cs := #[.int .i64 a0_0, .int .i64 a0_1, .int .i64 a0_2, .int .i64 a0_3]) ?_ 2 _ rfl; (with_reducible repeat (first | refine blk_drewN ?_ _ | refine blk_drew ?_ | refine blk_alloc ?_ _)); exact BK102.out⟩
        have n1_ : Aside0 ((wc.setCell ⟨gb102, 2, none⟩ (.int .i64 (wrap64 (a0_2 + 1)))).heap[gb103]? = some (.cells #[.int .i64 a1_0, .int .i64 a1_1] 70 (0, 0))) := ⟨by (with_reducible repeat (first | refine blk_far ?_ NB103_102.out _ | refine blk_drewN ?_ _ | refine blk_drew ?_ | refine blk_alloc ?_ _)); exact BK103.out⟩
        have n2_ : Aside0 ((wc.setCell ⟨gb102, 2, none⟩ (.int .i64 (wrap64 (a0_2 + 1)))).heap[gb104]? = some (.cells #[.int .i64 0, .int .i64 0, .int .i64 0, .int .i64 0] 68 (0, 0))) := ⟨by (with_reducible repeat (first | refine blk_far ?_ NB104_102.out _ | refine blk_drewN ?_ _ | refine blk_drew ?_ | refine blk_alloc ?_ _)); exact BK104.out⟩
        have n3_ : Aside0 (Below w.heap.size w (wc.setCell ⟨gb102, 2, none⟩ (.int .i64 (wrap64 (a0_2 + 1))))) := ⟨by repeat (first | (with_reducible first | exact HB.out | apply below_alloc | apply pw_below_drewN | apply below_drew1 | refine below_set ?_ GE102.out | refine below_set ?_ GE103.out | refine below_set ?_ GE104.out) | exact HB.out)⟩
        (try clear BK102)
        (try clear BK103)
        (try clear BK104)
        (try clear HB)
        generalize (wc.setCell ⟨gb102, 2, none⟩ (.int .i64 (wrap64 (a0_2 + 1)))) = w54 at n0_ n1_ n2_ n3_ ⊢
        have BK102 := n0_; have BK103 := n1_; have BK104 := n2_; have HB := n3_; clear n0_ n1_ n2_ n3_; have n0_ := ag36_ (blk_drew BK102.out); have n1_ := ag36_ (blk_drew BK103.out); have n2_ := ag36_ (blk_drew BK104.out); have n3_ := ag36_ (below_drew1 HB.out); clear BK102 BK103 BK104 HB; have BK102 := n0_; have BK103 := n1_; have BK104 := n2_; have HB := n3_; clear n0_ n1_ n2_ n3_
        refine start_ (n := 11) (S := fun w' => w'.cell? ⟨gb102, 0, none⟩ = some (.int .i64 a0_0) ∧ w'.cell? ⟨gb102, 1, none⟩ = some (.int .i64 a0_1) ∧ w'.cell? ⟨gb102, 2, none⟩ = some (.int .i64 (wrap64 (a0_2 + 1))) ∧ w'.cell? ⟨gb102, 3, none⟩ = some (.int .i64 a0_3) ∧ w'.cell? ⟨gb103, 0, none⟩ = some (.int .i64 a1_0) ∧ w'.cell? ⟨gb103, 1, none⟩ = some (.int .i64 a1_1)) (ds := []) b1g36_ (by kernel_rfl) rfl rfl ⟨(blk_cell BK102.out 0).trans rfl, (blk_cell BK102.out 1).trans rfl, (blk_cell BK102.out 2).trans rfl, (blk_cell BK102.out 3).trans rfl, (blk_cell BK103.out 0).trans rfl, (blk_cell BK103.out 1).trans rfl⟩ (fun hHeld => ?_); refine with_tabW impl_after.tab12 impl_after.bits12 (fun HT_ HW_ => ?_)
        generalize w54.drew = w55 at BK102 BK103 BK104 HB hHeld ⊢
        refine pd_ (i := 1) (N := some 50) b2g36_ rfl rfl ?_
        refine td6_ (i := 0) (N := some 49) b6g36_ rfl rfl hHeld ?_
        refine td6_ (i := 2) (N := some 51) b8g36_ rfl rfl hHeld ?_
        refine pd_ (i := 3) (N := some 52) b10g36_ rfl rfl ?_
        refine pd_ (i := 4) (N := some 53) b11g36_ rfl rfl ?_
        refine pd_ (i := 5) (N := some 54) b13g36_ rfl rfl ?_
        refine td6_ (i := 6) (N := some 55) b15g36_ rfl rfl hHeld ?_
        refine pd_ (i := 7) (N := some 56) b17g36_ rfl rfl ?_
        refine pd_ (i := 8) (N := some 57) b19g36_ rfl rfl ?_
        refine one_ (i := 9) (N := none) b21g36_ rfl rfl (one_of HT_.out (by kernel_rfl)) (by decide) (fun K hK => ?_)
        have hs56 : w55.cell? ⟨gb104, 0, none⟩ = some (.int .i64 0) := (blk_cell BK104.out 0).trans rfl; have hfs56 := blk_frozen BK104.out 0; have hns56_0 := NB102_104.out; have hns56_1 := NB103_104.out; have hms56_0 := NB104_102.out; have hms56_1 := NB104_103.out; have hs57 : w55.cell? ⟨gb104, 1, none⟩ = some (.int .i64 0) := (blk_cell BK104.out 1).trans rfl; have hfs57 := blk_frozen BK104.out 1; have hns57_0 := NB102_104.out; have hns57_1 := NB103_104.out; have hms57_0 := NB104_102.out; have hms57_1 := NB104_103.out; have hs58 : w55.cell? ⟨gb104, 2, none⟩ = some (.int .i64 0) := (blk_cell BK104.out 2).trans rfl; have hfs58 := blk_frozen BK104.out 2; have hns58_0 := NB102_104.out; have hns58_1 := NB103_104.out; have hms58_0 := NB104_102.out; have hms58_1 := NB104_103.out; have hs59 : w55.cell? ⟨gb104, 3, none⟩ = some (.int .i64 0) := (blk_cell BK104.out 3).trans rfl; have hfs59 := blk_frozen BK104.out 3; have hns59_0 := NB102_104.out; have hns59_1 := NB103_104.out; have hms59_0 := NB104_102.out; have hms59_1 := NB104_103.out
        refine skip_ (w1 := ?_) (by rfl) rfl ?_ ?_
        rotate_left
        ·
         go_simp
         rfl
        refine hK.out _ _ ⟨((cell_far (p := ⟨gb104, _, none⟩) NB102_104.out _).trans (((cell_far (p := ⟨gb104, _, none⟩) NB102_104.out _).trans (((cell_far (p := ⟨gb104, _, none⟩) NB102_104.out _).trans (((cell_far (p := ⟨gb104, _, none⟩) NB102_104.out _).trans (hHeld.1)))))))), ((cell_far (p := ⟨gb104, _, none⟩) NB102_104.out _).trans (((cell_far (p := ⟨gb104, _, none⟩) NB102_104.out _).trans (((cell_far (p := ⟨gb104, _, none⟩) NB102_104.out _).trans (((cell_far (p := ⟨gb104, _, none⟩) NB102_104.out _).trans (hHeld.2.1)))))))), ((cell_far (p := ⟨gb104, _, none⟩) NB102_104.out _).trans (((cell_far (p := ⟨gb104, _, none⟩) NB102_104.out _).trans (((cell_far (p := ⟨gb104, _, none⟩) NB102_104.out _).trans (((cell_far (p := ⟨gb104, _, none⟩) NB102_104.out _).trans (hHeld.2.2.1)))))))), ((cell_far (p := ⟨gb104, _, none⟩) NB102_104.out _).trans (((cell_far (p := ⟨gb104, _, none⟩) NB102_104.out _).trans (((cell_far (p := ⟨gb104, _, none⟩) NB102_104.out _).trans (((cell_far (p := ⟨gb104, _, none⟩) NB102_104.out _).trans (hHeld.2.2.2.1)))))))), ((cell_far (p := ⟨gb104, _, none⟩) NB103_104.out _).trans (((cell_far (p := ⟨gb104, _, none⟩) NB103_104.out _).trans (((cell_far (p := ⟨gb104, _, none⟩) NB103_104.out _).trans (((cell_far (p := ⟨gb104, _, none⟩) NB103_104.out _).trans (hHeld.2.2.2.2.1)))))))), ((cell_far (p := ⟨gb104, _, none⟩) NB103_104.out _).trans (((cell_far (p := ⟨gb104, _, none⟩) NB103_104.out _).trans (((cell_far (p := ⟨gb104, _, none⟩) NB103_104.out _).trans (((cell_far (p := ⟨gb104, _, none⟩) NB103_104.out _).trans (hHeld.2.2.2.2.2))))))))⟩ (fun hHeld => ?_); clear hK K
        refine pd_ (i := 10) (N := some 5) b28g36_ rfl rfl ?_
        refine done_ (done_of HT_.out (by kernel_rfl)) ?_
        try go_wp2
        refine bodyPost_ret (results_ct rfl _ _ gb104 68 #[.int .i64 a0_0, .int .i64 a0_1, .int .i64 (wrap64 (a0_2 + 1)), .int .i64 a0_3] (0, 0) _ rfl w2g36_ Tryd.underlying68 rfl (by kernel_rfl)) rfl ?_
        exact ⟨w6g36_, w1g36_⟩
       ·
        rw [if_neg c48] at H
        have c48b0 : decide (a1_1 < 12) = false := decide_eq_false c48; clear c48
        simp only [Option.some.injEq, Prod.mk.injEq] at H
        obtain ⟨rfl, rfl, rfl, rfl, rfl⟩ := H; have hnb60 := NB103_102.out; have hnc60 := NB102_103.out; have hnb61 := NB103_104.out; have hnc61 := NB104_103.out; obtain ⟨hcz62_0, hcz62_1⟩ := blk2 BK103.out; obtain ⟨hfz62_0, hfz62_1⟩ := frz2 BK103.out; have hnb63 := NB102_104.out; have hnc63 := NB104_102.out; obtain ⟨hcz64_0, hcz64_1, hcz64_2, hcz64_3⟩ := blk4 BK102.out; obtain ⟨hfz64_0, hfz64_1, hfz64_2, hfz64_3⟩ := frz4 BK102.out
        try go_wp2
        have n0_ : Aside0 ((wc.setCell ⟨gb102, 2, none⟩ (.int .i64 (wrap64 (a0_2 + 1)))).heap[gb102]? = some (.cells #[.int .i64 a0_0, .int .i64 a0_1, .int .i64 (wrap64 (a0_2 + 1)), .int .i64 a0_3] 68 (0, 0))) := ⟨by (with_reducible repeat (first | refine blk_drewN ?_ _ | refine blk_drew ?_ | refine blk_alloc ?_ _)); refine blk_put (cs := #[.int .i64 a0_0, .int .i64 a0_1, .int .i64 a0_2, .int .i64 a0_3]) ?_ 2 _ rfl; (with_reducible repeat (first | refine blk_drewN ?_ _ | refine blk_drew ?_ | refine blk_alloc ?_ _)); exact BK102.out⟩
        have n1_ : Aside0 ((wc.setCell ⟨gb102, 2, none⟩ (.int .i64 (wrap64 (a0_2 + 1)))).heap[gb103]? = some (.cells #[.int .i64 a1_0, .int .i64 a1_1] 70 (0, 0))) := ⟨by (with_reducible repeat (first | refine blk_far ?_ NB103_102.out _ | refine blk_drewN ?_ _ | refine blk_drew ?_ | refine blk_alloc ?_ _)); exact BK103.out⟩
        have n2_ : Aside0 ((wc.setCell ⟨gb102, 2, none⟩ (.int .i64 (wrap64 (a0_2 + 1)))).heap[gb104]? = some (.cells #[.int .i64 0, .int .i64 0, .int .i64 0, .int .i64 0] 68 (0, 0))) := ⟨by (with_reducible repeat (first | refine blk_far ?_ NB104_102.out _ | refine blk_drewN ?_ _ | refine blk_drew ?_ | refine blk_alloc ?_ _)); exact BK104.out⟩
        have n3_ : Aside0 (Below w.heap.size w (wc.setCell ⟨gb102, 2, none⟩ (.int .i64 (wrap64 (a0_2 + 1))))) := ⟨by repeat (first | (with_reducible first | exact HB.out | apply below_alloc | apply pw_below_drewN | apply below_drew1 | refine below_set ?_ GE102.out | refine below_set ?_ GE103.out | refine below_set ?_ GE104.out) | exact HB.out)⟩
        (try clear BK102)
        (try clear BK103)
        (try clear BK104)
        (try clear HB)
        generalize (wc.setCell ⟨gb102, 2, none⟩ (.int .i64 (wrap64 (a0_2 + 1)))) = w65 at n0_ n1_ n2_ n3_ ⊢
        have BK102 := n0_; have BK103 := n1_; have BK104 := n2_; have HB := n3_; clear n0_ n1_ n2_ n3_; have n0_ := ag36_ (blk_drew BK102.out); have n1_ := ag36_ (blk_drew BK103.out); have n2_ := ag36_ (blk_drew BK104.out); have n3_ := ag36_ (below_drew1 HB.out); clear BK102 BK103 BK104 HB; have BK102 := n0_; have BK103 := n1_; have BK104 := n2_; have HB := n3_; clear n0_ n1_ n2_ n3_
        refine start_ (n := 11) (S := fun w' => w'.cell? ⟨gb102, 0, none⟩ = some (.int .i64 a0_0) ∧ w'.cell? ⟨gb102, 1, none⟩ = some (.int .i64 a0_1) ∧ w'.cell? ⟨gb102, 2, none⟩ = some (.int .i64 (wrap64 (a0_2 + 1))) ∧ w'.cell? ⟨gb102, 3, none⟩ = some (.int .i64 a0_3) ∧ w'.cell? ⟨gb103, 0, none⟩ = some (.int .i64 a1_0) ∧ w'.cell? ⟨gb103, 1, none⟩ = some (.int .i64 a1_1)) (ds := []) b1g36_ (by kernel_rfl) rfl rfl ⟨(blk_cell BK102.out 0).trans rfl, (blk_cell BK102.out 1).trans rfl, (blk_cell BK102.out 2).trans rfl, (blk_cell BK102.out 3).trans rfl, (blk_cell BK103.out 0).trans rfl, (blk_cell BK103.out 1).trans rfl⟩ (fun hHeld => ?_); refine with_tabW impl_after.tab12 impl_after.bits12 (fun HT_ HW_ => ?_)
        generalize w65.drew = w66 at BK102 BK103 BK104 HB hHeld ⊢
        refine pd_ (i := 1) (N := some 50) b2g36_ rfl rfl ?_
        refine td6_ (i := 0) (N := some 49) b6g36_ rfl rfl hHeld ?_
        refine td6_ (i := 2) (N := some 51) b8g36_ rfl rfl hHeld ?_
        refine pd_ (i := 3) (N := some 52) b10g36_ rfl rfl ?_
        refine pd_ (i := 4) (N := some 53) b11g36_ rfl rfl ?_
        refine pu_ (v := undef) (i := 5) (N := some 54) b13g36_ rfl rfl ?_
        refine pu_ (v := undef) (i := 6) (N := some 55) b15g36_ rfl rfl ?_
        refine pu_ (v := undef) (i := 7) (N := some 56) b17g36_ rfl rfl ?_
        refine pd_ (i := 8) (N := some 57) b19g36_ rfl rfl ?_
        refine one_ (i := 9) (N := none) b21g36_ rfl rfl (one_of HT_.out (by kernel_rfl)) (by decide) (fun K hK => ?_)
        have hs67 : w66.cell? ⟨gb104, 0, none⟩ = some (.int .i64 0) := (blk_cell BK104.out 0).trans rfl; have hfs67 := blk_frozen BK104.out 0; have hns67_0 := NB102_104.out; have hns67_1 := NB103_104.out; have hms67_0 := NB104_102.out; have hms67_1 := NB104_103.out; have hs68 : w66.cell? ⟨gb104, 1, none⟩ = some (.int .i64 0) := (blk_cell BK104.out 1).trans rfl; have hfs68 := blk_frozen BK104.out 1; have hns68_0 := NB102_104.out; have hns68_1 := NB103_104.out; have hms68_0 := NB104_102.out; have hms68_1 := NB104_103.out; have hs69 : w66.cell? ⟨gb104, 2, none⟩ = some (.int .i64 0) := (blk_cell BK104.out 2).trans rfl; have hfs69 := blk_frozen BK104.out 2; have hns69_0 := NB102_104.out; have hns69_1 := NB103_104.out; have hms69_0 := NB104_102.out; have hms69_1 := NB104_103.out; have hs70 : w66.cell? ⟨gb104, 3, none⟩ = some (.int .i64 0) := (blk_cell BK104.out 3).trans rfl; have hfs70 := blk_frozen BK104.out 3; have hns70_0 := NB102_104.out; have hns70_1 := NB103_104.out; have hms70_0 := NB104_102.out; have hms70_1 := NB104_103.out
        refine skip_ (w1 := ?_) (by rfl) rfl ?_ ?_
        rotate_left
        ·
         go_simp
         rfl
        refine hK.out _ _ ⟨((cell_far (p := ⟨gb104, _, none⟩) NB102_104.out _).trans (((cell_far (p := ⟨gb104, _, none⟩) NB102_104.out _).trans (((cell_far (p := ⟨gb104, _, none⟩) NB102_104.out _).trans (((cell_far (p := ⟨gb104, _, none⟩) NB102_104.out _).trans (hHeld.1)))))))), ((cell_far (p := ⟨gb104, _, none⟩) NB102_104.out _).trans (((cell_far (p := ⟨gb104, _, none⟩) NB102_104.out _).trans (((cell_far (p := ⟨gb104, _, none⟩) NB102_104.out _).trans (((cell_far (p := ⟨gb104, _, none⟩) NB102_104.out _).trans (hHeld.2.1)))))))), ((cell_far (p := ⟨gb104, _, none⟩) NB102_104.out _).trans (((cell_far (p := ⟨gb104, _, none⟩) NB102_104.out _).trans (((cell_far (p := ⟨gb104, _, none⟩) NB102_104.out _).trans (((cell_far (p := ⟨gb104, _, none⟩) NB102_104.out _).trans (hHeld.2.2.1)))))))), ((cell_far (p := ⟨gb104, _, none⟩) NB102_104.out _).trans (((cell_far (p := ⟨gb104, _, none⟩) NB102_104.out _).trans (((cell_far (p := ⟨gb104, _, none⟩) NB102_104.out _).trans (((cell_far (p := ⟨gb104, _, none⟩) NB102_104.out _).trans (hHeld.2.2.2.1)))))))), ((cell_far (p := ⟨gb104, _, none⟩) NB103_104.out _).trans (((cell_far (p := ⟨gb104, _, none⟩) NB103_104.out _).trans (((cell_far (p := ⟨gb104, _, none⟩) NB103_104.out _).trans (((cell_far (p := ⟨gb104, _, none⟩) NB103_104.out _).trans (hHeld.2.2.2.2.1)))))))), ((cell_far (p := ⟨gb104, _, none⟩) NB103_104.out _).trans (((cell_far (p := ⟨gb104, _, none⟩) NB103_104.out _).trans (((cell_far (p := ⟨gb104, _, none⟩) NB103_104.out _).trans (((cell_far (p := ⟨gb104, _, none⟩) NB103_104.out _).trans (hHeld.2.2.2.2.2))))))))⟩ (fun hHeld => ?_); clear hK K
        refine pd_ (i := 10) (N := some 5) b28g36_ rfl rfl ?_
        refine done_ (done_of HT_.out (by kernel_rfl)) ?_
        try go_wp2
        refine bodyPost_ret (results_ct rfl _ _ gb104 68 #[.int .i64 a0_0, .int .i64 a0_1, .int .i64 (wrap64 (a0_2 + 1)), .int .i64 a0_3] (0, 0) _ rfl w2g36_ Tryd.underlying68 rfl (by kernel_rfl)) rfl ?_
        exact ⟨w6g36_, w1g36_⟩
      ·
       rw [if_neg c47] at H
       have c47b0 : (a1_0 == 3) = false := beq_eq_false_iff_ne.mpr c47; have c47b1 : (a1_0 != 3) = true := bne_iff_ne.mpr c47
       by_cases c71 : a1_0 = 4
       ·
        rw [if_pos c71] at H
        have c71b0 : (a1_0 == 4) = true := beq_iff_eq.mpr c71; have c71b1 : (a1_0 != 4) = false := bne_eq_false_iff_eq.mpr c71; clear c71
        by_cases c72 : a1_1 = a0_1
        ·
         rw [if_pos c72] at H
         have c72b0 : (a1_1 == a0_1) = true := beq_iff_eq.mpr c72; have c72b1 : (a1_1 != a0_1) = false := bne_eq_false_iff_eq.mpr c72; clear c72
         simp only [Option.some.injEq, Prod.mk.injEq] at H
         obtain ⟨rfl, rfl, rfl, rfl, rfl⟩ := H; have hnb73 := NB103_102.out; have hnc73 := NB102_103.out; have hnb74 := NB103_104.out; have hnc74 := NB104_103.out; obtain ⟨hcz75_0, hcz75_1⟩ := blk2 BK103.out; obtain ⟨hfz75_0, hfz75_1⟩ := frz2 BK103.out
         try go_wp2
         have n0_ := ag36_ (blk_drew BK102.out); have n1_ := ag36_ (blk_drew BK103.out); have n2_ := ag36_ (blk_drew BK104.out); have n3_ := ag36_ (below_drew1 HB.out); clear BK102 BK103 BK104 HB; have BK102 := n0_; have BK103 := n1_; have BK104 := n2_; have HB := n3_; clear n0_ n1_ n2_ n3_
         refine start_ (n := 16) (S := fun w' => w'.cell? ⟨gb102, 0, none⟩ = some (.int .i64 a0_0) ∧ w'.cell? ⟨gb102, 1, none⟩ = some (.int .i64 a0_1) ∧ w'.cell? ⟨gb102, 2, none⟩ = some (.int .i64 a0_2) ∧ w'.cell? ⟨gb102, 3, none⟩ = some (.int .i64 a0_3) ∧ w'.cell? ⟨gb103, 0, none⟩ = some (.int .i64 a1_0) ∧ w'.cell? ⟨gb103, 1, none⟩ = some (.int .i64 a1_1)) (ds := []) b0g36_ (by kernel_rfl) rfl rfl ⟨(blk_cell BK102.out 0).trans rfl, (blk_cell BK102.out 1).trans rfl, (blk_cell BK102.out 2).trans rfl, (blk_cell BK102.out 3).trans rfl, (blk_cell BK103.out 0).trans rfl, (blk_cell BK103.out 1).trans rfl⟩ (fun hHeld => ?_); refine with_tabW impl_after.tab14 impl_after.bits14 (fun HT_ HW_ => ?_)
         generalize wc.drew = w76 at BK102 BK103 BK104 HB hHeld ⊢
         refine pd_ (i := 0) (N := some 60) b3g36_ rfl rfl ?_
         refine pd_ (i := 4) (N := some 64) b4g36_ rfl rfl ?_
         refine pd_ (i := 6) (N := some 66) b5g36_ rfl rfl ?_
         refine td6_ (i := 1) (N := some 61) b7g36_ rfl rfl hHeld ?_
         refine pd_ (i := 2) (N := some 62) b9g36_ rfl rfl ?_
         refine pd_ (i := 3) (N := some 63) b12g36_ rfl rfl ?_
         refine td6_ (i := 5) (N := some 65) b14g36_ rfl rfl hHeld ?_
         refine td6_ (i := 7) (N := some 67) b16g36_ rfl rfl hHeld ?_
         refine pd_ (i := 8) (N := some 68) b18g36_ rfl rfl ?_
         refine pd_ (i := 9) (N := some 69) b20g36_ rfl rfl ?_
         refine pd_ (i := 10) (N := some 70) b22g36_ rfl rfl ?_
         refine td6_ (i := 11) (N := some 71) b23g36_ rfl rfl hHeld ?_
         refine pd_ (i := 12) (N := some 72) b24g36_ rfl rfl ?_
         refine pd_ (i := 13) (N := some 73) b25g36_ rfl rfl ?_
         refine one_ (i := 14) (N := none) b26g36_ rfl rfl (one_of HT_.out (by kernel_rfl)) (by decide) (fun K hK => ?_)
         have hs77 : w76.cell? ⟨gb104, 0, none⟩ = some (.int .i64 0) := (blk_cell BK104.out 0).trans rfl; have hfs77 := blk_frozen BK104.out 0; have hns77_0 := NB102_104.out; have hns77_1 := NB103_104.out; have hms77_0 := NB104_102.out; have hms77_1 := NB104_103.out; have hs78 : w76.cell? ⟨gb104, 1, none⟩ = some (.int .i64 0) := (blk_cell BK104.out 1).trans rfl; have hfs78 := blk_frozen BK104.out 1; have hns78_0 := NB102_104.out; have hns78_1 := NB103_104.out; have hms78_0 := NB104_102.out; have hms78_1 := NB104_103.out; have hs79 : w76.cell? ⟨gb104, 2, none⟩ = some (.int .i64 0) := (blk_cell BK104.out 2).trans rfl; have hfs79 := blk_frozen BK104.out 2; have hns79_0 := NB102_104.out; have hns79_1 := NB103_104.out; have hms79_0 := NB104_102.out; have hms79_1 := NB104_103.out; have hs80 : w76.cell? ⟨gb104, 3, none⟩ = some (.int .i64 0) := (blk_cell BK104.out 3).trans rfl; have hfs80 := blk_frozen BK104.out 3; have hns80_0 := NB102_104.out; have hns80_1 := NB103_104.out; have hms80_0 := NB104_102.out; have hms80_1 := NB104_103.out
         refine skip_ (w1 := ?_) (by rfl) rfl ?_ ?_
         rotate_left
         ·
          go_simp
          rfl
         refine hK.out _ _ ⟨((cell_far (p := ⟨gb104, _, none⟩) NB102_104.out _).trans (((cell_far (p := ⟨gb104, _, none⟩) NB102_104.out _).trans (((cell_far (p := ⟨gb104, _, none⟩) NB102_104.out _).trans (((cell_far (p := ⟨gb104, _, none⟩) NB102_104.out _).trans (hHeld.1)))))))), ((cell_far (p := ⟨gb104, _, none⟩) NB102_104.out _).trans (((cell_far (p := ⟨gb104, _, none⟩) NB102_104.out _).trans (((cell_far (p := ⟨gb104, _, none⟩) NB102_104.out _).trans (((cell_far (p := ⟨gb104, _, none⟩) NB102_104.out _).trans (hHeld.2.1)))))))), ((cell_far (p := ⟨gb104, _, none⟩) NB102_104.out _).trans (((cell_far (p := ⟨gb104, _, none⟩) NB102_104.out _).trans (((cell_far (p := ⟨gb104, _, none⟩) NB102_104.out _).trans (((cell_far (p := ⟨gb104, _, none⟩) NB102_104.out _).trans (hHeld.2.2.1)))))))), ((cell_far (p := ⟨gb104, _, none⟩) NB102_104.out _).trans (((cell_far (p := ⟨gb104, _, none⟩) NB102_104.out _).trans (((cell_far (p := ⟨gb104, _, none⟩) NB102_104.out _).trans (((cell_far (p := ⟨gb104, _, none⟩) NB102_104.out _).trans (hHeld.2.2.2.1)))))))), ((cell_far (p := ⟨gb104, _, none⟩) NB103_104.out _).trans (((cell_far (p := ⟨gb104, _, none⟩) NB103_104.out _).trans (((cell_far (p := ⟨gb104, _, none⟩) NB103_104.out _).trans (((cell_far (p := ⟨gb104, _, none⟩) NB103_104.out _).trans (hHeld.2.2.2.2.1)))))))), ((cell_far (p := ⟨gb104, _, none⟩) NB103_104.out _).trans (((cell_far (p := ⟨gb104, _, none⟩) NB103_104.out _).trans (((cell_far (p := ⟨gb104, _, none⟩) NB103_104.out _).trans (((cell_far (p := ⟨gb104, _, none⟩) NB103_104.out _).trans (hHeld.2.2.2.2.2))))))))⟩ (fun hHeld => ?_); clear hK K
         refine pd_ (i := 15) (N := some 5) b27g36_ rfl rfl ?_
         refine done_ (done_of HT_.out (by kernel_rfl)) ?_
         try go_wp2
         refine bodyPost_ret (results_ct rfl _ _ gb104 68 #[.int .i64 0, .int .i64 0, .int .i64 0, .int .i64 (wrap64 (a0_3 + 1))] (0, 0) _ rfl w4g36_ Tryd.underlying68 rfl (by kernel_rfl)) rfl ?_
         exact ⟨w6g36_, w1g36_⟩
        ·
         rw [if_neg c72] at H
         have c72b0 : (a1_1 == a0_1) = false := beq_eq_false_iff_ne.mpr c72; have c72b1 : (a1_1 != a0_1) = true := bne_iff_ne.mpr c72
         simp only [Option.some.injEq, Prod.mk.injEq] at H
         obtain ⟨rfl, rfl, rfl, rfl, rfl⟩ := H; have hnb81 := NB103_102.out; have hnc81 := NB102_103.out; have hnb82 := NB103_104.out; have hnc82 := NB104_103.out; obtain ⟨hcz83_0, hcz83_1⟩ := blk2 BK103.out; obtain ⟨hfz83_0, hfz83_1⟩ := frz2 BK103.out
         try go_wp2
         have n0_ := ag36_ (blk_drew BK102.out); have n1_ := ag36_ (blk_drew BK103.out); have n2_ := ag36_ (blk_drew BK104.out); have n3_ := ag36_ (below_drew1 HB.out); clear BK102 BK103 BK104 HB; have BK102 := n0_; have BK103 := n1_; have BK104 := n2_; have HB := n3_; clear n0_ n1_ n2_ n3_
         refine start_ (n := 16) (S := fun w' => w'.cell? ⟨gb102, 0, none⟩ = some (.int .i64 a0_0) ∧ w'.cell? ⟨gb102, 1, none⟩ = some (.int .i64 a0_1) ∧ w'.cell? ⟨gb102, 2, none⟩ = some (.int .i64 a0_2) ∧ w'.cell? ⟨gb102, 3, none⟩ = some (.int .i64 a0_3) ∧ w'.cell? ⟨gb103, 0, none⟩ = some (.int .i64 a1_0) ∧ w'.cell? ⟨gb103, 1, none⟩ = some (.int .i64 a1_1)) (ds := []) b0g36_ (by kernel_rfl) rfl rfl ⟨(blk_cell BK102.out 0).trans rfl, (blk_cell BK102.out 1).trans rfl, (blk_cell BK102.out 2).trans rfl, (blk_cell BK102.out 3).trans rfl, (blk_cell BK103.out 0).trans rfl, (blk_cell BK103.out 1).trans rfl⟩ (fun hHeld => ?_); refine with_tabW impl_after.tab14 impl_after.bits14 (fun HT_ HW_ => ?_)
         generalize wc.drew = w84 at BK102 BK103 BK104 HB hHeld ⊢
         refine pd_ (i := 0) (N := some 60) b3g36_ rfl rfl ?_
         refine pd_ (i := 4) (N := some 64) b4g36_ rfl rfl ?_
         refine pd_ (i := 6) (N := some 66) b5g36_ rfl rfl ?_
         refine td6_ (i := 1) (N := some 61) b7g36_ rfl rfl hHeld ?_
         refine pd_ (i := 2) (N := some 62) b9g36_ rfl rfl ?_
         refine pd_ (i := 3) (N := some 63) b12g36_ rfl rfl ?_
         refine td6_ (i := 5) (N := some 65) b14g36_ rfl rfl hHeld ?_
         refine td6_ (i := 7) (N := some 67) b16g36_ rfl rfl hHeld ?_
         refine pd_ (i := 8) (N := some 68) b18g36_ rfl rfl ?_
         refine pd_ (i := 9) (N := some 69) b20g36_ rfl rfl ?_
         refine pu_ (v := undef) (i := 10) (N := some 70) b22g36_ rfl rfl ?_
         refine pu_ (v := undef) (i := 11) (N := some 71) b23g36_ rfl rfl ?_
         refine pu_ (v := undef) (i := 12) (N := some 72) b24g36_ rfl rfl ?_
         refine pd_ (i := 13) (N := some 73) b25g36_ rfl rfl ?_
         refine one_ (i := 14) (N := none) b26g36_ rfl rfl (one_of HT_.out (by kernel_rfl)) (by decide) (fun K hK => ?_)
         have hs85 : w84.cell? ⟨gb104, 0, none⟩ = some (.int .i64 0) := (blk_cell BK104.out 0).trans rfl; have hfs85 := blk_frozen BK104.out 0; have hns85_0 := NB102_104.out; have hns85_1 := NB103_104.out; have hms85_0 := NB104_102.out; have hms85_1 := NB104_103.out; have hs86 : w84.cell? ⟨gb104, 1, none⟩ = some (.int .i64 0) := (blk_cell BK104.out 1).trans rfl; have hfs86 := blk_frozen BK104.out 1; have hns86_0 := NB102_104.out; have hns86_1 := NB103_104.out; have hms86_0 := NB104_102.out; have hms86_1 := NB104_103.out; have hs87 : w84.cell? ⟨gb104, 2, none⟩ = some (.int .i64 0) := (blk_cell BK104.out 2).trans rfl; have hfs87 := blk_frozen BK104.out 2; have hns87_0 := NB102_104.out; have hns87_1 := NB103_104.out; have hms87_0 := NB104_102.out; have hms87_1 := NB104_103.out; have hs88 : w84.cell? ⟨gb104, 3, none⟩ = some (.int .i64 0) := (blk_cell BK104.out 3).trans rfl; have hfs88 := blk_frozen BK104.out 3; have hns88_0 := NB102_104.out; have hns88_1 := NB103_104.out; have hms88_0 := NB104_102.out; have hms88_1 := NB104_103.out
         refine skip_ (w1 := ?_) (by rfl) rfl ?_ ?_
         rotate_left
         ·
          go_simp
          rfl
         refine hK.out _ _ ⟨((cell_far (p := ⟨gb104, _, none⟩) NB102_104.out _).trans (((cell_far (p := ⟨gb104, _, none⟩) NB102_104.out _).trans (((cell_far (p := ⟨gb104, _, none⟩) NB102_104.out _).trans (((cell_far (p := ⟨gb104, _, none⟩) NB102_104.out _).trans (hHeld.1)))))))), ((cell_far (p := ⟨gb104, _, none⟩) NB102_104.out _).trans (((cell_far (p := ⟨gb104, _, none⟩) NB102_104.out _).trans (((cell_far (p := ⟨gb104, _, none⟩) NB102_104.out _).trans (((cell_far (p := ⟨gb104, _, none⟩) NB102_104.out _).trans (hHeld.2.1)))))))), ((cell_far (p := ⟨gb104, _, none⟩) NB102_104.out _).trans (((cell_far (p := ⟨gb104, _, none⟩) NB102_104.out _).trans (((cell_far (p := ⟨gb104, _, none⟩) NB102_104.out _).trans (((cell_far (p := ⟨gb104, _, none⟩) NB102_104.out _).trans (hHeld.2.2.1)))))))), ((cell_far (p := ⟨gb104, _, none⟩) NB102_104.out _).trans (((cell_far (p := ⟨gb104, _, none⟩) NB102_104.out _).trans (((cell_far (p := ⟨gb104, _, none⟩) NB102_104.out _).trans (((cell_far (p := ⟨gb104, _, none⟩) NB102_104.out _).trans (hHeld.2.2.2.1)))))))), ((cell_far (p := ⟨gb104, _, none⟩) NB103_104.out _).trans (((cell_far (p := ⟨gb104, _, none⟩) NB103_104.out _).trans (((cell_far (p := ⟨gb104, _, none⟩) NB103_104.out _).trans (((cell_far (p := ⟨gb104, _, none⟩) NB103_104.out _).trans (hHeld.2.2.2.2.1)))))))), ((cell_far (p := ⟨gb104, _, none⟩) NB103_104.out _).trans (((cell_far (p := ⟨gb104, _, none⟩) NB103_104.out _).trans (((cell_far (p := ⟨gb104, _, none⟩) NB103_104.out _).trans (((cell_far (p := ⟨gb104, _, none⟩) NB103_104.out _).trans (hHeld.2.2.2.2.2))))))))⟩ (fun hHeld => ?_); clear hK K
         refine pd_ (i := 15) (N := some 5) b27g36_ rfl rfl ?_
         refine done_ (done_of HT_.out (by kernel_rfl)) ?_
         try go_wp2
         refine bodyPost_ret (results_ct rfl _ _ gb104 68 #[.int .i64 0, .int .i64 0, .int .i64 0, .int .i64 (wrap64 (a0_3 + 1))] (0, 0) _ rfl w4g36_ Tryd.underlying68 rfl (by kernel_rfl)) rfl ?_
         exact ⟨w6g36_, w1g36_⟩
       ·
        rw [if_neg c71] at H
        have c71b0 : (a1_0 == 4) = false := beq_eq_false_iff_ne.mpr c71; have c71b1 : (a1_0 != 4) = true := bne_iff_ne.mpr c71
        simp only [Option.some.injEq, Prod.mk.injEq] at H
        obtain ⟨rfl, rfl, rfl, rfl, rfl⟩ := H; have hnb89 := NB103_102.out; have hnc89 := NB102_103.out; have hnb90 := NB103_104.out; have hnc90 := NB104_103.out; obtain ⟨hcz91_0, hcz91_1⟩ := blk2 BK103.out; obtain ⟨hfz91_0, hfz91_1⟩ := frz2 BK103.out; have hnb92 := NB102_104.out; have hnc92 := NB104_102.out; obtain ⟨hcz93_0, hcz93_1, hcz93_2, hcz93_3⟩ := blk4 BK102.out; obtain ⟨hfz93_0, hfz93_1, hfz93_2, hfz93_3⟩ := frz4 BK102.out; obtain ⟨hcz94_0, hcz94_1, hcz94_2, hcz94_3⟩ := blk4 BK104.out; obtain ⟨hfz94_0, hfz94_1, hfz94_2, hfz94_3⟩ := frz4 BK104.out
        go_wp2
        refine bodyPost_ret (results_ct rfl _ _ gb104 68 #[.int .i64 a0_0, .int .i64 a0_1, .int .i64 a0_2, .int .i64 a0_3] (0, 0) _ rfl w3g36_ Tryd.underlying68 rfl (by kernel_rfl)) rfl ?_
        exact ⟨w6g36_, w1g36_⟩
end Go.Proofs.YtoiioapkebglgaaDoor.PG
end
