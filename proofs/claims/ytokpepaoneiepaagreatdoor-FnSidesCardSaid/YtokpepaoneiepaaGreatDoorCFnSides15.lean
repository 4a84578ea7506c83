import Derived.Test.YtokpepaoneiepaaGreatDoorCFnSides9
import Derived.Test.YtokpepaoneiepaaGreatDoorCFnSides14
set_option linter.unusedVariables false
set_option linter.unusedSimpArgs false
section
namespace Go.Proofs.YtokpepaoneiepaaGreatDoor.PL
open Go.RowKit Go.Proofs.YtokpepaoneiepaaGreatDoorW.PrintWords Go.Proofs.YtokpepaoneiepaaGreatDoorW.PrintLast Go.Proofs.YtokpepaoneiepaaGreatDoorW.PrintMore
attribute [local go_sem] min2_int min_two
def strconv_FormatInt.f (a0 : Int) (a1 : Int) : Option ByteArray := if -9223372036854775808 ≤ a0 ∧ a0 ≤ 9223372036854775807 ∧ a1 = 10 then some (itoaB a0) else none
theorem strconv_FormatInt.calls (a0 : Int) (a1 : Int) (r : ByteArray) (w : World) (h : strconv_FormatInt.f a0 a1 = some r) (hT : TabW w) :
  Calls Tryz.prog 74 #[.int .i64 a0, .int .i64 a1] w fun e w' => e = .returned (.string r) ∧ Below w.heap.size w w' := by
 unfold strconv_FormatInt.f at h; by_cases hc : -9223372036854775808 ≤ a0 ∧ a0 ≤ 9223372036854775807 ∧ a1 = 10
 ·rw [if_pos hc] at h
  obtain rfl := Option.some.inj h; obtain ⟨h0, h1, rfl⟩ := hc; refine (Go.Proofs.Tryz.strconv_FormatInt_10 a0 h0 h1 w hT.1).mono ?_; rintro e w' ⟨rfl, k, os, rfl⟩; exact ⟨rfl, Lib.below_grow _ w (Nat.le_refl _) k os⟩
 ·rw [if_neg hc] at h; cases h
def impl_decimal.f (a0 : Int) : Option (ByteArray) := (strconv_FormatInt.f a0 10).bind fun t513 => (some t513)
set_option maxHeartbeats 8000000 in
set_option maxRecDepth 100000 in
theorem impl_decimal.calls (a0 : Int) (r : ByteArray) (w : World) (h : impl_decimal.f a0 = some r) (hT : TabW w) :
  Calls Tryz.prog 46 #[.int .i64 a0] w fun e w' => e = .returned (.string r) ∧ Below w.heap.size w w' := by
 have HT := Aside0.mk hT; clear hT; have HB := Aside0.mk (Below.refl w.heap.size w); unfold impl_decimal.f at h; have H := h; clear h; obtain ⟨a1, A2, H⟩ := bd_ H; (try dsimp only at H); obtain rfl := Option.some.inj H; go_enter Tryz.func46, Tryz.ntmps46
 go_wp2_with (first | ((with_reducible refine gt_ 74 ?_); refine cl_ (some 4) Tryz.func74 (strconv_FormatInt.calls _ _ _ _ A2.out (tabw_below HT.out (wn_ HB))) ?_; rintro e w3 ⟨rfl, hb⟩; refine ⟨_, rfl, ?_⟩; replace HB := bst_ HB hb; (try clear hb); (try clear hb2); (try clear hk); (try clear hi)))
 go_ret; exact ⟨k3_, (wn_ HB)⟩
end Go.Proofs.YtokpepaoneiepaaGreatDoor.PL
end
