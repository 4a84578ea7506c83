import Derived.Lib.SplitLaws
import Derived.Test.YtokpepaoneiepaaGreatDoorCFnSides9
import Derived.Test.YtokpepaoneiepaaGreatDoorCFnSides14
set_option linter.unusedVariables false
set_option linter.unusedSimpArgs false
section
namespace Go.Proofs.YtokpepaoneiepaaGreatDoor.PL
open Go.RowKit Go.Proofs.YtokpepaoneiepaaGreatDoorW.PrintWords Go.Proofs.YtokpepaoneiepaaGreatDoorW.PrintLast Go.Proofs.YtokpepaoneiepaaGreatDoorW.PrintMore
attribute [local go_sem] min2_int min_two
def strings_Split.f (a0 : ByteArray) (a1 : ByteArray) : Option (List ByteArray) := if a0.size < 4294967281 ∧ 1 ≤ a1.size then some (Lib.splitB a1 0 (Lib.countB a0 a1) a0) else none
theorem strings_Split.calls (a0 : ByteArray) (a1 : ByteArray) (r : List ByteArray) (w : World) (h : strings_Split.f a0 a1 = some r) (hT : TabW w) :
  Calls Tryz.prog 24 #[.string a0, .string a1] w fun e w' => ∃ v0_ : Value, e = .returned (v0_) ∧ Kd.R Kd.string 9 w' w.heap.size (fun _ => True) v0_ r ∧ Below w.heap.size w w' := by
 unfold strings_Split.f at h; by_cases hc : a0.size < 4294967281 ∧ 1 ≤ a1.size
 ·rw [if_pos hc] at h
  obtain rfl := Option.some.inj h; obtain ⟨h0, h1⟩ := hc; obtain ⟨_, ⟨m, hm⟩, _⟩ := hT; refine (Go.Proofs.Tryz.strings_Split a0 a1 m w h0 hm h1).mono ?_; rintro e w' ⟨rfl, rfl⟩; have hl : (Lib.splitB a1 0 (Lib.countB a0 a1) a0).length = Lib.countB a0 a1 + 1 := Lib.splitB_all a1 h1 0 _ a0 rfl; rw [← hl]; refine ⟨_, rfl, Kd.R_of_own ?_ (fun _ _ => trivial), below_alloc (Below.refl _ _) _⟩
  have hlim : (Lib.splitB a1 0 (Lib.countB a0 a1) a0).length ≤ 9223372036854775807 := by
   have := Lib.countB_le a1 h1 a0.size a0 (Nat.le_refl _)
   omega
  exact own_lit_of (enc := Value.string) w w.heap.size 9 _ (Nat.le_refl _) hlim
 ·rw [if_neg hc] at h; cases h
def impl_length_string.f (l0 : List ByteArray) : Option (Int) := some (l0.length : Int)
set_option maxHeartbeats 8000000 in
set_option maxRecDepth 100000 in
theorem impl_length_string.calls (A0 : Option Addr) (c0 : Nat) (l0 : List ByteArray) (r : Int) (w : World) (hr0 : Kd.C Kd.string w A0 l0.length l0) (hc0 : l0.length ≤ c0) (h : impl_length_string.f l0 = some r) :
  Calls Tryz.prog 25 #[.slice A0 l0.length c0] w fun e w' => e = .returned (.int .i64 r) ∧ Drawn0 w w' := by
 have a0 := Aside0.mk hr0; have a1 := Aside0.mk hc0; clear hr0 hc0; unfold impl_length_string.f at h; have H := h; clear h; obtain rfl := Option.some.inj H; go_enter Tryz.func25, Tryz.ntmps25; go_wp2; go_ret; exact ⟨k1_, (by repeat (first | exact Drawn0.refl _ | apply Drawn0.step))⟩
def strings_Count.f (a0 : ByteArray) (a1 : ByteArray) : Option Int := if a1.data.toList.length = 1 then some ((Lib.countByte a0.data.toList (a1.data.toList.getD 0 0) : Nat) : Int) else none
theorem strings_Count.calls (a0 : ByteArray) (a1 : ByteArray) (r : Int) (w : World) (h : strings_Count.f a0 a1 = some r) :
  Calls Tryz.prog 26 #[.string a0, .string a1] w fun e w' => e = .returned (.int .i64 r) ∧ Below w.heap.size w w' := by
 unfold strings_Count.f at h; by_cases hc : a1.data.toList.length = 1
 ·rw [if_pos hc] at h
  obtain rfl := Option.some.inj h; obtain ⟨c, hcc⟩ := List.length_eq_one_iff.1 hc
  have e1 : a1 = ⟨#[c]⟩ := by
   cases a1 with | mk d => cases d with | mk l => simp at hcc; rw [hcc]
  subst e1; refine (Go.Proofs.Tryz.strings_Count_one a0 c w).mono ?_; rintro e w' ⟨rfl, rfl⟩; exact ⟨rfl, Below.refl _ _⟩
 ·rw [if_neg hc] at h; cases h
end Go.Proofs.YtokpepaoneiepaaGreatDoor.PL
end
