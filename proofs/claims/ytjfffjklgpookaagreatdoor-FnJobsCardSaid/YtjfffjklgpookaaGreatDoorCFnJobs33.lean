import Derived.Test.YtjfffjklgpookaaGreatDoorCFnJobs16
import Derived.Test.YtjfffjklgpookaaGreatDoorCFnJobs32
set_option linter.unusedVariables false
set_option linter.unusedSimpArgs false
section
namespace Go.Proofs.YtjfffjklgpookaaGreatDoor.PJ
open Go.RowKit Go.Proofs.YtjfffjklgpookaaGreatDoorW.PrintWords Go.Proofs.YtjfffjklgpookaaGreatDoorB
def unitOk (u : Int) : Bool := decide (u = 4 ∨ u = 8 ∨ u = 16 ∨ u = 32 ∨ u = 64 ∨ u = 128)
theorem bits_unit : ∀ n : Nat, n < 129 → 4 ≤ n → ((Go.bits .and .i64 (n : Int) ((n : Int) - 1)) == 0) = unitOk n := by decide +kernel
theorem impl_IsUnit_eq (u : Int) : impl_IsUnit.f u = some (unitOk u) := by
 unfold impl_IsUnit.f
 simp only [impl_inRange_eq, Option.bind_some, decide_eq_true_eq]
 split
 ·rename_i h
  obtain ⟨n, rfl⟩ := Int.eq_ofNat_of_zero_le (show 0 ≤ u by omega)
  rw [w64 (by omega) (by omega), bits_unit n (by omega) (by omega)]
 ·simp [unitOk]; omega
theorem spec_IsUnit_ev (u : Int) : Ev (fun k => spec_IsUnit.f k u) (unitOk u) := by
 have h : spec_IsUnit.f 8 u = some (unitOk u) := by
  have w : ∀ n : Nat, n < 10 → wrap64 ((n : Int) + 1) = ((n + 1 : Nat) : Int) := by decide +kernel
  have w0 := w 0 (by omega)
  have w1 := w 1 (by omega)
  have w2 := w 2 (by omega)
  have w3 := w 3 (by omega)
  have w4 := w 4 (by omega)
  have w5 := w 5 (by omega)
  simp only [Int.natCast_zero] at w0
  simp [spec_IsUnit.f, spec_l01Has.f, spec_l01Has.l0, unitOk, rd, wrap64]
  repeat' split
  all_goals (simp_all <;> omega)
 exact Ev.of (spec_IsUnit.mono u) h
end Go.Proofs.YtjfffjklgpookaaGreatDoor.PJ
end
