import Derived.Lib.ItoaLen
import Derived.Lib.ItoaMem
import Derived.Test.YtokpepaoneiepaaGreatDoorCFnSides15
import Derived.Test.YtokpepaoneiepaaGreatDoorCFnSides17
import Derived.Test.YtokpepaoneiepaaGreatDoorCFnSides32
set_option linter.unusedVariables false
set_option linter.unusedSimpArgs false
section
namespace Go.Proofs.YtokpepaoneiepaaGreatDoor.PL
open Go.RowKit Go.Proofs.YtokpepaoneiepaaGreatDoorW.PrintWords Go.Proofs.YtokpepaoneiepaaGreatDoorB
theorem ba_ext {a b : ByteArray} (h : a.data.toList = b.data.toList) : a = b := by
 cases a; cases b; simp only [ByteArray.mk.injEq] at h ⊢; exact Array.toList_inj.1 h
theorem itoaB_data (n : Int) : (itoaB n).data.toList = Lib.itoa n := by simp [itoaB]
theorem itoaB_size (n : Int) : (itoaB n).size = (Lib.itoa n).length := by rw [← itoaB_data]; exact (data_length _).symm
theorem itoaB_le {n : Int} (h0 : -9223372036854775808 ≤ n) (h1 : n ≤ 9223372036854775807) : (itoaB n).size ≤ 21 := by rw [itoaB_size]; exact Lib.itoa_length_le n h0 h1
theorem digit_nums (u : Nat) (h : u < 10) : strOfNums ([(wrap64 (48 + (u : Int))) % 256] : List Int) = ⟨#[UInt8.ofNat (48 + u)]⟩ := by
 refine ba_ext ?_
 rw [strOfNums_data, w64 (by omega) (by omega)]
 have e : ((48 + (u : Int)) % 256).toNat = 48 + u := by omega
 simp [e]
theorem itoaB_nat (u : Nat) : itoaB (u : Int) = ⟨(Lib.decDigits u).toArray⟩ := by rw [itoaB, Lib.itoa_nonneg]
theorem itoaB_small (u : Nat) (h : u < 10) : itoaB (u : Int) = ⟨#[UInt8.ofNat (48 + u)]⟩ := by rw [itoaB_nat, Lib.decDigits_one h]
theorem itoaB_big (u : Nat) (h : ¬ u < 10) : itoaB (u : Int) = itoaB ((u / 10 : Nat) : Int) ++ ⟨#[UInt8.ofNat (48 + u % 10)]⟩ := by
 refine ba_ext ?_
 rw [ByteArray.data_append, Array.toList_append, itoaB_data, itoaB_data, Lib.itoa_nonneg, Lib.itoa_nonneg, Lib.decDigits, dif_neg h]
theorem spec_l01Dec_nat : ∀ (u : Nat), (u : Int) ≤ 9223372036854775807 → Ev (fun k => spec_l01Dec.f k (u : Int)) (itoaB (u : Int)) := by
  intro u
  induction u using Nat.strongRecOn with
  | _ u ih =>
    intro hu
    refine Ev.succ ?_
    simp only [spec_l01Dec.f, Option.bind_some]
    refine Ev.ite (fun h => Ev.eq ?_) (fun h => ?_)
    · rw [digit_nums u (by omega), itoaB_small u (by omega)]
    · have e1 : wrap64 (Int.tdiv (u : Int) 10) = ((u / 10 : Nat) : Int) := by
        rw [show Int.tdiv (u : Int) 10 = ((u / 10 : Nat) : Int) from rfl, w64 (by omega) (by omega)]
      have e2 : Int.tmod (u : Int) 10 = ((u % 10 : Nat) : Int) := rfl
      rw [e1, e2, digit_nums (u % 10) (by omega)]
      have h3 := ih (u / 10) (by omega) (by omega)
      have h4 := itoaB_le (n := ((u / 10 : Nat) : Int)) (by omega) (by omega)
      refine Ev.bind h3 (Ev.pos ?_ (Ev.eq ?_))
      · have : (⟨#[UInt8.ofNat (48 + u % 10)]⟩ : ByteArray).size = 1 := rfl
        omega
      · rw [itoaB_big u (by omega)]
theorem spec_l01Dec_ev {n : Int} (h0 : 0 ≤ n) (h1 : n ≤ 9223372036854775807) : Ev (fun k => spec_l01Dec.f k n) (itoaB n) := by
 obtain ⟨u, rfl⟩ : ∃ u : Nat, n = (u : Int) := ⟨n.toNat, by omega⟩
 exact spec_l01Dec_nat u h1
end Go.Proofs.YtokpepaoneiepaaGreatDoor.PL
end
