import Derived.Test.YtjfffjklgpookaaGreatDoorCFnJobs9
import Derived.Test.YtjfffjklgpookaaGreatDoorCFnJobs10
set_option linter.unusedVariables false
set_option linter.unusedSimpArgs false
section
namespace Go.Proofs.YtjfffjklgpookaaGreatDoor.PJ
open Go.RowKit Go.Proofs.YtjfffjklgpookaaGreatDoorW.PrintWords Go.Proofs.YtjfffjklgpookaaGreatDoorW.PrintLast Go.Proofs.YtjfffjklgpookaaGreatDoorW.PrintMore
def joinB (l : List ByteArray) (s : ByteArray) : ByteArray := ⟨(Lib.join (l.map (·.data.toList)) s.data.toList).toArray⟩
def strings_Join.f (l0 : List ByteArray) (a1 : ByteArray) : Option ByteArray := if l0.length ≤ 1000000 ∧ (joinB l0 a1).size ≤ 1000000000 then some (joinB l0 a1) else none
theorem strings_Join.calls (A0 : Option Addr) (c0 : Nat) (l0 : List ByteArray) (a1 : ByteArray) (r : ByteArray) (w : World) (hr0 : Kd.C Kd.string w A0 l0.length l0) (hc0 : l0.length ≤ c0) (h : strings_Join.f l0 a1 = some r) :
    Calls Tryz.prog 24 #[.slice A0 l0.length c0, .string a1] w fun e w' => e = .returned (.string r) ∧ Below w.heap.size w w' := by
  unfold strings_Join.f at h; by_cases hc : l0.length ≤ 1000000 ∧ (joinB l0 a1).size ≤ 1000000000
  · rw [if_pos hc] at h
    obtain rfl := Option.some.inj h; cases l0 with
    | nil =>
      refine (Go.Proofs.Tryz.strings_Join_none A0 c0 a1 w).mono ?_; rintro e w' ⟨rfl, rfl⟩; exact ⟨rfl, Below.refl _ _⟩
    | cons x xs =>
      obtain ⟨ad, e, h0⟩ := Kd.at_string hr0 0 (Int.le_refl 0) (by simp); subst e; have hpos : (0 : Int) < ((x :: xs).length : Int) := by simp
      have hlen : (Lib.join ((x :: xs).map (·.data.toList)) a1.data.toList).length ≤ 140737488355328 := by
        have := hc.2
        have e1 : (joinB (x :: xs) a1).size = (Lib.join ((x :: xs).map (·.data.toList)) a1.data.toList).length := by unfold joinB; rw [ByteArray.size]; simp
        omega
      have hb0 := World.block_lt_of_cell? w _ h0; obtain ⟨bk, off, sub⟩ := ad
      have hsub : sub = none := by
        cases sub with
        | none => rfl
        | some q => simp only [Int.toNat_zero, Addr.add, if_true, World.cell?, Option.isSome_some] at h0; split at h0 <;> cases h0
      subst hsub; refine (Go.Proofs.Tryz.strings_Join bk off c0 (x :: xs) a1 w ?_ (by simpa [Addr.add] using hb0) (by have := hc.1; omega) hc0 hlen).mono ?_
      · intro j y hy
        have hj : j < (x :: xs).length := (List.getElem?_eq_some_iff.1 hy).1; obtain ⟨ad', e', h1⟩ := Kd.at_string hr0 (j : Int) (by omega) (by omega); cases e'; have e2 : rdOf ByteArray.empty (x :: xs) (j : Int) = y := by simp [rdOf, List.getD, hy]
        have e3 : Addr.add ⟨bk, off, none⟩ (j : Int).toNat = ⟨bk, off + j, none⟩ := by
          rw [Int.toNat_natCast]; unfold Addr.add
          split
          · rename_i hz; rw [hz]; rfl
          · rfl
        rw [e2, e3] at h1; exact h1
      · rintro e w' ⟨rfl, hb⟩
        exact ⟨rfl, hb⟩
  · rw [if_neg hc] at h; cases h
end Go.Proofs.YtjfffjklgpookaaGreatDoor.PJ
end
