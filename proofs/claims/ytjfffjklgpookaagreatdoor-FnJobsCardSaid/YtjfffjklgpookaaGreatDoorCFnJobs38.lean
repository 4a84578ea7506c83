import Derived.Test.YtjfffjklgpookaaGreatDoorCFnJobs29
set_option linter.unusedVariables false
set_option linter.unusedSimpArgs false
section
namespace Go.Proofs.YtjfffjklgpookaaGreatDoor.PJ
open Go.RowKit Go.Proofs.YtjfffjklgpookaaGreatDoorW.PrintWords Go.Proofs.YtjfffjklgpookaaGreatDoorB
theorem bj_size (a b : ByteArray) : (a ++ b).size = a.size + b.size := ByteArray.size_append
def joinFrom (s : ByteArray) : Nat → ByteArray → List Int → ByteArray
 | _, o, [] => o
 | i, o, x :: xs => joinFrom s (i + 1) ((if i = 0 then o else o ++ s) ++ itoaB x) xs
theorem spec_l01Join_l0 (l : List Int) (s : ByteArray) (hl : l.length ≤ 1000000) (hs : s.size ≤ 1000) (hx : ∀ x ∈ l, -9223372036854775807 ≤ x ∧ x ≤ 9223372036854775807) : ∀ d i, i + d = l.length → ∀ o : ByteArray, o.size ≤ 2000 * i →
    Ev (fun k => spec_l01Join.l0 k l s o (i : Int)) (joinFrom s i o (l.drop i)) := by
  intro d
  induction d with
  | zero =>
    intro i hi o ho
    refine Ev.succ ?_
    simp only [spec_l01Join.l0]
    have : l.drop i = [] := List.drop_eq_nil_of_le (by omega)
    rw [this]
    exact Ev.neg (by omega) (Ev.eq rfl)
  | succ d ih =>
    intro i hi o ho
    have hm := getD_mem l 0 i (by omega)
    rw [getD_drop l 0 i (by omega)]
    have e1 : wrap64 ((i : Int) + 1) = ((i + 1 : Nat) : Int) := by rw [w64 (by omega) (by omega)]; omega
    refine Ev.succ ?_
    simp only [spec_l01Join.l0, rd_nat, e1]
    generalize l.getD i 0 = x at hm
    have hx1 := hx x hm
    have h2 := itoaB_le (n := x) (by omega) (by omega)
    refine Ev.pos (by omega) (Ev.ite (fun h => ?_) (fun h => ?_))
    · refine Ev.pos (by omega) (Ev.pos (by omega) (Ev.bind (spec_l01Number_ev hx1.1 hx1.2) (Ev.pos (by simp only [bj_size]; omega) ?_)))
      refine (ih (i + 1) (by omega) _ (by simp only [bj_size]; omega)).cast ?_
      simp only [joinFrom, if_neg (show ¬ i = 0 by omega)]
    · have e0 : i = 0 := by omega
      refine Ev.pos (by omega) (Ev.bind (spec_l01Number_ev hx1.1 hx1.2) (Ev.pos (by omega) ?_))
      refine (ih (i + 1) (by omega) _ (by simp only [bj_size]; omega)).cast ?_
      simp only [joinFrom, if_pos e0]
theorem spec_l01Join_ev {l : List Int} {s : ByteArray} (hl : l.length ≤ 1000000) (hs : s.size ≤ 1000) (hx : ∀ x ∈ l, -9223372036854775807 ≤ x ∧ x ≤ 9223372036854775807) :
  Ev (fun k => spec_l01Join.f k l s) (joinFrom s 0 ⟨#[]⟩ l) := by
 unfold spec_l01Join.f
 exact (spec_l01Join_l0 l s hl hs hx l.length 0 (by omega) _ (by decide)).cast (by simp)
end Go.Proofs.YtjfffjklgpookaaGreatDoor.PJ
end
