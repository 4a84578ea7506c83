-- Gathered by this session's program wip/tool/shake.py out of its own texts and of what the kit's print and the session's patches of it wrote for this claim.
import Derived.Test.YtoiioapkebglgaaDoorCFnJournals14
import Derived.Test.YtoiioapkebglgaaDoorCFnJournals16
import Derived.Test.YtoiioapkebglgaaDoorCFnJournals33
import Derived.Test.YtoiioapkebglgaaDoorCFnJournals34
section
namespace Go.Proofs.YtoiioapkebglgaaDoor.PG
open Go.RowKit Go.Proofs.YtoiioapkebglgaaDoorW.PrintWords Go.Proofs.YtoiioapkebglgaaDoorB
set_option linter.unusedVariables false
set_option linter.unusedSimpArgs false
theorem stepM_kind {a b c d k v : Int} {t : Int × Int × Int × Int} (h : stepM a b c d k v = some t) : (0 ≤ v ∧ v ≤ 1000000000) ∧ (1 ≤ k ∧ k ≤ 4) := by
  unfold stepM at h
  split at h
  · rename_i hv
    refine ⟨by omega, ?_⟩
    by_cases k1 : k = 1
    · omega
    by_cases k2 : k = 2
    · omega
    by_cases k3 : k = 3
    · omega
    by_cases k4 : k = 4
    · omega
    simp [k1, k2, k3, k4] at h
  · cases h
theorem runM_kinds : ∀ (l : List S70) (m : Int × Int × Int × Int) (t : Int × Int × Int × Int), runM m l = some t → ∀ e ∈ l, (0 ≤ e.f1 ∧ e.f1 ≤ 1000000000) ∧ (1 ≤ e.f0 ∧ e.f0 ≤ 4)
  | [], _, _, _ => by intro e he; cases he
  | x :: xs, m, t, h => by
    simp only [runM] at h
    intro e he
    cases hs : stepM m.1 m.2.1 m.2.2.1 m.2.2.2 x.f0 x.f1 with
    | none => rw [hs] at h; cases h
    | some u =>
      rw [hs] at h
      rcases List.mem_cons.1 he with rfl | he
      · exact stepM_kind hs
      · exact runM_kinds xs u t h e he
/-- The check number of an entry with an index. -/
def checkOf (a b i : Int) : Int := Int.tmod (wrap64 ((wrap64 ((wrap64 (7 * a)) + (wrap64 (3 * b)))) + (wrap64 (11 * i)))) 9973
theorem checkOf_range (a b i : Int) : -9973 ≤ checkOf a b i ∧ checkOf a b i ≤ 9973 := by
  unfold checkOf
  have h1 := Int.tmod_lt_of_pos (wrap64 ((wrap64 ((wrap64 (7 * a)) + (wrap64 (3 * b)))) + (wrap64 (11 * i)))) (show (0 : Int) < 9973 by decide)
  have h2 := Int.lt_tmod_of_pos (wrap64 ((wrap64 ((wrap64 (7 * a)) + (wrap64 (3 * b)))) + (wrap64 (11 * i)))) (show (0 : Int) < 9973 by decide)
  omega
/-- The line of an entry with an index. -/
def lineB (a b i : Int) : ByteArray := (((itoaB a ++ (⟨#[32]⟩ : ByteArray)) ++ itoaB b) ++ (⟨#[32]⟩ : ByteArray)) ++ itoaB (checkOf a b i)
theorem t1 : (⟨#[32]⟩ : ByteArray).size = 1 := rfl
theorem t1n : (⟨#[10]⟩ : ByteArray).size = 1 := rfl
theorem lineB_le {a b i : Int} (ha : -1000000000 ≤ a ∧ a ≤ 10000000000) (hb : -1000000000 ≤ b ∧ b ≤ 10000000000) : (lineB a b i).size ≤ 65 := by
  have h1 := itoaB_le (n := a) (by omega) (by omega)
  have h2 := itoaB_le (n := b) (by omega) (by omega)
  have h3 := checkOf_range a b i
  have h4 := itoaB_le (n := checkOf a b i) (by omega) (by omega)
  simp only [lineB, bj_size, t1]; omega
theorem ba_nil_append (a : ByteArray) : (⟨#[]⟩ : ByteArray) ++ a = a := by
  refine ba_ext ?_
  rw [ByteArray.data_append, Array.toList_append]; rfl
theorem spec_l29Line_ev {a b i : Int} (ha : -1000000000 ≤ a ∧ a ≤ 10000000000) (hb : -1000000000 ≤ b ∧ b ≤ 10000000000) : Ev (fun k => spec_l29Line.f k a b i) (lineB a b i) := by
  have h3 := checkOf_range a b i
  unfold spec_l29Line.f
  refine Ev.bind (spec_l01Join_ev (l := [a, b, checkOf a b i]) (by simp) (by decide) ?_) (Ev.eq ?_)
  · intro x hx
    simp only [List.mem_cons, List.not_mem_nil, or_false] at hx
    rcases hx with rfl | rfl | rfl <;> omega
  · simp only [joinFrom, ba_nil_append, if_true, if_neg (show ¬ (0 + 1 = 0) by decide), if_neg (show ¬ (0 + 1 + 1 = 0) by decide), lineB]
theorem impl_entryLine_eq {a b i : Int} (ha : -1000000000 ≤ a ∧ a ≤ 10000000000) (hb : -1000000000 ≤ b ∧ b ≤ 10000000000) : impl_entryLine.f a b i = some (lineB a b i) := by
  have h1 := itoaB_le (n := a) (by omega) (by omega)
  have h2 := itoaB_le (n := b) (by omega) (by omega)
  have h3 := checkOf_range a b i
  have h4 := itoaB_le (n := checkOf a b i) (by omega) (by omega)
  unfold impl_entryLine.f
  rw [impl_decimal_eq (by omega) (by omega)]; simp only [Option.bind_some]
  rw [if_pos (by omega), impl_decimal_eq (by omega) (by omega)]; simp only [Option.bind_some]
  rw [if_pos (by simp only [bj_size, t1]; omega), if_pos (by simp only [bj_size, t1]; omega)]
  have hd : impl_decimal.f (Int.tmod (wrap64 ((wrap64 ((wrap64 (7 * a)) + (wrap64 (3 * b)))) + (wrap64 (11 * i)))) 9973) = some (itoaB (checkOf a b i)) := impl_decimal_eq (n := checkOf a b i) (by omega) (by omega)
  rw [hd]; simp only [Option.bind_some]
  rw [if_pos (by simp only [bj_size, t1]; omega)]
  rfl
end Go.Proofs.YtoiioapkebglgaaDoor.PG
end
