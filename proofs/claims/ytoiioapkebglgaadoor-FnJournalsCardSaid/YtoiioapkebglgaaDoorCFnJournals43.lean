-- Gathered by this session's program wip/tool/shake.py out of its own texts and of what the kit's print and the session's patches of it wrote for this claim.
import Derived.Test.YtoiioapkebglgaaDoorCFnJournals25
import Derived.Test.YtoiioapkebglgaaDoorCFnJournals26
import Derived.Test.YtoiioapkebglgaaDoorCFnJournals27
import Derived.Test.YtoiioapkebglgaaDoorCFnJournals33
section
namespace Go.Proofs.YtoiioapkebglgaaDoor.PG
open Go.RowKit Go.Proofs.YtoiioapkebglgaaDoorW.PrintWords Go.Proofs.YtoiioapkebglgaaDoorB
set_option linter.unusedVariables false
set_option linter.unusedSimpArgs false
/-- The faults of a station, counted. -/
def cnt : List S70 → List Int → List Int
  | [], c => c
  | x :: xs, c => cnt xs (if x.f0 = 3 then c.set x.f1.toNat (wrap64 (rd c x.f1 + 1)) else c)
theorem runM_faults : ∀ (l : List S70) (m t : Int × Int × Int × Int), runM m l = some t → ∀ x ∈ l, x.f0 = 3 → 0 ≤ x.f1 ∧ x.f1 < 12
  | [], _, _, _, x, hx, _ => by cases hx
  | y :: ys, m, t, h, x, hx, h3 => by
    simp only [runM] at h
    cases hs : stepM m.1 m.2.1 m.2.2.1 m.2.2.2 y.f0 y.f1 with
    | none => rw [hs] at h; cases h
    | some q =>
      rw [hs] at h
      rcases List.mem_cons.1 hx with rfl | hx
      · unfold stepM at hs
        split at hs
        · rw [if_neg (show ¬ x.f0 = 1 by omega), if_neg (show ¬ x.f0 = 2 by omega)] at hs
          try rw [if_pos h3] at hs
          split at hs
          · omega
          · cases hs
        · cases hs
      · exact runM_faults ys _ t h x hx h3
/-- The best place: from place i on, the first whose number is larger than all before. -/
def bst (c : List Int) : Nat → Nat → Nat → Nat
  | 0, _, b => b
  | d + 1, i, b => bst c d (i + 1) (if c.getD i 0 > c.getD b 0 then i else b)
theorem bst_spec (c : List Int) : ∀ (d i b : Nat), i + d = c.length → b < c.length → (∀ j, j < b → c.getD j 0 < c.getD b 0) → (∀ j, j < i → c.getD j 0 ≤ c.getD b 0) →
    bst c d i b < c.length ∧ (∀ j, j < bst c d i b → c.getD j 0 < c.getD (bst c d i b) 0) ∧ c.getD (bst c d i b) 0 = foldMx (c.drop i) (c.getD b 0)
  | 0, i, b, hi, hb, h1, h2 => by
    have : c.drop i = [] := List.drop_eq_nil_of_le (by omega)
    rw [this]
    exact ⟨hb, h1, rfl⟩
  | d + 1, i, b, hi, hb, h1, h2 => by
    rw [getD_drop c 0 i (by omega)]
    simp only [bst, foldMx]
    by_cases h : c.getD i 0 > c.getD b 0
    · have hm : mx (c.getD b 0) (c.getD i 0) = c.getD i 0 := by unfold mx; rw [if_pos h]
      rw [if_pos h, hm]
      refine bst_spec c d (i + 1) i (by omega) (by omega) (fun j hj => ?_) (fun j hj => ?_)
      · have := h2 j hj; omega
      · rcases Nat.lt_or_ge j i with h3 | h3
        · have := h2 j h3; omega
        · have : j = i := by omega
          subst this; exact Int.le_refl _
    · have hm : mx (c.getD b 0) (c.getD i 0) = c.getD b 0 := by unfold mx; rw [if_neg h]
      rw [if_neg h, hm]
      refine bst_spec c d (i + 1) b (by omega) hb h1 (fun j hj => ?_)
      rcases Nat.lt_or_ge j i with h3 | h3
      · exact h2 j h3
      · have : j = i := by omega
        subst this; omega
def place (c : List Int) : Nat := bst c c.length 0 0
def worst (c : List Int) : Int × Int × Int := if c.getD (place c) 0 = 0 then (0, 0, 4) else ((place c : Int), c.getD (place c) 0, 0)
theorem spec_WorstStation_l1 (c : List Int) (hc : c.length ≤ 1000) : ∀ d i b : Nat, i + d = c.length → b < c.length →
    Ev (fun k => spec_WorstStation.l1 k c (b : Int) (i : Int)) (if c.getD (bst c d i b) 0 = 0 then (0, 0, 4) else ((bst c d i b : Int), c.getD (bst c d i b) 0, 0)) := by
  intro d
  induction d with
  | zero =>
    intro i b hi hb
    rw [show bst c 0 i b = b from rfl]
    refine Ev.succ ?_
    simp only [spec_WorstStation.l1, rd_nat]
    refine Ev.neg (by omega) (Ev.pos (by omega) (Ev.pos (by omega) (Ev.ite (fun h => Ev.eq ?_) (fun h => Ev.eq ?_))))
    · rw [if_pos h]
    · rw [if_neg h]
  | succ d ih =>
    intro i b hi hb
    have e1 : wrap64 ((i : Int) + 1) = ((i + 1 : Nat) : Int) := by rw [w64 (by omega) (by omega)]; omega
    refine Ev.succ ?_
    simp only [spec_WorstStation.l1, rd_nat, e1]
    refine Ev.pos (by omega) (Ev.pos (by omega) (Ev.pos (by omega) (Ev.pos (by omega) (Ev.ite (fun h => ?_) (fun h => ?_)))))
    · refine (ih (i + 1) i (by omega) (by omega)).cast ?_
      rw [show bst c (d + 1) i b = bst c d (i + 1) (if c.getD i 0 > c.getD b 0 then i else b) from rfl, if_pos h]
    · refine (ih (i + 1) b (by omega) hb).cast ?_
      rw [show bst c (d + 1) i b = bst c d (i + 1) (if c.getD i 0 > c.getD b 0 then i else b) from rfl, if_neg h]
theorem slices_Index_first (c : List Int) (M : Int) (hc : c.length ≤ 1000) (B : Nat) (hB : B < c.length) (hM : c.getD B 0 = M) : ∀ d i, i + d = B → (∀ j, i ≤ j → j < B → c.getD j 0 ≠ M) →
    Ev (fun k => slices_Index_int64_int64.l0 k c M (c.length : Int) (i : Int)) (B : Int) := by
  intro d
  induction d with
  | zero =>
    intro i hi hj
    have : i = B := by omega
    subst this
    refine Ev.succ ?_
    simp only [slices_Index_int64_int64.l0, rd_nat]
    exact Ev.pos (by omega) (Ev.pos (by omega) (Ev.pos (by omega) (Ev.pos hM.symm (Ev.eq rfl))))
  | succ d ih =>
    intro i hi hj
    have e1 : wrap64 ((i : Int) + 1) = ((i + 1 : Nat) : Int) := by rw [w64 (by omega) (by omega)]; omega
    refine Ev.succ ?_
    simp only [slices_Index_int64_int64.l0, rd_nat, e1]
    exact Ev.pos (by omega) (Ev.pos (by omega) (Ev.pos (by omega) (Ev.neg (fun h => hj i (Nat.le_refl _) (by omega) h.symm) (ih (i + 1) (by omega) (fun j h1 h2 => hj j (by omega) h2)))))
theorem impl_tail (c : List Int) (h0 : 0 < c.length) (hc : c.length ≤ 1000) : Ev (fun k => (slices_Max_int64_int64.f c).bind fun t170 => (if t170 = 0 then (some ((0 : Int), (0 : Int), (4 : Int))) else ((slices_Index_int64_int64.f k c t170).bind fun t171 => (some (t171, t170, 0))))) (worst c) := by
  have hb := bst_spec c c.length 0 0 (by omega) h0 (fun j hj => by omega) (fun j hj => by omega)
  have hm : slices_Max_int64_int64.f c = some (c.getD (place c) 0) := by
    unfold slices_Max_int64_int64.f
    rw [if_neg (by omega)]
    congr 1
    have h3 := hb.2.2
    rw [getD_drop c 0 0 h0] at h3
    simp only [foldMx] at h3
    have e : mx (c.getD 0 0) (c.getD 0 0) = c.getD 0 0 := by unfold mx; split <;> rfl
    rw [e] at h3
    unfold place
    rw [h3]
    rfl
  unfold worst
  refine Ev.bind (Ev.eq hm) (Ev.ite (fun h => Ev.eq ?_) (fun h => ?_))
  · rw [if_pos h]
  · rw [if_neg h]
    refine Ev.bind (a := (place c : Int)) ?_ (Ev.eq rfl)
    unfold slices_Index_int64_int64.f
    refine slices_Index_first c _ hc (place c) hb.1 rfl (place c) 0 (by omega) (fun j _ hj => ?_)
    have := hb.2.1 j hj
    unfold place
    omega
theorem spec_WorstStation_l0 (l : List S70) (hl : l.length ≤ 200) (hf : ∀ x ∈ l, x.f0 = 3 → 0 ≤ x.f1 ∧ x.f1 < 12) : ∀ d i, i + d = l.length → ∀ c : List Int, c.length = 12 →
    Ev (fun k => spec_WorstStation.l0 k l c (i : Int)) (worst (cnt (l.drop i) c)) := by
  intro d
  induction d with
  | zero =>
    intro i hi c hc
    refine Ev.succ ?_
    simp only [spec_WorstStation.l0]
    have : l.drop i = [] := List.drop_eq_nil_of_le (by omega)
    rw [this]
    exact Ev.neg (by omega) (spec_WorstStation_l1 c (by omega) c.length 0 0 (by omega) (by omega))
  | succ d ih =>
    intro i hi c hc
    rw [getD_drop l z70 i (by omega)]
    have hx := hf _ (getD_mem l z70 i (by omega))
    have e1 : wrap64 ((i : Int) + 1) = ((i + 1 : Nat) : Int) := by rw [w64 (by omega) (by omega)]; omega
    refine Ev.succ ?_
    simp only [spec_WorstStation.l0, rd_Entry, e1]
    generalize l.getD i z70 = x at hx ⊢
    refine Ev.pos (by omega) (Ev.pos (by omega) (Ev.ite (fun h => Ev.pos (hx h).1 (Ev.pos (by have := hx h; omega) ?_)) (fun h => ?_)))
    · refine (ih (i + 1) (by omega) _ (by simpa using hc)).cast ?_
      simp only [cnt]; rw [if_pos h]
    · refine (ih (i + 1) (by omega) c hc).cast ?_
      simp only [cnt]; rw [if_neg h]
theorem impl_WorstStation_l0 (l : List S70) (hl : l.length ≤ 200) (hf : ∀ x ∈ l, x.f0 = 3 → 0 ≤ x.f1 ∧ x.f1 < 12) : ∀ d i, i + d = l.length → ∀ c : List Int, c.length = 12 →
    Ev (fun k => impl_WorstStation.l0 k c l (l.length : Int) (i : Int)) (worst (cnt (l.drop i) c)) := by
  intro d
  induction d with
  | zero =>
    intro i hi c hc
    refine Ev.succ ?_
    simp only [impl_WorstStation.l0]
    have : l.drop i = [] := List.drop_eq_nil_of_le (by omega)
    rw [this]
    exact Ev.neg (by omega) (impl_tail c (by omega) (by omega))
  | succ d ih =>
    intro i hi c hc
    rw [getD_drop l z70 i (by omega)]
    have hx := hf _ (getD_mem l z70 i (by omega))
    have e1 : wrap64 ((i : Int) + 1) = ((i + 1 : Nat) : Int) := by rw [w64 (by omega) (by omega)]; omega
    refine Ev.succ ?_
    simp only [impl_WorstStation.l0, rd_Entry, e1]
    generalize l.getD i z70 = x at hx ⊢
    refine Ev.pos (by omega) (Ev.pos (by omega) (Ev.pos (by omega) (Ev.ite (fun h => Ev.pos (hx h).1 (Ev.pos (by have := hx h; omega) ?_)) (fun h => ?_))))
    · refine (ih (i + 1) (by omega) _ (by simpa using hc)).cast ?_
      simp only [cnt]; rw [if_pos h]
    · refine (ih (i + 1) (by omega) c hc).cast ?_
      simp only [cnt]; rw [if_neg h]
theorem endM_faults {n : Nat} {l : List S70} {m : Int × Int × Int × Int} (h : (endM n (runM m l)).2.2.2.2 = true) : n ≤ 200 ∧ ∀ x ∈ l, x.f0 = 3 → 0 ≤ x.f1 ∧ x.f1 < 12 := by
  cases ho : runM m l with
  | none => rw [ho] at h; cases h
  | some t =>
    rw [ho] at h
    simp only [endM, decide_eq_true_eq] at h
    exact ⟨by omega, runM_faults l m t ho⟩
def worstOf (l : List S70) : Int × Int × Int := if (endM l.length (runM (0, 0, 0, 0) l)).2.2.2.2 = true then worst (cnt l (List.replicate 12 0)) else (0, 0, 1)
theorem spec_WorstStation_ev {l : List S70} (hl : l.length ≤ 9223372036854775806) : Ev (fun k => spec_WorstStation.f k l) (worstOf l) := by
  unfold spec_WorstStation.f worstOf
  refine Ev.bind (spec_l29Run_ev hl) (Ev.ite (fun h => Ev.pos (by omega) ?_) (fun h => Ev.eq (by rw [if_neg h])))
  rw [if_pos h]
  have h2 := endM_faults h
  exact (spec_WorstStation_l0 l h2.1 h2.2 l.length 0 (by omega) _ (by simp)).cast (by simp)
theorem impl_WorstStation_ev {l : List S70} (hl : l.length ≤ 9223372036854775806) : Ev (fun k => impl_WorstStation.f k l) (worstOf l) := by
  unfold impl_WorstStation.f worstOf
  refine Ev.bind (impl_runEntries_ev hl) (Ev.ite (fun h => Ev.pos (by omega) ?_) (fun h => Ev.eq (by rw [if_neg h])))
  rw [if_pos h]
  have h2 := endM_faults h
  exact (impl_WorstStation_l0 l h2.1 h2.2 l.length 0 (by omega) _ (by simp)).cast (by simp)
end Go.Proofs.YtoiioapkebglgaaDoor.PG
end
