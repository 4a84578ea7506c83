-- Gathered by this session's program wip/tool/shake.py out of its own texts and of what the kit's print and the session's patches of it wrote for this claim.
import Derived.Test.YtoiioapkebglgaaDoorCFnJournals37
import Derived.Test.YtoiioapkebglgaaDoorCFnJournals38
import Derived.Test.YtoiioapkebglgaaDoorCFnJournals39
section
namespace Go.Proofs.YtoiioapkebglgaaDoor.PG
open Go.RowKit Go.Proofs.YtoiioapkebglgaaDoorW.PrintWords Go.Proofs.YtoiioapkebglgaaDoorB
set_option linter.unusedVariables false
set_option linter.unusedSimpArgs false
/-- The lines of entries from an index on. -/
def linesE : List S70 → Nat → List (List UInt8)
  | [], _ => []
  | e :: es, i => (lineB e.f0 e.f1 (i : Int)).data.toList :: linesE es (i + 1)
theorem linesE_length : ∀ (l : List S70) (i : Nat), (linesE l i).length = l.length
  | [], _ => rfl
  | e :: es, i => by simp [linesE, linesE_length es]
theorem linesE_take : ∀ (l : List S70) (i n : Nat), (linesE l i).take n = linesE (l.take n) i
  | [], _, n => by simp [linesE]
  | e :: es, i, 0 => by simp [linesE]
  | e :: es, i, n + 1 => by simp [linesE, linesE_take es]
/-- Lines with their ends. -/
def joinN : List (List UInt8) → List UInt8
  | [] => []
  | x :: xs => x ++ 10 :: joinN xs
theorem journalB_data : ∀ (l : List S70) (i : Nat) (o : ByteArray), (journalB l i o).data.toList = o.data.toList ++ joinN (linesE l i)
  | [], i, o => by simp [journalB, linesE, joinN]
  | e :: es, i, o => by
    rw [journalB, journalB_data es]
    simp only [ByteArray.data_append, Array.toList_append, linesE, joinN, List.append_assoc, List.cons_append, List.nil_append]
theorem splitL_joinN : ∀ (ls : List (List UInt8)), (∀ x ∈ ls, (10 : UInt8) ∉ x) → splitL 10 (joinN ls) = ls ++ [[]]
  | [], _ => rfl
  | x :: xs, h => by
    rw [joinN, splitL_app _ _ (h x (by simp)), splitL_cons_eq, splitL_joinN xs (fun y hy => h y (by simp [hy]))]
    simp [inFront]
/-- The entries of a journal, as far as numbers go. -/
def fine (l : List S70) : Prop := ∀ e ∈ l, (0 ≤ e.f1 ∧ e.f1 ≤ 1000000000) ∧ (1 ≤ e.f0 ∧ e.f0 ≤ 4)
theorem line_no {a b i : Int} (ha : 1 ≤ a ∧ a ≤ 4) (hb : 0 ≤ b ∧ b ≤ 1000000000) (hi : 0 ≤ i ∧ i ≤ 1048576) : (10 : UInt8) ∉ (lineB a b i).data.toList := by
  have h5 := checkOf_nonneg ha hb hi
  have hd (u : Nat) : (10 : UInt8) ∉ Lib.decDigits u := digits_no (by decide)
  rw [line_data, itoa_eq_nat (v := a) (by omega), itoa_eq_nat (v := b) (by omega), itoa_eq_nat h5]
  intro h
  simp only [List.mem_append, List.mem_cons] at h
  rcases h with h | h | h | h | h
  · exact hd _ h
  · exact absurd h (by decide)
  · exact hd _ h
  · exact absurd h (by decide)
  · exact hd _ h
theorem linesE_no : ∀ (l : List S70) (i : Nat), fine l → i + l.length ≤ 1048576 → ∀ x ∈ linesE l i, (10 : UInt8) ∉ x
  | [], _, _, _, x, hx => by cases hx
  | e :: es, i, h, hl, x, hx => by
    simp only [List.length_cons] at hl
    have h1 := h e (by simp)
    rcases List.mem_cons.1 hx with rfl | hx
    · exact line_no h1.2 h1.1 (by omega)
    · exact linesE_no es (i + 1) (fun y hy => h y (by simp [hy])) (by omega) x hx
theorem line_short {a b i : Int} (ha : 1 ≤ a ∧ a ≤ 4) (hb : 0 ≤ b ∧ b ≤ 1000000000) (hi : 0 ≤ i ∧ i ≤ 1048576) : (lineB a b i).size ≤ 17 := by
  have h5 := checkOf_nonneg ha hb hi
  have h6 := checkOf_range a b i
  have e1 : tenTo (0 + 1) = 10 := by decide
  have e2 : tenTo (9 + 1) = 10000000000 := by decide
  have e3 : tenTo (3 + 1) = 10000 := by decide
  have l1 := decDigits_short 0 a.toNat (by omega)
  have l2 := decDigits_short 9 b.toNat (by omega)
  have l3 := decDigits_short 3 (checkOf a b i).toNat (by omega)
  rw [← data_length, line_data, itoa_eq_nat (v := a) (by omega), itoa_eq_nat (v := b) (by omega), itoa_eq_nat h5]
  simp only [List.length_append, List.length_cons]
  omega
theorem joinN_short : ∀ (l : List S70) (i : Nat), fine l → i + l.length ≤ 1048576 → (joinN (linesE l i)).length ≤ 18 * l.length
  | [], _, _, _ => by simp [linesE, joinN]
  | e :: es, i, h, hl => by
    simp only [List.length_cons] at hl
    have h1 := h e (by simp)
    have h2 := line_short (i := (i : Int)) h1.2 h1.1 (by omega)
    have h3 := joinN_short es (i + 1) (fun y hy => h y (by simp [hy])) (by omega)
    rw [← data_length] at h2
    simp only [linesE, joinN, List.length_append, List.length_cons]
    omega
theorem runM_take : ∀ (l : List S70) (n : Nat) (m t : Mach), runM m l = some t → ∃ t', runM m (l.take n) = some t'
  | [], n, m, t, h => ⟨m, by simp [runM]⟩
  | e :: es, 0, m, t, h => ⟨m, by simp [runM]⟩
  | e :: es, n + 1, m, t, h => by
    simp only [runM] at h
    cases hs : stepM m.1 m.2.1 m.2.2.1 m.2.2.2 e.f0 e.f1 with
    | none => rw [hs] at h; cases h
    | some u =>
      rw [hs] at h
      obtain ⟨t', ht⟩ := runM_take es n u t h
      refine ⟨t', ?_⟩
      rw [List.take_succ_cons]
      simp only [runM, hs]
      exact ht
/-- A journal's own lines are taken, all of them. -/
theorem recL_own : ∀ (l : List S70) (i : Nat) (m t : Mach), runM m l = some t → i + l.length ≤ 200 → recL m i (linesE l i) = (l, t)
  | [], i, m, t, h, hl => by
    simp only [runM, Option.some.injEq] at h
    rw [← h]; rfl
  | e :: es, i, m, t, h, hl => by
    simp only [List.length_cons] at hl
    simp only [runM] at h
    cases hs : stepM m.1 m.2.1 m.2.2.1 m.2.2.2 e.f0 e.f1 with
    | none => rw [hs] at h; cases h
    | some u =>
      rw [hs] at h
      have h1 := recL_own es (i + 1) u t h (by omega)
      rw [linesE, recL_take (p := (e, u)) (by omega) ⟨hs, rfl⟩, h1]
theorem splitL_snoc (c : UInt8) (l : List UInt8) : ∃ R q, splitL c l = R ++ [q] ∧ R.length = l.count c := by
  refine ⟨(splitL c l).dropLast, (splitL c l).getLast (splitL_ne c l), (List.dropLast_concat_getLast _).symm, ?_⟩
  rw [List.length_dropLast, splitL_length, Nat.add_sub_cancel]
/-- The lines of a text's beginning are the first lines of the text. -/
theorem lines_cut (x y : List UInt8) (ls : List (List UInt8)) (h : splitL 10 (x ++ y) = ls ++ [[]]) : (splitL 10 x).dropLast = ls.take (x.count 10) := by
  obtain ⟨R, q, h1, h2⟩ := splitL_snoc 10 x
  have h3 := splitL_join x y R q h1
  rw [h] at h3
  have hlen : R.length ≤ ls.length := by
    have h4 := congrArg List.length h3
    have h5 : 0 < (inFront q (splitL 10 y)).length := List.length_pos_iff.2 (inFront_ne _ _)
    simp only [List.length_append, List.length_singleton] at h4
    omega
  rw [h1, List.dropLast_concat, ← h2]
  have h6 := congrArg (List.take R.length) h3
  rw [List.take_append_of_le_length hlen, List.take_append_of_le_length (Nat.le_refl _), List.take_length] at h6
  exact h6.symm
theorem recL_journal {l : List S70} {t : Mach} (h : runM m0 l = some t) (hl : l.length ≤ 200) (n : Nat) (hn : n ≤ (journalB l 0 ⟨#[]⟩).size) :
    (recL m0 0 (linesOf ((journalB l 0 ⟨#[]⟩).extract 0 n))).1 = l.take ((journalB l 0 ⟨#[]⟩).data.toList.take n |>.count 10) := by
  have hd : (journalB l 0 ⟨#[]⟩).data.toList = joinN (linesE l 0) := by rw [journalB_data]; rfl
  have hf : fine l := runM_kinds l _ t h
  have hsp := splitL_joinN (linesE l 0) (linesE_no l 0 hf (by omega))
  have hx : ((journalB l 0 ⟨#[]⟩).extract 0 n).data.toList = (journalB l 0 ⟨#[]⟩).data.toList.take n := by
    rw [extract_list, List.drop_zero]
  unfold linesOf
  rw [hx, hd]
  have hc := lines_cut ((joinN (linesE l 0)).take n) ((joinN (linesE l 0)).drop n) (linesE l 0) (by rw [List.take_append_drop]; exact hsp)
  rw [hc, linesE_take]
  obtain ⟨t', ht⟩ := runM_take l (((joinN (linesE l 0)).take n).count 10) m0 t h
  rw [recL_own _ 0 m0 t' ht (by rw [List.length_take]; omega)]
/-- Two states that differ in the jobs that have ended at most. -/
def alike (m t : Mach) : Prop := m.1 = t.1 ∧ m.2.1 = t.2.1 ∧ m.2.2.1 = t.2.2.1 ∧ t.2.2.2 ≤ m.2.2.2
theorem stepM_alike {m n t : Mach} {k v : Int} (h : alike m n) (hs : stepM m.1 m.2.1 m.2.2.1 m.2.2.2 k v = some t) : ∃ u, stepM n.1 n.2.1 n.2.2.1 n.2.2.2 k v = some u ∧ alike t u := by
  obtain ⟨a, b, c, d⟩ := m
  obtain ⟨a', b', c', d'⟩ := n
  obtain ⟨h1, h2, h3, h4⟩ := h
  simp only at h1 h2 h3 h4 hs ⊢
  subst h1
  subst h2
  subst h3
  unfold stepM at hs ⊢
  split at hs
  · rename_i c0
    rw [if_pos c0]
    split at hs
    · rename_i c1
      rw [if_pos c1]
      split at hs
      · rename_i c2
        cases hs
        rw [if_pos c2]
        exact ⟨_, rfl, rfl, rfl, rfl, h4⟩
      · cases hs
    · rename_i c1
      rw [if_neg c1]
      split at hs
      · rename_i c2
        rw [if_pos c2]
        split at hs
        · rename_i c3
          cases hs
          rw [if_pos c3]
          exact ⟨_, rfl, rfl, rfl, rfl, h4⟩
        · cases hs
      · rename_i c2
        rw [if_neg c2]
        split at hs
        · rename_i c3
          rw [if_pos c3]
          split at hs
          · rename_i c4
            cases hs
            rw [if_pos c4]
            exact ⟨_, rfl, rfl, rfl, rfl, h4⟩
          · cases hs
        · rename_i c3
          rw [if_neg c3]
          split at hs
          · rename_i c4
            rw [if_pos c4]
            split at hs
            · rename_i c5
              cases hs
              rw [if_pos ⟨c5.1, c5.2.1, by omega⟩]
              refine ⟨_, rfl, rfl, rfl, rfl, ?_⟩
              show d' + 1 ≤ d + 1
              omega
            · cases hs
          · cases hs
  · cases hs
theorem runM_alike : ∀ (l : List S70) (m n t : Mach), alike m n → runM m l = some t → ∃ u, runM n l = some u ∧ alike t u
  | [], m, n, t, h, hr => by
    simp only [runM, Option.some.injEq] at hr
    exact ⟨n, rfl, hr ▸ h⟩
  | e :: es, m, n, t, h, hr => by
    simp only [runM] at hr
    cases hs : stepM m.1 m.2.1 m.2.2.1 m.2.2.2 e.f0 e.f1 with
    | none => rw [hs] at hr; cases hr
    | some w =>
      rw [hs] at hr
      obtain ⟨w', h1, h2⟩ := stepM_alike h hs
      obtain ⟨u, h3, h4⟩ := runM_alike es w w' t h2 hr
      refine ⟨u, ?_, h4⟩
      simp only [runM, h1]
      exact h3
theorem runM_ok : ∀ (l : List S70) (m t : Mach), machOk m.1 m.2.1 m.2.2.1 m.2.2.2 = true → runM m l = some t → machOk t.1 t.2.1 t.2.2.1 t.2.2.2 = true
  | [], m, t, h, hr => by
    simp only [runM, Option.some.injEq] at hr
    exact hr ▸ h
  | e :: es, m, t, h, hr => by
    simp only [runM] at hr
    cases hs : stepM m.1 m.2.1 m.2.2.1 m.2.2.2 e.f0 e.f1 with
    | none => rw [hs] at hr; cases hr
    | some w =>
      rw [hs] at hr
      exact runM_ok es w t (stepM_ok h hs) hr
theorem stepM_four {a b c d k v : Int} {t : Mach} (hd : 0 ≤ d) (h : stepM a b c d k v = some t) (hk : k = 4) : alike t m0 := by
  subst hk
  unfold stepM at h
  split at h
  · rw [if_neg (by decide), if_neg (by decide), if_neg (by decide), if_pos rfl] at h
    split at h
    · cases h
      refine ⟨rfl, rfl, rfl, ?_⟩
      show (0 : Int) ≤ d + 1
      omega
    · cases h
  · cases h
/-- Behind the last end the same state is reached from nothing. -/
theorem cut_run : ∀ (l : List S70) (m t : Mach) (f i : Nat), machOk m.1 m.2.1 m.2.2.1 m.2.2.2 = true → runM m l = some t → f ≤ i → cutAt f i l = f ∨ (i < cutAt f i l ∧ ∃ u, runM m0 (l.drop (cutAt f i l - i)) = some u ∧ alike t u)
  | [], m, t, f, i, hm, h, hf => Or.inl rfl
  | e :: es, m, t, f, i, hm, h, hf => by
    simp only [runM] at h
    cases hs : stepM m.1 m.2.1 m.2.2.1 m.2.2.2 e.f0 e.f1 with
    | none => rw [hs] at h; cases h
    | some w =>
      rw [hs] at h
      have hw := stepM_ok hm hs
      simp only [cutAt]
      by_cases c4 : e.f0 = 4
      · rw [if_pos c4]
        have hd : 0 ≤ m.2.2.2 := by
          unfold machOk at hm
          simp only [decide_eq_true_eq] at hm
          omega
        rcases cut_run es w t (i + 1) (i + 1) hw h (Nat.le_refl _) with h1 | ⟨h1, u, h2, h3⟩
        · rw [h1]
          refine Or.inr ⟨by omega, ?_⟩
          have e1 : i + 1 - i = 1 := by omega
          rw [e1, List.drop_succ_cons, List.drop_zero]
          exact runM_alike es w m0 t (stepM_four hd hs c4) h
        · refine Or.inr ⟨by omega, u, ?_, h3⟩
          generalize cutAt (i + 1) (i + 1) es = g at h1 h2
          have e1 : g - i = (g - (i + 1)) + 1 := by omega
          rw [e1, List.drop_succ_cons]
          exact h2
      · rw [if_neg c4]
        rcases cut_run es w t f (i + 1) hw h (by omega) with h1 | ⟨h1, u, h2, h3⟩
        · exact Or.inl h1
        · refine Or.inr ⟨by omega, u, ?_, h3⟩
          generalize cutAt f (i + 1) es = g at h1 h2
          have e1 : g - i = (g - (i + 1)) + 1 := by omega
          rw [e1, List.drop_succ_cons]
          exact h2
theorem cut_top {l : List S70} {t : Mach} (h : runM m0 l = some t) : ∃ u, runM m0 (l.drop (cutAt 0 0 l)) = some u ∧ alike t u := by
  rcases cut_run l m0 t 0 0 (by decide) h (Nat.le_refl _) with h1 | ⟨_, h2⟩
  · rw [h1]
    exact ⟨t, h, rfl, rfl, rfl, Int.le_refl _⟩
  · exact h2
end Go.Proofs.YtoiioapkebglgaaDoor.PG
end
