-- Gathered by this session's program wip/tool/shake.py out of its own texts and of what the kit's print and the session's patches of it wrote for this claim.
import Derived.Sort.LotA
import Derived.Test.YtanokgpnmbbajaaCFnLots18
section
namespace Go.Proofs.Ytanokgpnmbbajaa.Stab
set_option linter.unusedVariables false
section
variable {β : Type} (key : β → Int)
def Asc (l : List β) : Prop := l.Pairwise (fun x y => key x ≤ key y)
def cls (c : Int) (l : List β) : List β := l.filter (fun x => decide (key x = c))
variable {key}
/-- A list in order is known by its classes. -/
theorem asc_unique : ∀ {s t : List β}, Asc key s → Asc key t → (∀ c, cls key c s = cls key c t) → s = t
  | [], [], _, _, _ => rfl
  | [], y :: t, _, _, h => by have := h (key y); simp [cls] at this
  | x :: s, [], _, _, h => by have := h (key x); simp [cls] at this
  | x :: s, y :: t, hs, ht, h => by
    have hs' := List.pairwise_cons.1 hs
    have ht' := List.pairwise_cons.1 ht
    have hx : x ∈ y :: t := by
      have : x ∈ cls key (key x) (x :: s) := by simp [cls]
      rw [h] at this
      exact (List.mem_filter.1 this).1
    have hy : y ∈ x :: s := by
      have : y ∈ cls key (key y) (y :: t) := by simp [cls]
      rw [← h] at this
      exact (List.mem_filter.1 this).1
    have e1 : key y ≤ key x := by
      rcases List.mem_cons.1 hx with rfl | hx
      · omega
      · exact ht'.1 x hx
    have e2 : key x ≤ key y := by
      rcases List.mem_cons.1 hy with rfl | hy
      · omega
      · exact hs'.1 y hy
    have e : key x = key y := by omega
    have h0 := h (key x)
    have hxy : x = y := by
      simp only [cls, List.filter_cons, decide_true, if_true, e] at h0
      exact (List.cons.inj h0).1
    subst hxy
    have ih := asc_unique hs'.2 ht'.2 (fun c => by
      have hc := h c
      simp only [cls, List.filter_cons] at hc ⊢
      split at hc
      · exact (List.cons.inj hc).2
      · exact hc)
    rw [ih]
theorem asc_merge (l : List β) : Asc key (l.mergeSort (byKey key)) := by
  have := List.pairwise_mergeSort (le := byKey key) (fun a b c h1 h2 => by simp only [byKey, decide_eq_true_eq] at *; omega) (fun a b => by simp only [byKey, Bool.or_eq_true, decide_eq_true_eq]; omega) l
  exact this.imp (fun h => by simpa [byKey] using h)
theorem cls_merge (c : Int) (l : List β) : cls key c (l.mergeSort (byKey key)) = cls key c l := by
  have h1 : (cls key c l).Sublist (l.mergeSort (byKey key)) := by
    refine List.sublist_mergeSort (fun a b c h1 h2 => by simp only [byKey, decide_eq_true_eq] at *; omega) (fun a b => by simp only [byKey, Bool.or_eq_true, decide_eq_true_eq]; omega) ?_ List.filter_sublist
    rw [List.pairwise_iff_forall_sublist]
    intro x y hxy
    have hx := (List.mem_filter.1 (hxy.subset (List.mem_cons_self))).2
    have hy := (List.mem_filter.1 (hxy.subset (List.mem_cons_of_mem _ List.mem_cons_self))).2
    simp only [decide_eq_true_eq] at hx hy
    simp only [byKey, decide_eq_true_eq]
    omega
  have h2 := h1.filter (fun x => decide (key x = c))
  have h3 : (cls key c l).filter (fun x => decide (key x = c)) = cls key c l := by unfold cls; rw [List.filter_filter]; congr 1; funext x; simp
  rw [h3] at h2
  have h4 : ((l.mergeSort (byKey key)).filter (fun x => decide (key x = c))).length = (cls key c l).length := ((List.mergeSort_perm l (byKey key)).filter _).length_eq
  exact (h2.eq_of_length h4.symm).symm
theorem merge_of {s l : List β} (hs : Asc key s) (h : ∀ c, cls key c s = cls key c l) : l.mergeSort (byKey key) = s :=
  asc_unique (asc_merge l) hs (fun c => by rw [cls_merge, h])
/-- Behind all that are not greater. -/
def insB (key : β → Int) : List β → β → List β
  | [], x => [x]
  | y :: l, x => if key x < key y then x :: y :: l else y :: insB key l x
theorem mem_insB {z x : β} : ∀ {l : List β}, z ∈ insB key l x → z = x ∨ z ∈ l
  | [], h => by simpa [insB] using h
  | y :: l, h => by
    unfold insB at h
    split at h
    · simpa using h
    · rcases List.mem_cons.1 h with rfl | h
      · exact .inr List.mem_cons_self
      · rcases mem_insB h with h | h
        · exact .inl h
        · exact .inr (List.mem_cons_of_mem _ h)
theorem asc_insB (x : β) : ∀ {l : List β}, Asc key l → Asc key (insB key l x)
  | [], _ => by simp [insB, Asc]
  | y :: l, h => by
    have h' := List.pairwise_cons.1 h
    unfold insB
    split
    · rename_i hxy
      refine List.pairwise_cons.2 ⟨fun z hz => ?_, h⟩
      rcases List.mem_cons.1 hz with rfl | hz
      · omega
      · have := h'.1 z hz; omega
    · rename_i hxy
      refine List.pairwise_cons.2 ⟨fun z hz => ?_, asc_insB x h'.2⟩
      rcases mem_insB hz with rfl | hz
      · omega
      · exact h'.1 z hz
theorem cls_insB (c : Int) (x : β) : ∀ {l : List β}, Asc key l → cls key c (insB key l x) = cls key c l ++ cls key c [x]
  | [], _ => by simp [insB, cls]
  | y :: l, h => by
    have h' := List.pairwise_cons.1 h
    unfold insB
    split
    · rename_i hxy
      by_cases hc : key x = c
      · have : cls key c (y :: l) = [] := by
          unfold cls
          rw [List.filter_eq_nil_iff]
          intro z hz
          have : key y ≤ key z := by
            rcases List.mem_cons.1 hz with rfl | hz
            · omega
            · exact h'.1 z hz
          simp only [decide_eq_true_eq]; omega
        rw [this]
        have e : cls key c (x :: y :: l) = x :: cls key c (y :: l) := by simp [cls, hc]
        rw [e, this]; simp [cls, hc]
      · simp [cls, hc]
    · have ih := cls_insB c x h'.2
      unfold cls at ih ⊢
      rw [List.filter_cons, List.filter_cons, ih]
      split <;> simp
theorem asc_fold : ∀ (l : List β) {a : List β}, Asc key a → Asc key (l.foldl (insB key) a)
  | [], _, h => h
  | x :: l, _, h => asc_fold l (asc_insB x h)
theorem cls_fold (c : Int) : ∀ (l : List β) {a : List β}, Asc key a → cls key c (l.foldl (insB key) a) = cls key c a ++ cls key c l
  | [], a, h => by simp [cls]
  | x :: l, a, h => by
    rw [List.foldl_cons, cls_fold c l (asc_insB x h), cls_insB c x h, List.append_assoc]
    congr 1
    simp only [cls]
    rw [← List.filter_append]; rfl
/-- Inserting one list into a list in order, element by element, sorts the two stably. -/
theorem fold_merge {a : List β} (ha : Asc key a) (l : List β) : l.foldl (insB key) a = (a ++ l).mergeSort (byKey key) :=
  (merge_of (asc_fold l ha) (fun c => by rw [cls_fold c l ha]; simp [cls])).symm
theorem length_insB (x : β) : ∀ (l : List β), (insB key l x).length = l.length + 1
  | [] => rfl
  | y :: l => by unfold insB; split <;> simp [length_insB x l]
end
end Go.Proofs.Ytanokgpnmbbajaa.Stab
end
