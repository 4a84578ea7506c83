-- Gathered by this session's program wip/tool/shake.py out of its own texts and of what the kit's print and the session's patches of it wrote for this claim.
import Derived.ArgAppend
import Derived.Below
import Derived.BigQuiet
import Derived.Deep.AppendLies
import Derived.Deep.CutBlock
import Derived.Deep.DeepCutAuto
import Derived.Deep.Draws
import Derived.Deep.LoopGhost
import Derived.Deep.OwnRows
import Derived.Deep.QuietTactic
import Derived.Deep.RegionHeld3
import Derived.KernelRfl
import Derived.Laws.BytesArg
import Derived.Laws.IdiomCopy
import Derived.Laws.MakeOwn
import Derived.Laws.OwnMore
import Derived.Laws.Rows
import Derived.Laws.Slices
import Derived.Lib.AppendStr
import Derived.Lib.ConvBytes
import Derived.Maps.AppendAt
import Derived.OwnWalk
import Derived.RowKit
import Derived.RowKit3
import Derived.Shelf.SlSortCmp.KitK
import Derived.Tactics
import Derived.WalkKit
import Derived.WideLaws
import Derived.Test.YtanokgpnmbbajaaCFnLots1
section
namespace Go.Proofs.Ytanokgpnmbbajaa.RowKk
open Go.Sort Go.Proofs.YtanokgpnmbbajaaW.PrintWords
set_option linter.unusedVariables false
set_option linter.unusedSectionVars false
section
variable {α : Type} {enc : α → List Value} {k : Nat}
theorem flatMap_get (hk : ∀ x, (enc x).length = k) [Inhabited α] : ∀ (l : List α) (t : Nat), t < l.length * k → (l.flatMap enc)[t]? = some ((enc l[t / k]!)[t % k]!)
  | [], t, h => by simp at h
  | x :: l, t, h => by
    have k0 : 0 < k := by rcases Nat.eq_zero_or_pos k with h0 | h0
                          · subst h0; simp at h
                          · exact h0
    rw [List.flatMap_cons]
    by_cases c : t < k
    · rw [List.getElem?_append_left (by rw [hk]; exact c), Nat.div_eq_of_lt c, Nat.mod_eq_of_lt c, List.getElem?_eq_getElem (by rw [hk]; exact c)]
      congr 1
      rw [getElem!_pos (x :: l) 0 (by simp), getElem!_pos _ t (by simp [hk, c])]
      rfl
    · rw [List.getElem?_append_right (by rw [hk]; omega), hk, flatMap_get hk l (t - k) (by simp only [List.length_cons, Nat.add_mul, Nat.one_mul] at h; omega)]
      congr 1
      have e1 : t / k = (t - k) / k + 1 := by rw [Nat.div_eq_sub_div k0 (by omega)]
      have e2 : t % k = (t - k) % k := Nat.mod_eq_sub_mod (by omega)
      rw [e1, e2]
      congr 2
theorem flatMap_len (hk : ∀ x, (enc x).length = k) : ∀ l : List α, (l.flatMap enc).length = l.length * k
  | [] => by simp
  | x :: l => by rw [List.flatMap_cons, List.length_append, hk, flatMap_len hk l, List.length_cons, Nat.add_mul, Nat.one_mul, Nat.add_comm]
theorem flat_list [Inhabited α] (hk : ∀ x, (enc x).length = k) (l : List α) : (flatK enc k l.toArray).toList = l.flatMap enc := by
  apply List.ext_getElem?
  intro t
  by_cases c : t < l.length * k
  · rw [flatMap_get hk l t c, Array.getElem?_toList, Array.getElem?_eq_getElem (by simpa using c)]
    congr 1
    rw [← getElem!_pos (flatK enc k l.toArray) t (by simpa using c), get_flatK _ _ _ _ (by simpa using c)]
    simp
  · rw [List.getElem?_eq_none (by simp; omega), List.getElem?_eq_none (by rw [flatMap_len hk]; omega)]
/-- A ghost beside each element is not to be seen in the cells. -/
theorem flat_map {β : Type} [Inhabited α] [Inhabited β] (f : β → α) (d : Array β) : flatK (fun p => enc (f p)) k d = flatK enc k (d.map f) := by
  refine ext_get! (by simp) fun t ht => ?_
  have ht' : t < d.size * k := by simpa using ht
  have k0 : 0 < k := by rcases Nat.eq_zero_or_pos k with h | h
                        · subst h; simp at ht'
                        · exact h
  have hj : t / k < d.size := Nat.div_lt_of_lt_mul (by rw [Nat.mul_comm]; exact ht')
  rw [get_flatK _ _ _ t ht', get_flatK _ _ _ t (by simpa using ht'), getElem!_pos d (t / k) hj, getElem!_pos (d.map f) (t / k) (by simpa using hj)]
  simp
theorem reps_flat {R : α → List Value → Prop} (hR : ∀ x cs, R x cs → cs = enc x) : ∀ (l : List α) (inner : List Value), (hk : ∀ x, (enc x).length = k) → Reps R k l inner → inner = l.flatMap enc
  | [], inner, _, h => by have := h.1; simp at this; subst this; rfl
  | x :: l, inner, hk, h => by
    have h0 := hR _ _ (h.2 0 x rfl)
    have hl := h.1
    simp only [List.length_cons, Nat.add_mul, Nat.one_mul] at hl
    rw [Nat.zero_mul, List.drop_zero] at h0
    have ht : Reps R k l (inner.drop k) := ⟨by rw [List.length_drop]; omega, fun j p hj => by
      have := h.2 (j + 1) p (by simpa using hj)
      rwa [Nat.add_mul, Nat.one_mul, Nat.add_comm, ← List.drop_drop] at this⟩
    have ih := reps_flat hR l _ hk ht
    rw [List.flatMap_cons, ← ih, ← h0, List.take_append_drop]
theorem flat_reps {R : α → List Value → Prop} (hR : ∀ x, R x (enc x)) (hk : ∀ x, (enc x).length = k) (l : List α) : Reps R k l (l.flatMap enc) := by
  suffices ∀ l : List α, Reps R k l.reverse (l.reverse.flatMap enc) by have := this l.reverse; rwa [List.reverse_reverse] at this
  intro l
  induction l with
  | nil => exact Reps.none _ _
  | cons x l ih => rw [List.reverse_cons, List.flatMap_append]; simp only [List.flatMap_cons, List.flatMap_nil, List.append_nil]; exact ih.snoc (hR x) (hk x)
end
section
variable {α β : Type} [Inhabited α] [Inhabited β] {enc : α → List Value} {d : Kd α} {e base n c g : Nat} {ok : Nat → Prop} {w W : World} {l : List α}
/-- The row that is owned, in the shelf's word; beside each element a ghost. -/
theorem holds_of_R (hk : ∀ x, (enc x).length = d.sz) (hM : ∀ w b ok x cs, d.M w b ok x cs → cs = enc x) (h : d.R e w base ok (.slice (some ⟨g, 0, none⟩) n c) l) (f : β → α) (m : Array β) (hm : (m.map f).toList = l) :
    HoldsK (fun p => enc (f p)) d.sz w g 0 m ∧ g < w.heap.size ∧ m.size = n ∧ n = l.length := by
  obtain ⟨_, inner, ho, hr⟩ := h
  have hi := reps_flat (hM _ _ _) l inner hk hr
  have hml : m.size = l.length := by rw [← hm]; simp
  rcases ho.2 with ⟨he, _⟩ | ⟨g', cap, cur, he, hg, hh, h1, h2, h3, h4⟩
  · cases he
  · injection he with ea en ec
    injection ea with ea
    injection ea with ea
    subst ea
    refine ⟨?_, (Array.getElem?_eq_some_iff.1 hh).1, by omega, en⟩
    unfold HoldsK
    rw [flat_map]
    have hfl : (flatK enc d.sz (m.map f)).toList = l.flatMap enc := by
      rw [show m.map f = l.toArray from by rw [← hm]]
      exact flat_list hk l
    intro j hj
    have hj' : j < l.length * d.sz := by simpa [hml] using hj
    refine ⟨?_, by simp [World.frozen?, hh]⟩
    have e1 : (cur.toList.take (l.length * d.sz))[j]? = (flatK enc d.sz (m.map f)).toList[j]? := by rw [h4, hi, hfl]
    rw [List.getElem?_take_of_lt hj', Array.getElem?_toList, Array.getElem?_toList] at e1
    simp only [World.cell?, hh, Nat.zero_add, Option.isSome_none, Bool.false_eq_true, if_false]
    rw [e1, Array.getElem?_eq_getElem (by simpa [hml] using hj'), getElem!_pos _ j (by simpa [hml] using hj')]
    rfl
/-- What a world of the row's class leaves as it was. -/
theorem SWK_keep {enc : β → List Value} {k : Nat} {m : Array β} (h : SWK enc k w g 0 m W) : KeepBut w W g none := by
  obtain ⟨n, os, rfl⟩ := h
  unfold sortWorldK putRowK
  refine ⟨by simp, fun i hi hne _ => ?_⟩
  rw [heap_grow_old _ _ (by simpa using hi)]
  simp [putRow, mapBlock, Sort.ahead, Array.getElem?_modify, Ne.symm hne]
theorem SWK_below {enc : β → List Value} {k B : Nat} {m : Array β} (h : SWK enc k w g 0 m W) (hB : B ≤ g) (hw : B ≤ w.heap.size) : Go.RowKit.Below B w W := by
  have hk := SWK_keep h
  obtain ⟨n, os, rfl⟩ := h
  exact ⟨rfl, rfl, rfl, hk.1, fun i hi => hk.2 i (by omega) (by omega) (by simp)⟩
theorem take_put (cur F : Array Value) (h : F.size ≤ cur.size) : (putCells id 0 F cur).toList.take F.size = F.toList := by
  apply List.ext_getElem?
  intro j
  by_cases hj : j < F.size
  · rw [List.getElem?_take_of_lt hj, Array.getElem?_toList, Array.getElem?_toList]
    simp [putCells, hj, show j < cur.size by omega]
  · rw [List.getElem?_take_eq_none (by omega), List.getElem?_eq_none (by simp; omega)]
/-- In a world of the row's class the same slice owns what the row holds now. -/
theorem R_of_SWK (hk : ∀ x, (enc x).length = d.sz) (hM : ∀ w b ok x, d.M w b ok x (enc x)) (h : d.R e w base ok (.slice (some ⟨g, 0, none⟩) n c) l) (f : β → α) (m : Array β) (hms : m.size = n) (hS : SWK (fun p => enc (f p)) d.sz w g 0 m W) :
    d.R e W base ok (.slice (some ⟨g, 0, none⟩) n c) (m.map f).toList := by
  obtain ⟨h0, inner, ho, hr⟩ := h
  obtain ⟨q, os, rfl⟩ := hS
  have hml : (m.map f).toList.length = n := by simpa using hms
  have hfl : (flatK enc d.sz (m.map f)).toList = (m.map f).toList.flatMap enc := by
    exact flat_list hk (m.map f).toList
  refine ⟨h0, (m.map f).toList.flatMap enc, ?_, flat_reps (fun x => hM _ _ _ x) hk _⟩
  rcases ho.2 with ⟨he, _⟩ | ⟨g', cap, cur, he, hg, hh, h1, h2, h3, h4⟩
  · cases he
  · injection he with ea en ec
    injection ea with ea
    injection ea with ea
    subst ea en ec
    refine ⟨by rw [flatMap_len hk], .inr ⟨g, c, putCells id 0 (flatK (fun p => enc (f p)) d.sz m) cur, by rw [hml], hg, ?_, by rw [hml]; exact h1, h2, by simpa [putCells] using h3, ?_⟩⟩
    · unfold sortWorldK putRowK
      rw [heap_grow_old _ _ (by simpa using (Array.getElem?_eq_some_iff.1 hh).1)]
      simp [putRow, mapBlock, Sort.ahead, Array.getElem?_modify, hh, onCells]
    · rw [hml, ← hfl, flat_map]
      have hsz : (flatK enc d.sz (m.map f)).size = l.length * d.sz := by simp [hms]
      rw [← hsz]
      exact take_put cur _ (by rw [hsz, h3]; exact Nat.mul_le_mul_right _ h1)
end
/-- A call that has only drawn and laid blocks. -/
def Grew (w w' : World) : Prop := ∃ q os, w' = grow (w.drewN q) os
theorem Grew.refl (w : World) : Grew w w := ⟨0, #[], (grow_empty _).symm⟩
theorem Grew.drew {w w' : World} (h : Grew w w') : Grew w w'.drew := by
  obtain ⟨q, os, rfl⟩ := h
  exact ⟨q + 1, os, rfl⟩
theorem Grew.drewN {w w' : World} (h : Grew w w') (m : Nat) : Grew w (w'.drewN m) := by
  obtain ⟨q, os, rfl⟩ := h
  refine ⟨q + m, os, ?_⟩
  show { w with heap := w.heap ++ os, drawn := w.drawn + q + m } = { w with heap := w.heap ++ os, drawn := w.drawn + (q + m) }
  rw [Nat.add_assoc]
theorem Grew.alloc {w w' : World} (h : Grew w w') (o : Obj) : Grew w (w'.alloc o) := by
  obtain ⟨q, os, rfl⟩ := h
  exact ⟨q, os ++ #[o], by rw [alloc_eq_grow, grow_grow]⟩
theorem Grew.trans {a b c : World} (h : Grew a b) (k : Grew b c) : Grew a c := by
  obtain ⟨q, os, rfl⟩ := h
  obtain ⟨q2, os2, rfl⟩ := k
  refine ⟨q + q2, os ++ os2, ?_⟩
  show { a with heap := (a.heap ++ os) ++ os2, drawn := a.drawn + q + q2 } = { a with heap := a.heap ++ (os ++ os2), drawn := a.drawn + (q + q2) }
  rw [Nat.add_assoc, Array.append_assoc]
end Go.Proofs.Ytanokgpnmbbajaa.RowKk
end
