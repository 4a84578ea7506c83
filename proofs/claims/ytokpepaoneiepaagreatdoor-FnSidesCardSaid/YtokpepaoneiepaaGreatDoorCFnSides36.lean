import Derived.Test.YtokpepaoneiepaaGreatDoorCFnSides18
import Derived.Test.YtokpepaoneiepaaGreatDoorCFnSides21
import Derived.Test.YtokpepaoneiepaaGreatDoorCFnSides32
set_option linter.unusedVariables false
set_option linter.unusedSimpArgs false
section
namespace Go.Proofs.YtokpepaoneiepaaGreatDoor.PL
open Go.RowKit Go.Proofs.YtokpepaoneiepaaGreatDoorW.PrintWords Go.Proofs.YtokpepaoneiepaaGreatDoorB
def splitL (c : UInt8) : List UInt8 → List (List UInt8)
  | [] => [[]]
  | b :: l => if b = c then [] :: splitL c l else match splitL c l with
    | x :: xs => (b :: x) :: xs
    | [] => [[b]]
theorem splitL_ne (c : UInt8) : ∀ l, splitL c l ≠ []
  | [] => by simp [splitL]
  | b :: l => by
    unfold splitL
    split
    · simp
    · split <;> simp
def inFront (p : List UInt8) : List (List UInt8) → List (List UInt8)
 | x :: xs => (p ++ x) :: xs
 | [] => [p]
theorem inFront_nil {ls : List (List UInt8)} (h : ls ≠ []) : inFront [] ls = ls := by
 cases ls with
 | nil => exact absurd rfl h
 | cons x xs => rfl
theorem splitL_cons_ne {c b : UInt8} (h : ¬ b = c) (l : List UInt8) : splitL c (b :: l) = inFront [b] (splitL c l) := by
 rw [splitL, if_neg h]
 cases splitL c l <;> rfl
theorem splitL_cons_eq (c : UInt8) (l : List UInt8) : splitL c (c :: l) = [] :: splitL c l := by rw [splitL, if_pos rfl]
theorem inFront_inFront (p q : List UInt8) (ls : List (List UInt8)) (h : ls ≠ []) : inFront p (inFront q ls) = inFront (p ++ q) ls := by
 cases ls with
 | nil => exact absurd rfl h
 | cons x xs => simp [inFront]
theorem splitL_app {c : UInt8} : ∀ (p l : List UInt8), c ∉ p → splitL c (p ++ l) = inFront p (splitL c l)
  | [], l, _ => (inFront_nil (splitL_ne c l)).symm
  | b :: p, l, h => by
    have h1 : ¬ b = c := fun e => h (by simp [e])
    have h2 : c ∉ p := fun e => h (by simp [e])
    rw [List.cons_append, splitL_cons_ne h1, splitL_app p l h2, inFront_inFront _ _ _ (splitL_ne c l)]
    rfl
theorem splitL_none {c : UInt8} {p : List UInt8} (h : c ∉ p) : splitL c p = [p] := by
 have := splitL_app p [] h
 rw [List.append_nil] at this
 rw [this]
 simp [splitL, inFront]
theorem splitL_length (c : UInt8) : ∀ l, (splitL c l).length = l.count c + 1
  | [] => rfl
  | b :: l => by
    by_cases h : b = c
    · subst h
      rw [splitL_cons_eq, List.length_cons, splitL_length, List.count_cons_self]
    · rw [splitL_cons_ne h, List.count_cons_of_ne h]
      have := splitL_length c l
      cases hs : splitL c l with
      | nil => exact absurd hs (splitL_ne c l)
      | cons x xs => rw [hs] at this; simpa [inFront] using this
theorem splitK_eq (c : UInt8) : ∀ (k : Nat) (l : List UInt8), l.count c = k → Lib.splitK [c] 0 k l = splitL c l := by
  intro k
  induction k with
  | zero =>
    intro l h
    rw [Lib.splitK, splitL_none (List.count_eq_zero.1 h)]
  | succ k ih =>
    intro l h
    have hm : c ∈ l := List.count_pos_iff.1 (by omega)
    have hi : Lib.index l [c] = Lib.indexByte l c := Lib.index_one l c
    have hge := Lib.indexByte_ge l c
    have hne : ¬ Lib.indexByte l c = -1 := by
      intro e
      obtain ⟨j, hj, hj2⟩ := List.getElem_of_mem hm
      exact Lib.indexByte_none e j (by rw [List.getElem?_eq_getElem hj, hj2])
    obtain ⟨o, ho⟩ : ∃ o : Nat, Lib.indexByte l c = o := ⟨(Lib.indexByte l c).toNat, by omega⟩
    obtain ⟨h1, h2⟩ := Lib.indexByte_some ho
    have hlt : o < l.length := by
      rcases Nat.lt_or_ge o l.length with h | h
      · exact h
      · rw [List.getElem?_eq_none h] at h1; cases h1
    have hl : l = l.take o ++ c :: l.drop (o + 1) := by
      have e1 : l[o] = c := by rw [List.getElem?_eq_getElem hlt] at h1; exact Option.some.inj h1
      rw [← e1, ← List.drop_eq_getElem_cons hlt, List.take_append_drop]
    have hno : c ∉ l.take o := by
      intro hx
      obtain ⟨j, hj, hj2⟩ := List.getElem_of_mem hx
      rw [List.length_take] at hj
      refine h2 j (by omega) ?_
      rw [List.getElem_take] at hj2
      rw [List.getElem?_eq_getElem (by omega), hj2]
    have hcnt : (l.drop (o + 1)).count c = k := by
      have hz := List.count_eq_zero.2 hno
      have hc : l.count c = (l.take o ++ c :: l.drop (o + 1)).count c := congrArg (List.count c) hl
      rw [List.count_append, hz, List.count_cons_self] at hc
      omega
    rw [Lib.splitK, hi, ho, if_neg (by simp), Int.toNat_natCast, Nat.add_zero]
    show l.take o :: Lib.splitK [c] 0 k (l.drop (o + 1)) = _
    rw [ih _ hcnt]
    conv => rhs; rw [hl]
    rw [splitL_app _ _ hno, splitL_cons_eq]
    simp [inFront]
theorem ba_of {a b : ByteArray} (h : a.data.toList = b.data.toList) : a = b := by
 cases a with | mk x => cases b with | mk y => cases x with | mk p => cases y with | mk q => simp at h; rw [h]
def bas (ls : List (List UInt8)) : List ByteArray := ls.map fun l => ⟨l.toArray⟩
theorem bas_of : ∀ (xs : List ByteArray) (ls : List (List UInt8)), xs.map (·.data.toList) = ls → xs = bas ls
  | [], ls, h => by subst h; rfl
  | x :: xs, ls, h => by
    subst h
    simp only [List.map_cons, bas]
    rw [← bas, ← bas_of xs _ rfl]
theorem strings_Split_eq (s : ByteArray) (c : UInt8) (hs : s.size ≤ 1048576) : strings_Split.f s ⟨#[c]⟩ = some (bas (splitL c s.data.toList)) := by
 unfold strings_Split.f
 have h1 : (1 : Nat) ≤ (⟨#[c]⟩ : ByteArray).size := Nat.le_refl _
 rw [if_pos ⟨by omega, h1⟩]
 congr 1
 refine bas_of _ _ ?_
 rw [Lib.splitB_data]
 exact splitK_eq c _ _ (Lib.count_one c _).symm
theorem bas_length (ls : List (List UInt8)) : (bas ls).length = ls.length := by simp [bas]
theorem extract_list (s : ByteArray) (i j : Nat) : s.extract i j = ⟨((s.data.toList.take j).drop i).toArray⟩ := by
 apply ba_of
 rw [ByteArray.data_extract, Array.toList_extract, List.extract_eq_take_drop, List.drop_take]
theorem byteOf (c : UInt8) (x : UInt8) : ((x.toNat : Int) = (c.toNat : Int)) ↔ x = c := by
 constructor
 ·intro h; exact UInt8.toNat_inj.1 (by omega)
 ·rintro rfl; rfl
theorem bt_get' (s : ByteArray) (i : Nat) (h : i < s.data.toList.length) : bt s (i : Int) = ((s.data.toList[i]).toNat : Int) := by
 have h' : i < s.size := by rw [← data_length]; exact h
 unfold bt
 simp only [Int.toNat_natCast]
 rw [dif_pos h']
 rfl
theorem spec_l01Split_l0 (s : ByteArray) (c : UInt8) (hs : s.size ≤ 1048576) : ∀ d i, i + d = s.data.toList.length + 1 → ∀ (f : Nat) (out : List ByteArray), f ≤ i → out.length ≤ i → (i ≤ s.data.toList.length → ∀ x ∈ (s.data.toList.take i).drop f, x ≠ c) →
    Ev (fun k => spec_l01Split.l0 k s (c.toNat : Int) out (f : Int) (i : Int)) (if i ≤ s.data.toList.length then out ++ bas (inFront ((s.data.toList.take i).drop f) (splitL c (s.data.toList.drop i))) else out) := by
  have hsz : s.data.toList.length = s.size := data_length s
  intro d
  induction d with
  | zero =>
    intro i hi f out hf ho hno
    refine Ev.succ ?_
    simp only [spec_l01Split.l0]
    rw [if_neg (by omega)]
    exact Ev.neg (by omega) (Ev.eq rfl)
  | succ d ih =>
    intro i hi f out hf ho hno
    have e1 : wrap64 ((i : Int) + 1) = ((i + 1 : Nat) : Int) := by rw [w64 (by omega) (by omega)]; omega
    have hx := extract_list s f i
    rw [if_pos (by omega)]
    refine Ev.succ ?_
    simp only [spec_l01Split.l0, e1, Int.toNat_natCast]
    refine Ev.pos (by omega) (Ev.ite (fun c1 => ?_) (fun c1 => ?_))
    · have hil : i = s.data.toList.length := by omega
      have h1 := ih (i + 1) (by omega) (i + 1) (out ++ [s.extract f i]) (by omega) (by simp; omega) (fun h => absurd h (by omega))
      rw [if_neg (by omega)] at h1
      refine Ev.pos (by omega) (Ev.pos (by omega) (Ev.pos (by omega) (h1.cast ?_)))
      rw [hx, List.drop_of_length_le (l := s.data.toList) (by omega)]
      simp [splitL, inFront, bas]
    · have hlt : i < s.data.toList.length := by omega
      have hb := bt_get' s i hlt
      have hdr := List.drop_eq_getElem_cons hlt
      have htk : s.data.toList.take (i + 1) = s.data.toList.take i ++ [s.data.toList[i]] := List.take_succ_eq_append_getElem hlt
      generalize hy : (s.data.toList)[i] = y at hb hdr htk
      rw [hdr]
      refine Ev.pos (by omega) (Ev.pos (by omega) (Ev.ite (fun c2 => ?_) (fun c2 => ?_)))
      · have hyc : y = c := (byteOf c y).1 (by rw [← hb]; exact c2)
        subst hyc
        have h1 := ih (i + 1) (by omega) (i + 1) (out ++ [s.extract f i]) (by omega) (by simp; omega) (fun h => by intro x hx; rw [List.drop_of_length_le (by rw [List.length_take]; omega)] at hx; cases hx)
        rw [if_pos (by omega), List.drop_of_length_le (l := s.data.toList.take (i + 1)) (by rw [List.length_take]; omega), inFront_nil (splitL_ne _ _)] at h1
        refine Ev.pos (by omega) (Ev.pos (by omega) (Ev.pos (by omega) (h1.cast ?_)))
        rw [splitL_cons_eq, hx]
        simp [inFront, bas]
      · have hyc : ¬ y = c := fun e => c2 (by rw [hb]; exact (byteOf c y).2 e)
        have happ : (s.data.toList.take (i + 1)).drop f = (s.data.toList.take i).drop f ++ [y] := by
          rw [htk, List.drop_append_of_le_length (by rw [List.length_take]; omega)]
        have h1 := ih (i + 1) (by omega) f out (by omega) (by omega) (fun _ x hx => by
          rw [happ, List.mem_append] at hx
          rcases hx with hx | hx
          · exact hno (by omega) x hx
          · rw [List.mem_singleton] at hx; rw [hx]; exact hyc)
        rw [if_pos (by omega), happ] at h1
        refine h1.cast ?_
        rw [splitL_cons_ne hyc, inFront_inFront _ _ _ (splitL_ne _ _)]
theorem spec_l01Split_ev (s : ByteArray) (c : UInt8) (hs : s.size ≤ 1048576) : Ev (fun k => spec_l01Split.f k s (c.toNat : Int)) (bas (splitL c s.data.toList)) := by
 unfold spec_l01Split.f
 have h := spec_l01Split_l0 s c hs (s.data.toList.length + 1) 0 (by omega) 0 [] (by omega) (by simp) (fun _ x hx => by simp at hx)
 rw [if_pos (by omega)] at h
 refine h.cast ?_
 simp [inFront_nil (splitL_ne _ _)]
end Go.Proofs.YtokpepaoneiepaaGreatDoor.PL
end
