-- Gathered by this session's program wip/tool/shake.py out of its own texts and of what the kit's print and the session's patches of it wrote for this claim.
import Derived.Test.YtoiioapkebglgaaDoorProg
import Derived.ArgAppend
import Derived.Below
import Derived.BigQuiet
import Derived.Deep.AppendLies
import Derived.Deep.CutBlock
import Derived.Deep.DeepCutAuto
import Derived.Deep.Draws
import Derived.Deep.LoopGhost
import Derived.Deep.OwnRows
import Derived.Deep.QuietTactic
import Derived.Deep.RegionHeld3
import Derived.KernelRfl
import Derived.Laws.BitsLemmas
import Derived.Laws.BytesArg
import Derived.Laws.IdiomCopy
import Derived.Laws.MakeOwn
import Derived.Laws.OwnMore
import Derived.Laws.Rows
import Derived.Laws.Slices
import Derived.Laws.StructEq
import Derived.Lib.AppendStr
import Derived.Lib.ConvBytes
import Derived.Maps.AppendAt
import Derived.OrdersHeld
import Derived.OwnWalk
import Derived.RowKit
import Derived.RowKit3
import Derived.Shelf.LaysC
import Derived.Shelf.LaysM
import Derived.Shelf.Small.Strs
import Derived.Shelf.Small.Utf8
import Derived.Shelf.Strconv.Clone
import Derived.Shelf.Strconv.Itoa0
import Derived.Shelf.Strconv.Itoa1
import Derived.Shelf.Strconv.Itoa2
import Derived.Shelf.Strconv.Itoa3
import Derived.Shelf.Strconv.Itoa4
import Derived.Shelf.Strconv.Lower
import Derived.Shelf.Strconv.ParseInt10
import Derived.Shelf.Strconv.ParseInt10All
import Derived.Shelf.Strconv.ParseInt10At16
import Derived.Shelf.Strconv.ParseInt10At32
import Derived.Shelf.Strconv.ParseInt10At64
import Derived.Shelf.Strconv.ParseInt10At8
import Derived.Shelf.Strconv.ParseIntEmpty
import Derived.Shelf.Strconv.ParseIntPublic10
import Derived.Shelf.Strconv.ParseUint10
import Derived.Shelf.Strconv.ParseUint10Any
import Derived.Shelf.Strconv.ParseUint10At
import Derived.Shelf.Strconv.ParseUint10Empty
import Derived.Shelf.Strconv.ParseUint10b16
import Derived.Shelf.Strconv.ParseUint10b32
import Derived.Shelf.Strconv.ParseUint10b64
import Derived.Shelf.Strconv.ParseUint10b8
import Derived.Shelf.Strconv.ParseUintEmpty
import Derived.Shelf.Strconv.RangeError
import Derived.Shelf.Strconv.SyntaxError
import Derived.Shelf.Strconv.ToError
import Derived.Shelf.Strconv.ToErrorRange
import Derived.Shelf.Strings.AsciiSet
import Derived.Shelf.Strings.Builder1
import Derived.Shelf.Strings.BuilderF
import Derived.Shelf.Strings.BuilderK
import Derived.Shelf.Strings.Count
import Derived.Shelf.Strings.Cut
import Derived.Shelf.Strings.Explode
import Derived.Shelf.Strings.RuneCount
import Derived.Shelf.Strings.Runes
import Derived.Shelf.Strings.Search1
import Derived.Shelf.Strings.Search2
import Derived.Shelf.Strings.Search3
import Derived.Shelf.Strings.Shaped
import Derived.Shelf.Strings.SlTrimAscii
import Derived.Shelf.Strings.Split
import Derived.Shelf.Strings.SplitShaped
import Derived.Shelf.Strings.Trim
import Derived.Shelf.Unicode.Decode
import Derived.Shelf.Unicode.DecodeAny
import Derived.Shelf.Unicode.DecodeLast
import Derived.Shelf.Unicode.DecodeSlow
import Derived.Shelf.Utf8.RuneCount
import Derived.Tactics
import Derived.WalkKit
import Derived.WideLaws
import Derived.Test.YtoiioapkebglgaaDoorCIsDesk6
import Derived.Test.YtoiioapkebglgaaDoorCIsDesk10
import Derived.Test.YtoiioapkebglgaaDoorCIsDesk11
import Derived.Test.YtoiioapkebglgaaDoorCIsDesk18
section
namespace Go.Proofs.YtoiioapkebglgaaDoor.PK
open Go.RowKit Go.Proofs.YtoiioapkebglgaaDoorW.PrintWords Go.Proofs.YtoiioapkebglgaaDoorB
set_option linter.unusedVariables false
set_option linter.unusedSimpArgs false
def sideLen (a : Int) : Bool := decide (a = 1 ∨ a = 2 ∨ a = 4 ∨ a = 8)
theorem impl_isSide_eq (a : Int) : impl_isSide.f a = some (sideLen a) := by
  unfold impl_isSide.f sideLen
  repeat' split
  all_goals (congr 1; rw [Bool.eq_iff_iff]; simp only [decide_eq_true_eq, beq_iff_eq, bne_iff_ne, true_iff, false_iff, iff_true, iff_false, Bool.false_eq_true, Bool.and_eq_true, Bool.not_eq_true']; omega)
theorem impl_isSheet_eq (a b : Int) : impl_isSheet.f a b = some (sideLen a && sideLen b) := by
  unfold impl_isSheet.f
  rw [impl_isSide_eq, Option.bind_some]
  cases sideLen a <;> simp [impl_isSide_eq]
theorem within_all {n a b : Int} {l : List Int} (h : (l.length : Int) ≤ n) : allWithin n a b l = l.all (fun x => decide (a ≤ x ∧ x ≤ b)) := by
  unfold allWithin
  rw [decide_eq_true h, Bool.and_true]
end Go.Proofs.YtoiioapkebglgaaDoor.PK
end
section
namespace Go.Proofs.YtoiioapkebglgaaDoor.PK
open Go.RowKit Go.Proofs.YtoiioapkebglgaaDoorW.PrintWords Go.Proofs.YtoiioapkebglgaaDoorB
set_option linter.unusedVariables false
set_option linter.unusedSimpArgs false
/-- How often a side is folded. -/
def expo (a : Int) : Int := if a = 1 then 0 else if a = 2 then 1 else if a = 4 then 2 else if a = 8 then 3 else 0
theorem expo_le (a : Int) : 0 ≤ expo a ∧ expo a ≤ 3 := by
  unfold expo
  split
  · omega
  split
  · omega
  split
  · omega
  split <;> omega
theorem spec_l04Power_expo (a : Int) : spec_l04Power.f a = some (expo a, sideLen a) := by
  unfold spec_l04Power.f expo
  by_cases h1 : a = 1
  · rw [if_pos h1, if_pos h1]; simp [sideLen, h1]
  by_cases h2 : a = 2
  · rw [if_neg h1, if_pos h2, if_neg h1, if_pos h2]; simp [sideLen, h2]
  by_cases h4 : a = 4
  · rw [if_neg h1, if_neg h2, if_pos h4, if_neg h1, if_neg h2, if_pos h4]; simp [sideLen, h4]
  by_cases h8 : a = 8
  · rw [if_neg h1, if_neg h2, if_neg h4, if_pos h8, if_neg h1, if_neg h2, if_neg h4, if_pos h8]; simp [sideLen, h8]
  · rw [if_neg h1, if_neg h2, if_neg h4, if_neg h8, if_neg h1, if_neg h2, if_neg h4, if_neg h8]; simp [sideLen, h1, h2, h4, h8]
theorem impl_halvings_step {a x : Int} {r : Int} (h1 : 1 < a) (h8 : a ≤ 8) (h0 : 0 ≤ x) (h3 : x ≤ 3) (h : Ev (fun k => impl_halvings.l0 k (Int.tdiv a 2) (x + 1)) r) : Ev (fun k => impl_halvings.l0 k a x) r := by
  have e1 : wrap64 (x + 1) = x + 1 := w64 (by omega) (by omega)
  have e2 : wrap64 (Int.tdiv a 2) = Int.tdiv a 2 := by
    rw [Int.tdiv_eq_ediv_of_nonneg (by omega)]
    exact w64 (by omega) (by omega)
  refine Ev.succ ?_
  simp only [impl_halvings.l0, e1, e2]
  exact Ev.pos h1 h
theorem impl_halvings_done {x : Int} : Ev (fun k => impl_halvings.l0 k 1 x) x := by
  refine Ev.succ ?_
  simp only [impl_halvings.l0]
  exact Ev.neg (by omega) (Ev.eq rfl)
theorem impl_halvings_ev {a : Int} (h : sideLen a = true) : Ev (fun k => impl_halvings.f k a) (expo a) := by
  have hs : a = 1 ∨ a = 2 ∨ a = 4 ∨ a = 8 := by simp only [sideLen, decide_eq_true_eq] at h; omega
  have g2 : ∀ x, 0 ≤ x → x ≤ 3 → Ev (fun k => impl_halvings.l0 k 2 x) (x + 1) := fun x h0 h3 => impl_halvings_step (by omega) (by omega) h0 h3 impl_halvings_done
  have g4 : ∀ x, 0 ≤ x → x ≤ 2 → Ev (fun k => impl_halvings.l0 k 4 x) (x + 1 + 1) := fun x h0 h3 => impl_halvings_step (by omega) (by omega) h0 (by omega) (g2 (x + 1) (by omega) (by omega))
  have g8 : ∀ x, 0 ≤ x → x ≤ 1 → Ev (fun k => impl_halvings.l0 k 8 x) (x + 1 + 1 + 1) := fun x h0 h3 => impl_halvings_step (by omega) (by omega) h0 (by omega) (g4 (x + 1) (by omega) (by omega))
  unfold impl_halvings.f
  rcases hs with rfl | rfl | rfl | rfl
  · exact impl_halvings_done
  · exact g2 0 (by omega) (by omega)
  · exact g4 0 (by omega) (by omega)
  · exact g8 0 (by omega) (by omega)
/-- The letters of a scheme. -/
def letter (c : UInt8) : Bool := [76, 82, 84, 66].contains c
def schemeL : List UInt8 → Int → Int → Bool → Bool → Bool
  | [], x, y, o, t => o && t && decide (x = 0) && decide (y = 0)
  | c :: l, x, y, o, t => if c = 76 ∨ c = 82 then schemeL l (x - 1) y o t else if c = 84 ∨ c = 66 then schemeL l x (y - 1) o t else false
def nAlong (l : List UInt8) : Nat := Lib.countByte l 76 + Lib.countByte l 82
theorem schemeL_eq : ∀ (l : List UInt8) (x y : Int) (o t : Bool), schemeL l x y o t = (l.all letter && (o && t) && decide (x = (nAlong l : Int)) && decide (y = (l.length : Int) - (nAlong l : Int)))
  | [], x, y, o, t => by
    have e1 : nAlong [] = 0 := rfl
    simp only [schemeL, e1, List.all_nil, List.length_nil, Bool.true_and]
    rw [show ((0 : Nat) : Int) - ((0 : Nat) : Int) = 0 from rfl, show ((0 : Nat) : Int) = 0 from rfl]
  | c :: l, x, y, o, t => by
    unfold schemeL
    by_cases h1 : c = 76 ∨ c = 82
    · rw [if_pos h1, schemeL_eq l]
      have hl : letter c = true := by rcases h1 with rfl | rfl <;> rfl
      have hn : nAlong (c :: l) = nAlong l + 1 := by
        rcases h1 with rfl | rfl
        · simp [nAlong, Lib.countByte, List.count_cons]; omega
        · simp [nAlong, Lib.countByte, List.count_cons]; omega
      simp only [List.all_cons, hl, hn, Bool.true_and, List.length_cons]
      congr 1
      · congr 1; rw [decide_eq_decide]; omega
      · rw [decide_eq_decide]; omega
    · rw [if_neg h1]
      have hn : nAlong (c :: l) = nAlong l := by
        have g1 : ¬ c = 76 := fun h => h1 (Or.inl h)
        have g2 : ¬ c = 82 := fun h => h1 (Or.inr h)
        simp [nAlong, Lib.countByte, List.count_cons, g1, g2]
      by_cases h2 : c = 84 ∨ c = 66
      · rw [if_pos h2, schemeL_eq l]
        have hl : letter c = true := by rcases h2 with rfl | rfl <;> rfl
        simp only [List.all_cons, hl, hn, Bool.true_and, List.length_cons]
        congr 1
        rw [decide_eq_decide]; omega
      · rw [if_neg h2]
        have hl : letter c = false := by
          simp only [letter, List.contains_cons, List.contains_nil, Bool.or_false, Bool.or_eq_false_iff, beq_eq_false_iff_ne, ne_eq]
          exact ⟨fun h => h1 (Or.inl h), fun h => h1 (Or.inr h), fun h => h2 (Or.inl h), fun h => h2 (Or.inr h)⟩
        simp only [List.all_cons, hl, Bool.false_and]
theorem byte_eq (c : UInt8) (n : Nat) (h : n < 256) : ((c.toNat : Int) = (n : Int)) ↔ c = UInt8.ofNat n := by
  constructor
  · intro e
    have : c.toNat = n := by omega
    rw [← this, UInt8.ofNat_toNat]
  · rintro rfl
    rw [UInt8.toNat_ofNat', Nat.mod_eq_of_lt h]
theorem bt_get (s : ByteArray) (i : Nat) (h : i < s.data.toList.length) : bt s (i : Int) = ((s.data.toList[i]).toNat : Int) := by
  have h' : i < s.size := by rw [← data_length]; exact h
  unfold bt
  simp only [Int.toNat_natCast]
  rw [dif_pos h']
  rfl
theorem spec_IsScheme_l0 (s : ByteArray) (o t : Bool) (hs : s.size ≤ 1048576) : ∀ d i, i + d = s.data.toList.length → ∀ x y : Int, -(i : Int) ≤ x → x ≤ 3 → -(i : Int) ≤ y → y ≤ 3 →
    Ev (fun k => spec_IsScheme.l0 k s x o y t (i : Int)) (schemeL (s.data.toList.drop i) x y o t) := by
  have hsz : s.data.toList.length = s.size := data_length s
  intro d
  induction d with
  | zero =>
    intro i hi x y hx0 hx1 hy0 hy1
    refine Ev.succ ?_
    simp only [spec_IsScheme.l0]
    refine Ev.neg (by omega) (Ev.eq ?_)
    rw [List.drop_of_length_le (by omega)]
    unfold schemeL
    cases o <;> cases t <;> by_cases hx : x = 0 <;> simp [hx] <;> rfl
  | succ d ih =>
    intro i hi x y hx0 hx1 hy0 hy1
    have hlt : i < s.data.toList.length := by omega
    rw [List.drop_eq_getElem_cons hlt]
    have hb := bt_get s i hlt
    generalize (s.data.toList)[i] = c at hb
    have e1 : wrap64 ((i : Int) + 1) = ((i + 1 : Nat) : Int) := by rw [w64 (by omega) (by omega)]; omega
    have e2 : wrap64 (x - 1) = x - 1 := w64 (by omega) (by omega)
    have e3 : wrap64 (y - 1) = y - 1 := w64 (by omega) (by omega)
    have i1 := ih (i + 1) (by omega) (x - 1) y (by omega) (by omega) (by omega) hy1
    have i2 := ih (i + 1) (by omega) x (y - 1) (by omega) hx1 (by omega) (by omega)
    have b76 : ((c.toNat : Int) = 76) ↔ c = 76 := byte_eq c 76 (by omega)
    have b82 : ((c.toNat : Int) = 82) ↔ c = 82 := byte_eq c 82 (by omega)
    have b84 : ((c.toNat : Int) = 84) ↔ c = 84 := byte_eq c 84 (by omega)
    have b66 : ((c.toNat : Int) = 66) ↔ c = 66 := byte_eq c 66 (by omega)
    unfold schemeL
    refine Ev.succ ?_
    simp only [spec_IsScheme.l0, hb]
    refine Ev.pos (by omega) (Ev.pos (by omega) (Ev.ite (fun c1 => Ev.succ ?_) (fun c1 => Ev.succ ?_)))
    · simp only [spec_IsScheme.j1, e1, e2]
      rw [if_pos (Or.inl (b76.1 c1))]
      exact Ev.pos (by rw [c1]; rfl) i1
    · simp only [spec_IsScheme.j1, e1, e2, e3]
      refine Ev.ite (fun c2 => ?_) (fun c2 => ?_)
      · have c3 : (c.toNat : Int) = 82 := by simpa using c2
        rw [if_pos (Or.inr (b82.1 c3))]
        exact i1
      · have c3 : ¬ (c.toNat : Int) = 82 := by simpa using c2
        rw [if_neg (fun h => h.elim (fun h => c1 (b76.2 h)) (fun h => c3 (b82.2 h)))]
        refine Ev.ite (fun c4 => ?_) (fun c4 => Ev.ite (fun c5 => ?_) (fun c5 => Ev.eq ?_))
        · rw [if_pos (Or.inl (b84.1 c4))]; exact i2
        · rw [if_pos (Or.inr (b66.1 c5))]; exact i2
        · rw [if_neg (fun h => h.elim (fun h => c4 (b84.2 h)) (fun h => c5 (b66.2 h)))]
/-- A scheme of a sheet. -/
def schemeOk (a b : Int) (s : ByteArray) : Bool := schemeL s.data.toList (expo a) (expo b) (sideLen a) (sideLen b)
theorem spec_IsScheme_ev (a b : Int) {s : ByteArray} (hs : s.size ≤ 1048576) : Ev (fun k => spec_IsScheme.f k a b s) (schemeOk a b s) := by
  have h1 := expo_le a
  have h2 := expo_le b
  unfold spec_IsScheme.f schemeOk
  exact Ev.bind (Ev.eq (spec_l04Power_expo a)) (Ev.bind (Ev.eq (spec_l04Power_expo b)) (spec_IsScheme_l0 s _ _ hs s.data.toList.length 0 (by omega) _ _ (by simp only; omega) h1.2 (by simp only; omega) h2.2))
theorem dropWhile_nil (p : UInt8 → Bool) : ∀ l : List UInt8, l.dropWhile p = [] ↔ ∀ x ∈ l, p x = true
  | [] => by simp
  | c :: l => by
    rw [List.dropWhile_cons]
    by_cases h : p c = true
    · rw [if_pos h, dropWhile_nil p l]; simp [h]
    · rw [if_neg h]; simp [h]
theorem trim_nil {l cs : List UInt8} : Lib.trimS l cs = [] ↔ l.all (cs.contains ·) = true := by
  unfold Lib.trimS Lib.trimLeftS Lib.trimRightS
  constructor
  · intro h
    rw [dropWhile_nil] at h
    rw [List.all_eq_true]
    have hr : l.reverse.dropWhile (cs.contains ·) = [] := by
      cases hd : l.reverse.dropWhile (cs.contains ·) with
      | nil => rfl
      | cons c r =>
        have h1 := h c (by rw [hd]; simp)
        have h2 := List.head_dropWhile_not (cs.contains ·) (l := l.reverse) (by rw [hd]; simp)
        simp only [hd, List.head_cons] at h2
        simp_all
    rw [dropWhile_nil] at hr
    intro x hx
    exact hr x (by simpa using hx)
  · intro h
    rw [List.all_eq_true] at h
    have hr : l.reverse.dropWhile (cs.contains ·) = [] := by
      rw [dropWhile_nil]
      intro x hx
      exact h x (by simpa using hx)
    rw [hr]; rfl
theorem impl_IsScheme_ev (a b : Int) {s : ByteArray} (hs : s.size ≤ 1048576) : Ev (fun k => impl_IsScheme.f k a b s) (schemeOk a b s) := by
  have hsz : s.data.toList.length = s.size := data_length s
  have x1 := expo_le a
  have x2 := expo_le b
  unfold schemeOk
  rw [schemeL_eq, hsz]
  have n1 : Lib.countByte s.data.toList 76 ≤ s.data.toList.length := List.count_le_length
  have n2 : Lib.countByte s.data.toList 82 ≤ s.data.toList.length := List.count_le_length
  unfold impl_IsScheme.f
  refine Ev.bind (Ev.eq (impl_isSheet_eq a b)) (Ev.ite (fun c1 => ?_) (fun c1 => Ev.succ ?_))
  · have c1' := c1
    rw [Bool.and_eq_true] at c1'
    have hT : strings_Trim.f s (⟨#[76, 82, 84, 66]⟩ : ByteArray) = some ⟨(Lib.trimS s.data.toList [76, 82, 84, 66]).toArray⟩ := by
      unfold strings_Trim.f
      exact if_pos ⟨by omega, by decide, by decide⟩
    have hA : s.data.toList.all letter = s.data.toList.all (([76, 82, 84, 66] : List UInt8).contains ·) := rfl
    refine Ev.bind (Ev.eq hT) (Ev.succ ?_)
    simp only [impl_IsScheme.j0]
    refine Ev.ite (fun c2 => Ev.eq ?_) (fun c2 => ?_)
    · have h3 : ¬ Lib.trimS s.data.toList [76, 82, 84, 66] = [] := by
        intro h
        rw [h, Lib.toList_data] at c2
        exact absurd c2 (by decide)
      have h4 : s.data.toList.all letter = false := by
        rw [hA, Bool.eq_false_iff]
        exact fun h => h3 (trim_nil.2 h)
      rw [h4]; rfl
    · have h3 : Lib.trimS s.data.toList [76, 82, 84, 66] = [] := by
        cases hh : Lib.trimS s.data.toList [76, 82, 84, 66] with
        | nil => rfl
        | cons c l =>
          rw [hh, Lib.toList_data] at c2
          exact absurd (by rfl) c2
      have h4 : s.data.toList.all letter = true := by rw [hA]; exact trim_nil.1 h3
      have q1 : strings_Count.f s (⟨#[76]⟩ : ByteArray) = some ((Lib.countByte s.data.toList 76 : Nat) : Int) := by unfold strings_Count.f; exact if_pos rfl
      have q2 : strings_Count.f s (⟨#[82]⟩ : ByteArray) = some ((Lib.countByte s.data.toList 82 : Nat) : Int) := by unfold strings_Count.f; exact if_pos rfl
      have w1 : wrap64 (((Lib.countByte s.data.toList 76 : Nat) : Int) + ((Lib.countByte s.data.toList 82 : Nat) : Int)) = ((nAlong s.data.toList : Nat) : Int) := by rw [w64 (by omega) (by omega)]; unfold nAlong; omega
      have w2 : wrap64 ((s.size : Int) - ((nAlong s.data.toList : Nat) : Int)) = (s.size : Int) - ((nAlong s.data.toList : Nat) : Int) := by unfold nAlong; rw [w64 (by omega) (by omega)]
      rw [h4, c1'.1, c1'.2]
      refine Ev.bind (Ev.eq q1) (Ev.bind (Ev.eq q2) ?_)
      simp only [w1, w2]
      refine Ev.bind (impl_halvings_ev c1'.1) (Ev.ite (fun c3 => ?_) (fun c3 => Ev.eq ?_))
      · refine Ev.bind (impl_halvings_ev c1'.2) (Ev.eq ?_)
        rw [decide_eq_true c3.symm]
        congr 1
        rw [Bool.eq_iff_iff]
        simp only [beq_iff_eq, Bool.true_and, decide_eq_true_eq]
        omega
      · rw [decide_eq_false (fun h => c3 h.symm)]; rfl
  · simp only [impl_IsScheme.j0]
    refine Ev.pos trivial (Ev.eq ?_)
    have : (sideLen a && sideLen b) = false := Bool.eq_false_iff.2 c1
    rw [this, Bool.and_false]
    rfl
end Go.Proofs.YtoiioapkebglgaaDoor.PK
end
