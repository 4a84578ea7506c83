-- Gathered by this session's program wip/tool/shake.py out of its own texts and of what the kit's print and the session's patches of it wrote for this claim.
import Derived.Test.YtoiioapkebglgaaDoorProg
import Derived.ArgAppend
import Derived.Below
import Derived.BigQuiet
import Derived.Deep.AppendLies
import Derived.Deep.CutBlock
import Derived.Deep.DeepCutAuto
import Derived.Deep.Draws
import Derived.Deep.LoopGhost
import Derived.Deep.OwnRows
import Derived.Deep.QuietTactic
import Derived.Deep.RegionHeld3
import Derived.KernelRfl
import Derived.Laws.BitsLemmas
import Derived.Laws.BytesArg
import Derived.Laws.IdiomCopy
import Derived.Laws.MakeOwn
import Derived.Laws.OwnMore
import Derived.Laws.Rows
import Derived.Laws.Slices
import Derived.Laws.StructEq
import Derived.Lib.AppendStr
import Derived.Lib.ConvBytes
import Derived.Maps.AppendAt
import Derived.OrdersHeld
import Derived.OwnWalk
import Derived.RowKit
import Derived.RowKit3
import Derived.Shelf.LaysC
import Derived.Shelf.LaysM
import Derived.Shelf.Small.Strs
import Derived.Shelf.Small.Utf8
import Derived.Shelf.Strconv.Clone
import Derived.Shelf.Strconv.Itoa0
import Derived.Shelf.Strconv.Itoa1
import Derived.Shelf.Strconv.Itoa2
import Derived.Shelf.Strconv.Itoa3
import Derived.Shelf.Strconv.Itoa4
import Derived.Shelf.Strconv.Lower
import Derived.Shelf.Strconv.ParseInt10
import Derived.Shelf.Strconv.ParseInt10All
import Derived.Shelf.Strconv.ParseInt10At16
import Derived.Shelf.Strconv.ParseInt10At32
import Derived.Shelf.Strconv.ParseInt10At64
import Derived.Shelf.Strconv.ParseInt10At8
import Derived.Shelf.Strconv.ParseIntEmpty
import Derived.Shelf.Strconv.ParseIntPublic10
import Derived.Shelf.Strconv.ParseUint10
import Derived.Shelf.Strconv.ParseUint10Any
import Derived.Shelf.Strconv.ParseUint10At
import Derived.Shelf.Strconv.ParseUint10Empty
import Derived.Shelf.Strconv.ParseUint10b16
import Derived.Shelf.Strconv.ParseUint10b32
import Derived.Shelf.Strconv.ParseUint10b64
import Derived.Shelf.Strconv.ParseUint10b8
import Derived.Shelf.Strconv.ParseUintEmpty
import Derived.Shelf.Strconv.RangeError
import Derived.Shelf.Strconv.SyntaxError
import Derived.Shelf.Strconv.ToError
import Derived.Shelf.Strconv.ToErrorRange
import Derived.Shelf.Strings.AsciiSet
import Derived.Shelf.Strings.Builder1
import Derived.Shelf.Strings.BuilderF
import Derived.Shelf.Strings.BuilderK
import Derived.Shelf.Strings.Count
import Derived.Shelf.Strings.Cut
import Derived.Shelf.Strings.Explode
import Derived.Shelf.Strings.RuneCount
import Derived.Shelf.Strings.Runes
import Derived.Shelf.Strings.Search1
import Derived.Shelf.Strings.Search2
import Derived.Shelf.Strings.Search3
import Derived.Shelf.Strings.Shaped
import Derived.Shelf.Strings.SlTrimAscii
import Derived.Shelf.Strings.Split
import Derived.Shelf.Strings.SplitShaped
import Derived.Shelf.Strings.Trim
import Derived.Shelf.Unicode.Decode
import Derived.Shelf.Unicode.DecodeAny
import Derived.Shelf.Unicode.DecodeLast
import Derived.Shelf.Unicode.DecodeSlow
import Derived.Shelf.Utf8.RuneCount
import Derived.Tactics
import Derived.WalkKit
import Derived.WideLaws
import Derived.Test.YtoiioapkebglgaaDoorCIsDesk6
import Derived.Test.YtoiioapkebglgaaDoorCIsDesk9
import Derived.Test.YtoiioapkebglgaaDoorCIsDesk12
import Derived.Test.YtoiioapkebglgaaDoorCIsDesk13
import Derived.Test.YtoiioapkebglgaaDoorCIsDesk14
import Derived.Test.YtoiioapkebglgaaDoorCIsDesk19
import Derived.Test.YtoiioapkebglgaaDoorCIsDesk20
section
namespace Go.Proofs.YtoiioapkebglgaaDoor.PK
open Go.RowKit Go.Proofs.YtoiioapkebglgaaDoorW.PrintWords Go.Proofs.YtoiioapkebglgaaDoorB
set_option linter.unusedVariables false
set_option linter.unusedSimpArgs false
/-- A book of chapters. -/
def chaptersOk (f : Int) (c : List Int) : Bool := decide (0 ≤ f ∧ f ≤ 40) && (decide (0 < c.length) && allWithin 20 1 200 c)
theorem spec_IsBook_ev (f : Int) {c : List Int} (b : Bool) (hc : c.length ≤ 1048576) : Ev (fun k => spec_IsBook.f k f c b) (chaptersOk f c) := by
  unfold spec_IsBook.f chaptersOk
  refine Ev.bind (Ev.eq (spec_l01In_eq _ _ _)) (Ev.ite (fun c1 => Ev.ite (fun c2 => ?_) (fun c2 => Ev.eq ?_)) (fun c1 => Ev.eq ?_))
  · rw [c1, decide_eq_true (show 0 < c.length by omega), Bool.true_and, Bool.true_and]
    exact Ev.bind (spec_l01Within_ev (by omega) _ _ _) (Ev.eq rfl)
  · rw [decide_eq_false (show ¬ 0 < c.length by omega), Bool.false_and, Bool.and_false]
  · rw [Bool.eq_false_iff.2 c1, Bool.false_and]
theorem impl_length_eq {c : List Int} (hc : c.length ≤ 1048576) : impl_length_int64.f c = some (c.length : Int) := by
  unfold impl_length_int64.f
  first | rfl | (rw [w64 (by omega) (by omega)])
theorem impl_IsBook_eq (f : Int) {c : List Int} (b : Bool) (hc : c.length ≤ 1048576) : impl_IsBook.f f c b = some (chaptersOk f c) := by
  unfold impl_IsBook.f chaptersOk
  rw [impl_inRange_eq, Option.bind_some]
  by_cases c1 : decide (0 ≤ f ∧ f ≤ 40) = true
  · rw [if_pos c1, c1, impl_length_eq hc, Option.bind_some, impl_inRange_eq, Option.bind_some, Bool.true_and]
    by_cases c2 : decide (1 ≤ (c.length : Int) ∧ (c.length : Int) ≤ 20) = true
    · rw [if_pos c2]
      rw [decide_eq_true_eq] at c2
      rw [decide_eq_true (show 0 < c.length by omega), within_all c2.2, Bool.true_and]
      rfl
    · rw [if_neg c2]
      rw [decide_eq_true_eq] at c2
      congr 1
      by_cases c3 : 0 < c.length
      · unfold allWithin
        rw [decide_eq_false (show ¬ (c.length : Int) ≤ 20 by omega), Bool.and_false, Bool.and_false]
      · rw [decide_eq_false c3, Bool.false_and]
  · rw [if_neg c1, Bool.eq_false_iff.2 c1, Bool.false_and]
def deskOk (a b : Int) (s : ByteArray) (f : Int) (c : List Int) (o : List S181) (l : List S184) : Bool := schemeOk a b s && (chaptersOk f c && (bookOk o && stockOk l))
theorem spec_IsDesk_ev (a b : Int) {s : ByteArray} (f : Int) {c : List Int} (r : Bool) {o : List S181} {l : List S184} (hs : s.size ≤ 1048576) (hc : c.length ≤ 1048576) (ho : o.length ≤ 1048576) (hl : l.length ≤ 1048576) :
    Ev (fun k => spec_IsDesk.f k a b s f c r o l) (deskOk a b s f c o l) := by
  unfold spec_IsDesk.f deskOk
  refine Ev.bind (spec_IsScheme_ev a b hs) (Ev.ite (fun c1 => ?_) (fun c1 => Ev.eq (by rw [Bool.eq_false_iff.2 c1, Bool.false_and])))
  rw [c1, Bool.true_and]
  refine Ev.bind (spec_IsBook_ev f r hc) (Ev.ite (fun c2 => ?_) (fun c2 => Ev.eq (by rw [Bool.eq_false_iff.2 c2, Bool.false_and])))
  rw [c2, Bool.true_and]
  refine Ev.bind (spec_IsOrderBook_ev (by omega)) (Ev.ite (fun c3 => ?_) (fun c3 => Ev.eq (by rw [Bool.eq_false_iff.2 c3, Bool.false_and])))
  rw [c3, Bool.true_and]
  exact Ev.bind (spec_IsStock_ev (by omega)) (Ev.eq rfl)
theorem impl_IsDesk_ev (a b : Int) {s : ByteArray} (f : Int) {c : List Int} (r : Bool) {o : List S181} {l : List S184} (hs : s.size ≤ 1048576) (hc : c.length ≤ 1048576) (ho : o.length ≤ 1048576) (hl : l.length ≤ 1048576) :
    Ev (fun k => impl_IsDesk.f k a b s f c r o l) (deskOk a b s f c o l) := by
  unfold impl_IsDesk.f deskOk
  refine Ev.bind (impl_IsScheme_ev a b hs) (Ev.ite (fun c1 => ?_) (fun c1 => Ev.eq (by rw [Bool.eq_false_iff.2 c1, Bool.false_and])))
  rw [c1, Bool.true_and]
  refine Ev.bind (Ev.eq (impl_IsBook_eq f r hc)) (Ev.ite (fun c2 => ?_) (fun c2 => Ev.eq (by rw [Bool.eq_false_iff.2 c2, Bool.false_and])))
  rw [c2, Bool.true_and]
  refine Ev.bind (impl_IsOrderBook_ev (by omega)) (Ev.ite (fun c3 => ?_) (fun c3 => Ev.eq (by rw [Bool.eq_false_iff.2 c3, Bool.false_and])))
  rw [c3, Bool.true_and]
  exact Ev.bind (impl_IsStock_ev (by omega)) (Ev.eq rfl)
theorem less {m : Int} {n : Nat} (h0 : 0 ≤ m) (h1 : m ≤ 9223372036854775807) (hn : n ≤ 9223372036854775807) : wrap64 (m - (n : Int)) = m - (n : Int) := w64 (by omega) (by omega)
theorem laws_szBook_eq (f : Int) {c : List Int} (b : Bool) {m : Int} (hc : c.length ≤ 9223372036854775807) (h0 : 0 ≤ m) (h1 : m ≤ 9223372036854775807) : laws_szBook.f f c b m = some (if m - c.length < 0 then -1 else m - c.length) := by
  unfold laws_szBook.f
  rw [laws_szInt64S_eq hc h0 h1, Option.bind_some]
  by_cases h : m - (c.length : Int) < 0
  · simp only [if_pos h]; rfl
  · simp only [if_neg h]
theorem laws_szOrders_eq {o : List S187} {m : Int} (hc : o.length ≤ 9223372036854775807) (h0 : 0 ≤ m) (h1 : m ≤ 9223372036854775807) : laws_szOrderS.f o m = some (if m - o.length < 0 then -1 else m - o.length) := by
  unfold laws_szOrderS.f
  rw [less h0 h1 hc]
  by_cases h : m - (o.length : Int) < 0
  · simp only [if_pos h]
  · simp only [if_neg h]
theorem laws_szLots_eq {o : List S189} {m : Int} (hc : o.length ≤ 9223372036854775807) (h0 : 0 ≤ m) (h1 : m ≤ 9223372036854775807) : laws_szLotS.f o m = some (if m - o.length < 0 then -1 else m - o.length) := by
  unfold laws_szLotS.f
  rw [less h0 h1 hc]
  by_cases h : m - (o.length : Int) < 0
  · simp only [if_pos h]
  · simp only [if_neg h]
theorem laws_szDesk_eq (a b : Int) {s : ByteArray} (f : Int) {c : List Int} (r : Bool) {o : List S187} {l : List S189} (hs : s.size ≤ 9223372036854775807) (hc : c.length ≤ 9223372036854775807) (ho : o.length ≤ 9223372036854775807) (hl : l.length ≤ 9223372036854775807) :
    ∃ v, laws_szDesk.f a b s f c r o l 1048576 = some v ∧ (0 ≤ v → s.size ≤ 1048576 ∧ c.length ≤ 1048576 ∧ o.length ≤ 1048576 ∧ l.length ≤ 1048576) := by
  unfold laws_szDesk.f
  rw [less (by omega) (by omega) hs]
  by_cases g1 : (1048576 : Int) - (s.size : Int) < 0
  · rw [if_pos g1]; exact ⟨_, rfl, by omega⟩
  rw [if_neg g1, laws_szBook_eq f r hc (by omega) (by omega), Option.bind_some]
  by_cases g2 : (1048576 : Int) - (s.size : Int) - (c.length : Int) < 0
  · rw [if_pos g2, if_pos (by omega)]; exact ⟨_, rfl, by omega⟩
  rw [if_neg g2, if_neg g2, laws_szOrders_eq ho (by omega) (by omega), Option.bind_some]
  by_cases g3 : (1048576 : Int) - (s.size : Int) - (c.length : Int) - (o.length : Int) < 0
  · rw [if_pos g3, if_pos (by omega)]; exact ⟨_, rfl, by omega⟩
  rw [if_neg g3, if_neg g3, laws_szLots_eq hl (by omega) (by omega), Option.bind_some]
  by_cases g4 : (1048576 : Int) - (s.size : Int) - (c.length : Int) - (o.length : Int) - (l.length : Int) < 0
  · rw [if_pos g4, if_pos (by omega)]; exact ⟨_, rfl, by omega⟩
  rw [if_neg g4, if_neg g4]
  exact ⟨_, rfl, by omega⟩
theorem laws_toDesk_ev (a b : Int) (s : ByteArray) (f : Int) {c : List Int} (r : Bool) {o : List S187} {l : List S189} (hc : c.length ≤ 1048576) (ho : o.length ≤ 1048576) (hl : l.length ≤ 1048576) :
    Ev (fun k => laws_toDesk.f k a b s f c r o l) (a, b, s, f, c, r, o.map toOrder, l.map toLot) := by
  unfold laws_toDesk.f laws_toBook.f
  exact Ev.bind (Ev.bind (laws_toInt64S_ev hc) (Ev.eq rfl)) (Ev.bind (laws_toOrderS_ev ho) (Ev.bind (laws_toLotS_ev hl) (Ev.eq rfl)))
theorem laws_eqDesk_refl (a b : Int) (s : ByteArray) (f : Int) {c : List Int} (r : Bool) {o : List S181} {l : List S184} (hc : c.length ≤ 1048576) (ho : o.length ≤ 1048576) (hl : l.length ≤ 1048576) :
    Ev (fun k => laws_eqDesk.f k a b s f c r o l a b s f c r o l) true := by
  unfold laws_eqDesk.f laws_eqBook.f
  refine Ev.pos rfl (Ev.pos rfl (Ev.pos rfl (Ev.bind (Ev.pos rfl (Ev.bind (laws_eqInt64S_refl (by omega)) (Ev.pos rfl (Ev.neg (by simp) (Ev.eq rfl))))) (Ev.pos rfl (Ev.bind (laws_eqOrderS_refl (by omega)) (Ev.pos rfl (Ev.bind (laws_eqLotS_refl (by omega)) (Ev.pos rfl (Ev.eq rfl)))))))))
end Go.Proofs.YtoiioapkebglgaaDoor.PK
end
section
namespace Go.Proofs.YtoiioapkebglgaaDoor.Pure
open Go.RowKit Go.Proofs.YtoiioapkebglgaaDoorW.PrintWords Go.Proofs.YtoiioapkebglgaaDoorB Go.Proofs.YtoiioapkebglgaaDoor.PK
set_option linter.unusedVariables false
set_option linter.unusedSimpArgs false
theorem FnExactIsDesk : laws_FnExactIsDesk.Pure := by
  intro a b s f c r o l ha hb hs hf hc ho hl
  obtain ⟨v, h1, h2⟩ := laws_szDesk_eq a b f r hs hc.1 ho.1 hl.1
  refine Ev.rounds (g := fun k => laws_FnExactIsDesk.f k a b s f c r o l) ?_
  unfold laws_FnExactIsDesk.f
  refine Ev.bind (Ev.eq h1) (Ev.ite (fun _ => Ev.eq rfl) (fun hr => ?_))
  obtain ⟨g1, g2, g3, g4⟩ := h2 (by omega)
  have m1 : (o.map toOrder).length ≤ 1048576 := by rw [List.length_map]; exact g3
  have m2 : (l.map toLot).length ≤ 1048576 := by rw [List.length_map]; exact g4
  have s0 := laws_toDesk_ev a b s f r g2 g3 g4
  have s1 := spec_IsDesk_ev a b f r g1 g2 m1 m2
  have s2 := impl_IsDesk_ev a b f r g1 g2 m1 m2
  have s3 := laws_eqDesk_refl a b s f r g2 m1 m2
  exact Ev.bind s0 (Ev.bind s1 (Ev.bind s0 (Ev.bind s2 (Ev.neg (by simp) (Ev.bind s0 (Ev.bind s3 (Ev.pos rfl (Ev.eq rfl))))))))
end Go.Proofs.YtoiioapkebglgaaDoor.Pure
end
