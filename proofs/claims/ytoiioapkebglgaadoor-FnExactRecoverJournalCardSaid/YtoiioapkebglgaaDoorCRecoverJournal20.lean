-- Gathered by this session's program wip/tool/shake.py out of its own texts and of what the kit's print and the session's patches of it wrote for this claim.
import Derived.Test.YtoiioapkebglgaaDoorProg
import Derived.ArgAppend
import Derived.Below
import Derived.BigQuiet
import Derived.Deep.AppendLies
import Derived.Deep.CutBlock
import Derived.Deep.DeepCutAuto
import Derived.Deep.Draws
import Derived.Deep.LoopGhost
import Derived.Deep.OwnRows
import Derived.Deep.QuietTactic
import Derived.Deep.RegionHeld3
import Derived.KernelRfl
import Derived.Laws.BitsLemmas
import Derived.Laws.BytesArg
import Derived.Laws.IdiomCopy
import Derived.Laws.MakeOwn
import Derived.Laws.OwnMore
import Derived.Laws.Rows
import Derived.Laws.Slices
import Derived.Laws.StructEq
import Derived.Lib.AppendIntMem
import Derived.Lib.AppendStr
import Derived.Lib.ConvBytes
import Derived.Lib.ItoaNum
import Derived.Lib.SmallJoins
import Derived.Lib.SplitLaws
import Derived.Maps.AppendAt
import Derived.OrdersHeld
import Derived.OwnWalk
import Derived.RowKit
import Derived.RowKit3
import Derived.Shelf.LaysC
import Derived.Shelf.LaysM
import Derived.Shelf.Slices.Turned
import Derived.Shelf.Small.Strs
import Derived.Shelf.Small.Utf8
import Derived.Shelf.Small.Wraps
import Derived.Shelf.Strconv.Clone
import Derived.Shelf.Strconv.Itoa0
import Derived.Shelf.Strconv.Itoa1
import Derived.Shelf.Strconv.Itoa2
import Derived.Shelf.Strconv.Itoa3
import Derived.Shelf.Strconv.Itoa4
import Derived.Shelf.Strconv.Lower
import Derived.Shelf.Strconv.ParseInt10
import Derived.Shelf.Strconv.ParseInt10All
import Derived.Shelf.Strconv.ParseInt10At16
import Derived.Shelf.Strconv.ParseInt10At32
import Derived.Shelf.Strconv.ParseInt10At64
import Derived.Shelf.Strconv.ParseInt10At8
import Derived.Shelf.Strconv.ParseIntEmpty
import Derived.Shelf.Strconv.ParseIntPublic10
import Derived.Shelf.Strconv.ParseUint10
import Derived.Shelf.Strconv.ParseUint10Any
import Derived.Shelf.Strconv.ParseUint10At
import Derived.Shelf.Strconv.ParseUint10Empty
import Derived.Shelf.Strconv.ParseUint10b16
import Derived.Shelf.Strconv.ParseUint10b32
import Derived.Shelf.Strconv.ParseUint10b64
import Derived.Shelf.Strconv.ParseUint10b8
import Derived.Shelf.Strconv.ParseUintEmpty
import Derived.Shelf.Strconv.RangeError
import Derived.Shelf.Strconv.SyntaxError
import Derived.Shelf.Strconv.ToError
import Derived.Shelf.Strconv.ToErrorRange
import Derived.Shelf.Strings.AsciiSet
import Derived.Shelf.Strings.Builder1
import Derived.Shelf.Strings.BuilderCap
import Derived.Shelf.Strings.BuilderF
import Derived.Shelf.Strings.BuilderK
import Derived.Shelf.Strings.Count
import Derived.Shelf.Strings.Cut
import Derived.Shelf.Strings.Prefix
import Derived.Shelf.Strings.Runes
import Derived.Shelf.Strings.Search1
import Derived.Shelf.Strings.Search2
import Derived.Shelf.Strings.Search3
import Derived.Shelf.Strings.Shaped
import Derived.Shelf.Strings.Split
import Derived.Shelf.Strings.SplitShaped
import Derived.Shelf.Strings.Trim
import Derived.Shelf.Unicode.DecodeSlow
import Derived.Tactics
import Derived.WalkKit
import Derived.WideLaws
import Derived.Test.YtoiioapkebglgaaDoorCRecoverJournal6
import Derived.Test.YtoiioapkebglgaaDoorCRecoverJournal9
import Derived.Test.YtoiioapkebglgaaDoorCRecoverJournal12
import Derived.Test.YtoiioapkebglgaaDoorCRecoverJournal15
import Derived.Test.YtoiioapkebglgaaDoorCRecoverJournal16
import Derived.Test.YtoiioapkebglgaaDoorCRecoverJournal19
section
namespace Go.Proofs.YtoiioapkebglgaaDoor.PJ
open Go.RowKit Go.Proofs.YtoiioapkebglgaaDoorW.PrintWords Go.Proofs.YtoiioapkebglgaaDoorB
theorem spec_l01In_eq (a b c : Int) : spec_l01In.f a b c = some (decide (b ≤ a ∧ a ≤ c)) := by
  unfold spec_l01In.f
  split <;> simp <;> omega
theorem impl_inRange_eq (a b c : Int) : impl_inRange.f a b c = some (decide (b ≤ a ∧ a ≤ c)) := by
  unfold impl_inRange.f
  split <;> simp <;> omega
end Go.Proofs.YtoiioapkebglgaaDoor.PJ
end
section
namespace Go.Proofs.YtoiioapkebglgaaDoor.PJ
open Go.RowKit Go.Proofs.YtoiioapkebglgaaDoorW.PrintWords Go.Proofs.YtoiioapkebglgaaDoorB
set_option linter.unusedVariables false
set_option linter.unusedSimpArgs false
/-- A machine's state is valid. -/
def machOk (a b c d : Int) : Bool := decide (0 ≤ a ∧ a ≤ 1000000000 ∧ 0 ≤ b ∧ b ≤ 1000000 ∧ 0 ≤ c ∧ c ≤ 1000000 ∧ 0 ≤ d ∧ d ≤ 1000000000 ∧ (0 < a ∨ (b = 0 ∧ c = 0)))
/-- The state after an entry, where it is possible. -/
def stepM (a b c d k v : Int) : Option (Int × Int × Int × Int) :=
  if 0 ≤ v ∧ v ≤ 1000000000 then
    if k = 1 then (if a = 0 ∧ 1 ≤ v then some (v, b, c, d) else none)
    else if k = 2 then (if 0 < a ∧ b + v ≤ 1000000 then some (a, b + v, c, d) else none)
    else if k = 3 then (if 0 < a ∧ v < 12 ∧ c + 1 ≤ 1000000 then some (a, b, c + 1, d) else none)
    else if k = 4 then (if 0 < a ∧ v = b ∧ d < 1000000000 then some (0, 0, 0, d + 1) else none)
    else none
  else none
theorem stepM_ok {a b c d k v : Int} (hm : machOk a b c d = true) {t : Int × Int × Int × Int} (h : stepM a b c d k v = some t) : machOk t.1 t.2.1 t.2.2.1 t.2.2.2 = true := by
  unfold machOk at hm ⊢
  simp only [decide_eq_true_eq] at hm ⊢
  unfold stepM at h
  split at h
  · split at h
    · split at h
      · cases h; simp only; omega
      · cases h
    · split at h
      · split at h
        · cases h; simp only; omega
        · cases h
      · split at h
        · split at h
          · cases h; simp only; omega
          · cases h
        · split at h
          · split at h
            · cases h; simp; omega
            · cases h
          · cases h
  · cases h
/-- What a step function tells: the state where it is possible; whether it is. -/
def Tells (r : Int × Int × Int × Int × Bool) (s : Option (Int × Int × Int × Int)) : Prop :=
  match s with
  | none => r.2.2.2.2 = false
  | some t => r = (t.1, t.2.1, t.2.2.1, t.2.2.2, true)
theorem spec_l29Make_eq {a b c d k v : Int} (hm : machOk a b c d = true) : ∃ r, spec_l29Make.f a b c d k v = some r ∧ Tells r (stepM a b c d k v) := by
  unfold machOk at hm
  simp only [decide_eq_true_eq] at hm
  unfold spec_l29Make.f stepM
  simp only [spec_l01In_eq, Option.bind_some, decide_eq_true_eq]
  by_cases h0 : 0 ≤ v ∧ v ≤ 1000000000
  · rw [if_pos h0, if_pos h0]
    have e1 : wrap64 (b + v) = b + v := w64 (by omega) (by omega)
    have e2 : wrap64 (c + 1) = c + 1 := w64 (by omega) (by omega)
    have e3 : wrap64 (d + 1) = d + 1 := w64 (by omega) (by omega)
    rw [e1, e2, e3]
    repeat' split
    all_goals (refine ⟨_, rfl, ?_⟩; simp only [Tells]; first | done | (simp; omega) | omega)
  · rw [if_neg h0, if_neg h0]
    exact ⟨_, rfl, rfl⟩
theorem impl_after_ev {a b c d k v : Int} (hm : machOk a b c d = true) : ∃ r, Ev (fun n => impl_after.f n a b c d k v) r ∧ Tells r (stepM a b c d k v) := by
  unfold machOk at hm
  simp only [decide_eq_true_eq] at hm
  have e1 : 0 ≤ v ∧ v ≤ 1000000000 → wrap64 (b + v) = b + v := fun _ => w64 (by omega) (by omega)
  have e2 : wrap64 (c + 1) = c + 1 := w64 (by omega) (by omega)
  have e3 : wrap64 (d + 1) = d + 1 := w64 (by omega) (by omega)
  have key : ∃ r, impl_after.f 1 a b c d k v = some r ∧ Tells r (stepM a b c d k v) := by
    unfold impl_after.f stepM
    simp only [impl_inRange_eq, Option.bind_some, decide_eq_true_eq, impl_after.j0]
    by_cases h0 : 0 ≤ v ∧ v ≤ 1000000000
    · rw [if_pos h0, if_pos h0, e1 h0, e2, e3]
      by_cases ha : a = 0
      · subst ha
        by_cases hk : k = 1
        · subst hk
          simp only [beq_self_eq_true, bne_self_eq_false, if_false, if_true, Bool.false_eq_true]
          refine ⟨_, rfl, ?_⟩
          by_cases hv : 1 ≤ v <;> simp [Tells, hv]
        · have hb : ((k == 1) = false) := by simpa using hk
          simp only [beq_self_eq_true, hb, Bool.bne_false, if_true, if_neg hk]
          refine ⟨_, rfl, ?_⟩
          repeat' split
          all_goals (simp [Tells] <;> omega)
      · have hb : ((a == 0) = false) := by simpa using ha
        by_cases hk : k = 1
        · subst hk
          simp only [hb, beq_self_eq_true, Bool.false_bne, if_true]
          refine ⟨_, rfl, ?_⟩
          simp [Tells, ha]
        · have hc : ((k == 1) = false) := by simpa using hk
          have ha' : 0 < a := by omega
          simp only [hb, hc, bne_self_eq_false, Bool.false_eq_true, if_false, if_neg hk]
          repeat' split
          all_goals (refine ⟨_, rfl, ?_⟩; simp only [Tells]; first | done | (simp; omega) | omega)
    · rw [if_neg h0, if_neg h0]
      exact ⟨_, rfl, rfl⟩
  obtain ⟨r, h1, h2⟩ := key
  exact ⟨r, Ev.of (impl_after.mono a b c d k v) h1, h2⟩
end Go.Proofs.YtoiioapkebglgaaDoor.PJ
end
section
namespace Go.Proofs.YtoiioapkebglgaaDoor.PJ
open Go.RowKit Go.Proofs.YtoiioapkebglgaaDoorW.PrintWords Go.Proofs.YtoiioapkebglgaaDoorB
set_option linter.unusedVariables false
set_option linter.unusedSimpArgs false
theorem rd_Entry (l : List S70) (i : Nat) : rd_T70 l (i : Int) = l.getD i z70 := by simp [rd_T70]
theorem laws_eqEntryS_l0 (l : List S70) (hl : l.length ≤ 9223372036854775806) : ∀ d i, i + d = l.length → Ev (fun k => laws_eqEntryS.l0 k l l (i : Int)) true := by
  intro d
  induction d with
  | zero =>
    intro i hi
    refine Ev.succ ?_
    simp only [laws_eqEntryS.l0]
    exact Ev.neg (by omega) (Ev.eq rfl)
  | succ d ih =>
    intro i hi
    have h2 := ih (i + 1) (by omega)
    refine Ev.succ ?_
    simp only [laws_eqEntryS.l0]
    refine Ev.pos (by omega) (Ev.pos (by omega) (Ev.pos (by omega) (Ev.bind (a := true) (Ev.eq (by simp [laws_eqEntry.f])) (Ev.pos rfl ?_))))
    rw [w64 (by omega) (by omega)]
    exact h2
theorem laws_eqEntryS_refl {l : List S70} (hl : l.length ≤ 9223372036854775806) : Ev (fun k => laws_eqEntryS.f k l l) true := by
  unfold laws_eqEntryS.f
  exact Ev.pos rfl (laws_eqEntryS_l0 l hl l.length 0 (by omega))
/-- A list marked with numbers from one on. -/
def markEntry : Int → List S70 → List S70
  | _, [] => []
  | n, _ :: xs => ⟨n, n + 1⟩ :: markEntry (n + 2) xs
theorem mid_Entry (A B : List S70) (x : S70) : (A ++ x :: B).getD A.length z70 = x := by simp [List.getD]
theorem put_Entry (A B : List S70) (x y : S70) : (A ++ x :: B).set A.length y = A ++ y :: B := by simp
theorem laws_markEntryS_l0 : ∀ (B A : List S70) (n : Int), A.length + B.length ≤ 1152921504606846976 → 0 ≤ n → n + 2 * (B.length : Int) ≤ 4611686018427387904 →
    Ev (fun k => laws_markEntryS.l0 k (A ++ B) n (A.length : Int)) (n + 2 * (B.length : Int), A ++ markEntry n B) := by
  intro B
  induction B with
  | nil =>
    intro A n hl h0 hn
    refine Ev.succ ?_
    simp only [laws_markEntryS.l0]
    exact Ev.neg (by simp) (Ev.eq (by simp [markEntry]))
  | cons x xs ih =>
    intro A n hl h0 hn
    simp only [List.length_cons] at hl hn
    refine Ev.succ ?_
    simp only [laws_markEntryS.l0, rd_Entry, Int.toNat_natCast, mid_Entry, put_Entry, Option.bind_some]
    refine Ev.pos (by simp; omega) (Ev.pos (by omega) ?_)
    have e1 : wrap64 ((A.length : Int) + 1) = ((A ++ [(⟨n, n + 1⟩ : S70)]).length : Int) := by rw [w64 (by omega) (by omega)]; simp
    have w1 : wrap64 (n + 1) = n + 1 := by rw [w64 (by omega) (by omega)]; try omega
    have w2 : wrap64 (n + 1 + 1) = n + 2 := by rw [w64 (by omega) (by omega)]; try omega
    have h3 := ih (A ++ [(⟨n, n + 1⟩ : S70)]) (n + 2) (by simp; omega) (by omega) (by omega)
    simp only [w1, w2, e1]
    simp only [List.append_assoc, List.cons_append, List.nil_append] at h3 ⊢
    refine h3.cast ?_
    simp only [markEntry, List.length_cons]
    congr 1
    omega
theorem laws_markEntryS_ev {l : List S70} {n : Int} (hl : l.length ≤ 1048576000) (h0 : 0 ≤ n) (hn : n ≤ 1152921504606846976) : Ev (fun k => laws_markEntryS.f k l n) (n + 2 * (l.length : Int), markEntry n l) := by
  unfold laws_markEntryS.f
  have h := laws_markEntryS_l0 l [] n (by simp; omega) h0 (by omega)
  simpa using h
theorem laws_heldEntryS_l0 : ∀ (B A : List S70) (n : Int), A.length + B.length ≤ 1152921504606846976 → 0 ≤ n → n + 2 * (B.length : Int) ≤ 4611686018427387904 →
    Ev (fun k => laws_heldEntryS.l0 k (A ++ markEntry n B) n (A.length : Int)) (n + 2 * (B.length : Int)) := by
  intro B
  induction B with
  | nil =>
    intro A n hl h0 hn
    refine Ev.succ ?_
    simp only [laws_heldEntryS.l0, markEntry]
    exact Ev.neg (by simp) (Ev.eq (by simp))
  | cons x xs ih =>
    intro A n hl h0 hn
    simp only [List.length_cons] at hl hn
    refine Ev.succ ?_
    simp only [laws_heldEntryS.l0, rd_Entry, markEntry, mid_Entry]
    have e1 : wrap64 ((A.length : Int) + 1) = ((A ++ [(⟨n, n + 1⟩ : S70)]).length : Int) := by rw [w64 (by omega) (by omega)]; simp
    have w1 : wrap64 (n + 1) = n + 1 := by rw [w64 (by omega) (by omega)]; try omega
    have w2 : wrap64 (n + 1 + 1) = n + 2 := by rw [w64 (by omega) (by omega)]; try omega
    have h3 := ih (A ++ [(⟨n, n + 1⟩ : S70)]) (n + 2) (by simp; omega) (by omega) (by omega)
    simp only [w1, w2, e1]
    simp only [List.append_assoc, List.cons_append, List.nil_append] at h3
    refine Ev.pos (by simp; omega) (Ev.pos (by omega) (Ev.pos (by trivial) (Ev.pos (by trivial) (h3.cast ?_))))
    simp only [List.length_cons]
    omega
theorem laws_heldEntryS_ev {l : List S70} {n : Int} (hl : l.length ≤ 1048576000) (h0 : 0 ≤ n) (hn : n ≤ 1152921504606846976) : Ev (fun k => laws_heldEntryS.f k (markEntry n l) n) (n + 2 * (l.length : Int)) := by
  unfold laws_heldEntryS.f
  exact laws_heldEntryS_l0 l [] n (by simp; omega) h0 (by omega)
end Go.Proofs.YtoiioapkebglgaaDoor.PJ
end
