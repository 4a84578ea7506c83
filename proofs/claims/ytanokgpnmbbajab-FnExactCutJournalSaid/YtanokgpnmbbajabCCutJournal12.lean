-- Gathered by this session's program wip/tool/shake.py out of its own texts and of what the kit's print and the session's patches of it wrote for this claim.
import Derived.Test.YtanokgpnmbbajabProg
import Derived.ArgAppend
import Derived.Below
import Derived.BigQuiet
import Derived.Deep.AppendLies
import Derived.Deep.CutBlock
import Derived.Deep.DeepCutAuto
import Derived.Deep.Draws
import Derived.Deep.LoopGhost
import Derived.Deep.OwnRows
import Derived.Deep.QuietTactic
import Derived.Deep.RegionHeld3
import Derived.KernelRfl
import Derived.Laws.BitsLemmas
import Derived.Laws.BytesArg
import Derived.Laws.IdiomCopy
import Derived.Laws.MakeOwn
import Derived.Laws.OwnMore
import Derived.Laws.Rows
import Derived.Laws.Slices
import Derived.Laws.StructEq
import Derived.Lib.AppendStr
import Derived.Lib.ConvBytes
import Derived.Maps.AppendAt
import Derived.OrdersHeld
import Derived.OwnWalk
import Derived.RowKit
import Derived.RowKit3
import Derived.Tactics
import Derived.WalkKit
import Derived.WideLaws
import Derived.Test.YtanokgpnmbbajabCCutJournal6
import Derived.Test.YtanokgpnmbbajabCCutJournal7
import Derived.Test.YtanokgpnmbbajabCCutJournal8
import Derived.Test.YtanokgpnmbbajabCCutJournal11
section
namespace Go.Proofs.Ytanokgpnmbbajab.PA
open Go.RowKit Go.Proofs.YtanokgpnmbbajabW.PrintWords Go.Proofs.YtanokgpnmbbajabB
theorem spec_l01In_eq (a b c : Int) : spec_l01In.f a b c = some (decide (b ≤ a ∧ a ≤ c)) := by
  unfold spec_l01In.f
  split <;> simp <;> omega
theorem impl_inRange_eq (a b c : Int) : impl_inRange.f a b c = some (decide (b ≤ a ∧ a ≤ c)) := by
  unfold impl_inRange.f
  split <;> simp <;> omega
end Go.Proofs.Ytanokgpnmbbajab.PA
end
section
namespace Go.Proofs.Ytanokgpnmbbajab.PA
open Go.RowKit Go.Proofs.YtanokgpnmbbajabW.PrintWords Go.Proofs.YtanokgpnmbbajabB
set_option linter.unusedVariables false
set_option linter.unusedSimpArgs false
/-- A machine's state is valid. -/
def machOk (a b c d : Int) : Bool := decide (0 ≤ a ∧ a ≤ 1000000000 ∧ 0 ≤ b ∧ b ≤ 1000000 ∧ 0 ≤ c ∧ c ≤ 1000000 ∧ 0 ≤ d ∧ d ≤ 1000000000 ∧ (0 < a ∨ (b = 0 ∧ c = 0)))
/-- The state after an entry, where it is possible. -/
def stepM (a b c d k v : Int) : Option (Int × Int × Int × Int) :=
  if 0 ≤ v ∧ v ≤ 1000000000 then
    if k = 1 then (if a = 0 ∧ 1 ≤ v then some (v, b, c, d) else none)
    else if k = 2 then (if 0 < a ∧ b + v ≤ 1000000 then some (a, b + v, c, d) else none)
    else if k = 3 then (if 0 < a ∧ v < 12 ∧ c + 1 ≤ 1000000 then some (a, b, c + 1, d) else none)
    else if k = 4 then (if 0 < a ∧ v = b ∧ d < 1000000000 then some (0, 0, 0, d + 1) else none)
    else none
  else none
theorem stepM_ok {a b c d k v : Int} (hm : machOk a b c d = true) {t : Int × Int × Int × Int} (h : stepM a b c d k v = some t) : machOk t.1 t.2.1 t.2.2.1 t.2.2.2 = true := by
  unfold machOk at hm ⊢
  simp only [decide_eq_true_eq] at hm ⊢
  unfold stepM at h
  split at h
  · split at h
    · split at h
      · cases h; simp only; omega
      · cases h
    · split at h
      · split at h
        · cases h; simp only; omega
        · cases h
      · split at h
        · split at h
          · cases h; simp only; omega
          · cases h
        · split at h
          · split at h
            · cases h; simp; omega
            · cases h
          · cases h
  · cases h
/-- What a step function tells: the state where it is possible; whether it is. -/
def Tells (r : Int × Int × Int × Int × Bool) (s : Option (Int × Int × Int × Int)) : Prop :=
  match s with
  | none => r.2.2.2.2 = false
  | some t => r = (t.1, t.2.1, t.2.2.1, t.2.2.2, true)
theorem spec_l29Make_eq {a b c d k v : Int} (hm : machOk a b c d = true) : ∃ r, spec_l29Make.f a b c d k v = some r ∧ Tells r (stepM a b c d k v) := by
  unfold machOk at hm
  simp only [decide_eq_true_eq] at hm
  unfold spec_l29Make.f stepM
  simp only [spec_l01In_eq, Option.bind_some, decide_eq_true_eq]
  by_cases h0 : 0 ≤ v ∧ v ≤ 1000000000
  · rw [if_pos h0, if_pos h0]
    have e1 : wrap64 (b + v) = b + v := w64 (by omega) (by omega)
    have e2 : wrap64 (c + 1) = c + 1 := w64 (by omega) (by omega)
    have e3 : wrap64 (d + 1) = d + 1 := w64 (by omega) (by omega)
    rw [e1, e2, e3]
    repeat' split
    all_goals (refine ⟨_, rfl, ?_⟩; simp only [Tells]; first | done | (simp; omega) | omega)
  · rw [if_neg h0, if_neg h0]
    exact ⟨_, rfl, rfl⟩
theorem impl_after_ev {a b c d k v : Int} (hm : machOk a b c d = true) : ∃ r, Ev (fun n => impl_after.f n a b c d k v) r ∧ Tells r (stepM a b c d k v) := by
  unfold machOk at hm
  simp only [decide_eq_true_eq] at hm
  have e1 : 0 ≤ v ∧ v ≤ 1000000000 → wrap64 (b + v) = b + v := fun _ => w64 (by omega) (by omega)
  have e2 : wrap64 (c + 1) = c + 1 := w64 (by omega) (by omega)
  have e3 : wrap64 (d + 1) = d + 1 := w64 (by omega) (by omega)
  have key : ∃ r, impl_after.f 1 a b c d k v = some r ∧ Tells r (stepM a b c d k v) := by
    unfold impl_after.f stepM
    simp only [impl_inRange_eq, Option.bind_some, decide_eq_true_eq, impl_after.j0]
    by_cases h0 : 0 ≤ v ∧ v ≤ 1000000000
    · rw [if_pos h0, if_pos h0, e1 h0, e2, e3]
      by_cases ha : a = 0
      · subst ha
        by_cases hk : k = 1
        · subst hk
          simp only [beq_self_eq_true, bne_self_eq_false, if_false, if_true, Bool.false_eq_true]
          refine ⟨_, rfl, ?_⟩
          by_cases hv : 1 ≤ v <;> simp [Tells, hv]
        · have hb : ((k == 1) = false) := by simpa using hk
          simp only [beq_self_eq_true, hb, Bool.bne_false, if_true, if_neg hk]
          refine ⟨_, rfl, ?_⟩
          repeat' split
          all_goals (simp [Tells] <;> omega)
      · have hb : ((a == 0) = false) := by simpa using ha
        by_cases hk : k = 1
        · subst hk
          simp only [hb, beq_self_eq_true, Bool.false_bne, if_true]
          refine ⟨_, rfl, ?_⟩
          simp [Tells, ha]
        · have hc : ((k == 1) = false) := by simpa using hk
          have ha' : 0 < a := by omega
          simp only [hb, hc, bne_self_eq_false, Bool.false_eq_true, if_false, if_neg hk]
          repeat' split
          all_goals (refine ⟨_, rfl, ?_⟩; simp only [Tells]; first | done | (simp; omega) | omega)
    · rw [if_neg h0, if_neg h0]
      exact ⟨_, rfl, rfl⟩
  obtain ⟨r, h1, h2⟩ := key
  exact ⟨r, Ev.of (impl_after.mono a b c d k v) h1, h2⟩
end Go.Proofs.Ytanokgpnmbbajab.PA
end
section
namespace Go.Proofs.Ytanokgpnmbbajab.PA
open Go.RowKit Go.Proofs.YtanokgpnmbbajabW.PrintWords Go.Proofs.YtanokgpnmbbajabB
set_option linter.unusedVariables false
set_option linter.unusedSimpArgs false
theorem rd_Entry (l : List S95) (i : Nat) : rd_T95 l (i : Int) = l.getD i z95 := by simp [rd_T95]
theorem rdL_Entry (l : List S97) (i : Nat) : rd_T97 l (i : Int) = l.getD i z97 := by simp [rd_T97]
def toEntry (x : S97) : S95 := ⟨x.f0, x.f1⟩
theorem laws_toEntryS_l0 (l : List S97) (hl : l.length ≤ 1048576) : ∀ d i, i + d = l.length →
    Ev (fun k => laws_toEntryS.l0 k l ((l.take i).map toEntry ++ List.replicate (l.length - i) z95) (i : Int)) (l.map toEntry) := by
  intro d
  induction d with
  | zero =>
    intro i hi
    refine Ev.succ ?_
    simp only [laws_toEntryS.l0]
    refine Ev.neg (by omega) (Ev.eq ?_)
    have : i = l.length := by omega
    subst this
    simp
  | succ d ih =>
    intro i hi
    have h1 := fill_step l z97 z95 toEntry i (by omega)
    have h2 := ih (i + 1) (by omega)
    refine Ev.succ ?_
    simp only [laws_toEntryS.l0]
    refine Ev.pos (by omega) (Ev.pos (by omega) (Ev.bind (Ev.eq rfl) (Ev.pos (by simp; omega) ?_)))
    rw [rdL_Entry, w64 (by omega) (by omega), Int.toNat_natCast]
    rw [← h1] at h2
    exact h2
theorem laws_toEntryS_ev {l : List S97} (hl : l.length ≤ 1048576) : Ev (fun k => laws_toEntryS.f k l) (l.map toEntry) := by
  have h := laws_toEntryS_l0 l hl l.length 0 (by omega)
  unfold laws_toEntryS.f
  refine Ev.pos (by omega) (Ev.pos (by omega) ?_)
  rw [Int.toNat_natCast]
  simpa using h
theorem laws_eqEntryS_l0 (l : List S95) (hl : l.length ≤ 9223372036854775806) : ∀ d i, i + d = l.length → Ev (fun k => laws_eqEntryS.l0 k l l (i : Int)) true := by
  intro d
  induction d with
  | zero =>
    intro i hi
    refine Ev.succ ?_
    simp only [laws_eqEntryS.l0]
    exact Ev.neg (by omega) (Ev.eq rfl)
  | succ d ih =>
    intro i hi
    have h2 := ih (i + 1) (by omega)
    refine Ev.succ ?_
    simp only [laws_eqEntryS.l0]
    refine Ev.pos (by omega) (Ev.pos (by omega) (Ev.pos (by omega) (Ev.bind (a := true) (Ev.eq (by simp [laws_eqEntry.f])) (Ev.pos rfl ?_))))
    rw [w64 (by omega) (by omega)]
    exact h2
theorem laws_eqEntryS_refl {l : List S95} (hl : l.length ≤ 9223372036854775806) : Ev (fun k => laws_eqEntryS.f k l l) true := by
  unfold laws_eqEntryS.f
  exact Ev.pos rfl (laws_eqEntryS_l0 l hl l.length 0 (by omega))
theorem laws_szEntryS_eq {l : List S97} (hl : l.length ≤ 9223372036854775807) : ∃ r, laws_szEntryS.f l 1048576 = some r ∧ (r < 0 ↔ ¬ l.length ≤ 1048576) := by
  unfold laws_szEntryS.f
  rw [w64 (by omega) (by omega)]
  split
  · exact ⟨_, rfl, by omega⟩
  · exact ⟨_, rfl, by omega⟩
/-- A list marked with numbers from one on. -/
def markEntry : Int → List S95 → List S95
  | _, [] => []
  | n, _ :: xs => ⟨n, n + 1⟩ :: markEntry (n + 2) xs
theorem mid_Entry (A B : List S95) (x : S95) : (A ++ x :: B).getD A.length z95 = x := by simp [List.getD]
theorem put_Entry (A B : List S95) (x y : S95) : (A ++ x :: B).set A.length y = A ++ y :: B := by simp
theorem laws_markEntryS_l0 : ∀ (B A : List S95) (n : Int), A.length + B.length ≤ 1152921504606846976 → 0 ≤ n → n + 2 * (B.length : Int) ≤ 4611686018427387904 →
    Ev (fun k => laws_markEntryS.l0 k (A ++ B) n (A.length : Int)) (n + 2 * (B.length : Int), A ++ markEntry n B) := by
  intro B
  induction B with
  | nil =>
    intro A n hl h0 hn
    refine Ev.succ ?_
    simp only [laws_markEntryS.l0]
    exact Ev.neg (by simp) (Ev.eq (by simp [markEntry]))
  | cons x xs ih =>
    intro A n hl h0 hn
    simp only [List.length_cons] at hl hn
    refine Ev.succ ?_
    simp only [laws_markEntryS.l0, rd_Entry, Int.toNat_natCast, mid_Entry, put_Entry, Option.bind_some]
    refine Ev.pos (by simp; omega) (Ev.pos (by omega) ?_)
    have e1 : wrap64 ((A.length : Int) + 1) = ((A ++ [(⟨n, n + 1⟩ : S95)]).length : Int) := by rw [w64 (by omega) (by omega)]; simp
    have w1 : wrap64 (n + 1) = n + 1 := by rw [w64 (by omega) (by omega)]; try omega
    have w2 : wrap64 (n + 1 + 1) = n + 2 := by rw [w64 (by omega) (by omega)]; try omega
    have h3 := ih (A ++ [(⟨n, n + 1⟩ : S95)]) (n + 2) (by simp; omega) (by omega) (by omega)
    simp only [w1, w2, e1]
    simp only [List.append_assoc, List.cons_append, List.nil_append] at h3 ⊢
    refine h3.cast ?_
    simp only [markEntry, List.length_cons]
    congr 1
    omega
theorem laws_markEntryS_ev {l : List S95} {n : Int} (hl : l.length ≤ 1048576000) (h0 : 0 ≤ n) (hn : n ≤ 1152921504606846976) : Ev (fun k => laws_markEntryS.f k l n) (n + 2 * (l.length : Int), markEntry n l) := by
  unfold laws_markEntryS.f
  have h := laws_markEntryS_l0 l [] n (by simp; omega) h0 (by omega)
  simpa using h
theorem laws_heldEntryS_l0 : ∀ (B A : List S95) (n : Int), A.length + B.length ≤ 1152921504606846976 → 0 ≤ n → n + 2 * (B.length : Int) ≤ 4611686018427387904 →
    Ev (fun k => laws_heldEntryS.l0 k (A ++ markEntry n B) n (A.length : Int)) (n + 2 * (B.length : Int)) := by
  intro B
  induction B with
  | nil =>
    intro A n hl h0 hn
    refine Ev.succ ?_
    simp only [laws_heldEntryS.l0, markEntry]
    exact Ev.neg (by simp) (Ev.eq (by simp))
  | cons x xs ih =>
    intro A n hl h0 hn
    simp only [List.length_cons] at hl hn
    refine Ev.succ ?_
    simp only [laws_heldEntryS.l0, rd_Entry, markEntry, mid_Entry]
    have e1 : wrap64 ((A.length : Int) + 1) = ((A ++ [(⟨n, n + 1⟩ : S95)]).length : Int) := by rw [w64 (by omega) (by omega)]; simp
    have w1 : wrap64 (n + 1) = n + 1 := by rw [w64 (by omega) (by omega)]; try omega
    have w2 : wrap64 (n + 1 + 1) = n + 2 := by rw [w64 (by omega) (by omega)]; try omega
    have h3 := ih (A ++ [(⟨n, n + 1⟩ : S95)]) (n + 2) (by simp; omega) (by omega) (by omega)
    simp only [w1, w2, e1]
    simp only [List.append_assoc, List.cons_append, List.nil_append] at h3
    refine Ev.pos (by simp; omega) (Ev.pos (by omega) (Ev.pos (by trivial) (Ev.pos (by trivial) (h3.cast ?_))))
    simp only [List.length_cons]
    omega
theorem laws_heldEntryS_ev {l : List S95} {n : Int} (hl : l.length ≤ 1048576000) (h0 : 0 ≤ n) (hn : n ≤ 1152921504606846976) : Ev (fun k => laws_heldEntryS.f k (markEntry n l) n) (n + 2 * (l.length : Int)) := by
  unfold laws_heldEntryS.f
  exact laws_heldEntryS_l0 l [] n (by simp; omega) h0 (by omega)
end Go.Proofs.Ytanokgpnmbbajab.PA
end
section
namespace Go.Proofs.Ytanokgpnmbbajab.PA
open Go.RowKit Go.Proofs.YtanokgpnmbbajabW.PrintWords Go.Proofs.YtanokgpnmbbajabB
set_option linter.unusedVariables false
set_option linter.unusedSimpArgs false
/-- The state after entries, where all are possible. -/
def runM : Int × Int × Int × Int → List S95 → Option (Int × Int × Int × Int)
  | m, [] => some m
  | m, e :: es => match stepM m.1 m.2.1 m.2.2.1 m.2.2.2 e.f0 e.f1 with
    | none => none
    | some t => runM t es
/-- What both runs hand back. -/
def endM (n : Nat) : Option (Int × Int × Int × Int) → Int × Int × Int × Int × Bool
  | none => (0, 0, 0, 0, false)
  | some t => (t.1, t.2.1, t.2.2.1, t.2.2.2, decide ((n : Int) ≤ 200))
theorem spec_l29Run_l0 (l : List S95) (hl : l.length ≤ 9223372036854775806) : ∀ d i, i + d = l.length → ∀ a b c e, machOk a b c e = true →
    Ev (fun k => spec_l29Run.l0 k l (i : Int) a b c e) (endM l.length (runM (a, b, c, e) (l.drop i))) := by
  intro d
  induction d with
  | zero =>
    intro i hi a b c e hm
    refine Ev.succ ?_
    simp only [spec_l29Run.l0]
    refine Ev.neg (by omega) (Ev.eq ?_)
    have : l.drop i = [] := List.drop_eq_nil_of_le (by omega)
    rw [this]
    rfl
  | succ d ih =>
    intro i hi a b c e hm
    rw [getD_drop l z95 i (by omega)]
    obtain ⟨r, h1, h2⟩ := spec_l29Make_eq (k := (l.getD i z95).f0) (v := (l.getD i z95).f1) hm
    refine Ev.succ ?_
    simp only [spec_l29Run.l0, rd_Entry]
    refine Ev.pos (by omega) (Ev.pos (by omega) (Ev.bind (Ev.eq h1) ?_))
    simp only [runM]
    cases hs : stepM a b c e (l.getD i z95).f0 (l.getD i z95).f1 with
    | none =>
      rw [hs] at h2
      simp only [Tells] at h2
      exact Ev.neg (by simp [h2]) (Ev.eq rfl)
    | some t =>
      rw [hs] at h2
      simp only [Tells] at h2
      subst h2
      have h3 := ih (i + 1) (by omega) t.1 t.2.1 t.2.2.1 t.2.2.2 (stepM_ok hm hs)
      refine Ev.pos rfl ?_
      rw [w64 (by omega) (by omega)]
      exact h3
theorem impl_runEntries_l0 (l : List S95) (hl : l.length ≤ 9223372036854775806) : ∀ d i, i + d = l.length → ∀ a b c e, machOk a b c e = true →
    Ev (fun k => impl_runEntries.l0 k l l (l.length : Int) (i : Int) a b c e) (endM l.length (runM (a, b, c, e) (l.drop i))) := by
  intro d
  induction d with
  | zero =>
    intro i hi a b c e hm
    refine Ev.succ ?_
    simp only [impl_runEntries.l0]
    refine Ev.neg (by omega) (Ev.eq ?_)
    have : l.drop i = [] := List.drop_eq_nil_of_le (by omega)
    rw [this]
    rfl
  | succ d ih =>
    intro i hi a b c e hm
    rw [getD_drop l z95 i (by omega)]
    obtain ⟨r, h1, h2⟩ := impl_after_ev (k := (l.getD i z95).f0) (v := (l.getD i z95).f1) hm
    refine Ev.succ ?_
    simp only [impl_runEntries.l0, rd_Entry]
    refine Ev.pos (by omega) (Ev.pos (by omega) (Ev.pos (by omega) (Ev.bind h1 ?_)))
    simp only [runM]
    cases hs : stepM a b c e (l.getD i z95).f0 (l.getD i z95).f1 with
    | none =>
      rw [hs] at h2
      simp only [Tells] at h2
      exact Ev.neg (by simp [h2]) (Ev.eq rfl)
    | some t =>
      rw [hs] at h2
      simp only [Tells] at h2
      subst h2
      have h3 := ih (i + 1) (by omega) t.1 t.2.1 t.2.2.1 t.2.2.2 (stepM_ok hm hs)
      refine Ev.pos rfl ?_
      rw [w64 (by omega) (by omega)]
      exact h3
theorem spec_l29Run_ev {l : List S95} (hl : l.length ≤ 9223372036854775806) : Ev (fun k => spec_l29Run.f k l) (endM l.length (runM (0, 0, 0, 0) l)) := by
  unfold spec_l29Run.f
  exact spec_l29Run_l0 l hl l.length 0 (by omega) 0 0 0 0 (by decide)
theorem impl_runEntries_ev {l : List S95} (hl : l.length ≤ 9223372036854775806) : Ev (fun k => impl_runEntries.f k l) (endM l.length (runM (0, 0, 0, 0) l)) := by
  unfold impl_runEntries.f
  exact impl_runEntries_l0 l hl l.length 0 (by omega) 0 0 0 0 (by decide)
end Go.Proofs.Ytanokgpnmbbajab.PA
end
section
namespace Go.Proofs.Ytanokgpnmbbajab.Pure
open Go.RowKit Go.Proofs.YtanokgpnmbbajabW.PrintWords Go.Proofs.YtanokgpnmbbajabB Go.Proofs.Ytanokgpnmbbajab.PA
set_option linter.unusedVariables false
set_option linter.unusedSimpArgs false
/-- The place after the last end. -/
def cutAt : Nat → Nat → List S95 → Nat
  | f, _, [] => f
  | f, i, x :: xs => cutAt (if x.f0 = 4 then i + 1 else f) (i + 1) xs
theorem spec_CutJournal_l0 (l : List S95) (hl : l.length ≤ 200) : ∀ d i, i + d = l.length → ∀ f : Nat, f ≤ i →
    Ev (fun k => spec_CutJournal.l0 k l (f : Int) (i : Int)) (l.drop (cutAt f i (l.drop i)), 0) := by
  intro d
  induction d with
  | zero =>
    intro i hi f hf
    refine Ev.succ ?_
    simp only [spec_CutJournal.l0]
    have : l.drop i = [] := List.drop_eq_nil_of_le (by omega)
    rw [this]
    refine Ev.neg (by omega) (Ev.bind (Ev.eq rfl) (Ev.pos (by omega) (Ev.pos (by omega) (Ev.bind (Ev.eq rfl) (Ev.pos (by simp; omega) (Ev.eq ?_))))))
    simp [cutAt]
  | succ d ih =>
    intro i hi f hf
    rw [getD_drop l z95 i (by omega)]
    have e1 : wrap64 ((i : Int) + 1) = ((i + 1 : Nat) : Int) := by rw [w64 (by omega) (by omega)]; omega
    refine Ev.succ ?_
    simp only [spec_CutJournal.l0, rd_Entry, e1]
    generalize l.getD i z95 = x
    refine Ev.pos (by omega) (Ev.pos (by omega) (Ev.ite (fun h => ?_) (fun h => ?_)))
    · exact (ih (i + 1) (by omega) (i + 1) (by omega)).cast (by simp only [cutAt, if_pos h])
    · exact (ih (i + 1) (by omega) f (by omega)).cast (by simp only [cutAt, if_neg h])
theorem impl_CutJournal_l0 (l : List S95) (hl : l.length ≤ 200) : ∀ d i, i + d = l.length → ∀ f : Nat, f ≤ i →
    Ev (fun k => impl_CutJournal.l0 k l (f : Int) l (l.length : Int) (i : Int)) (l.drop (cutAt f i (l.drop i)), 0) := by
  intro d
  induction d with
  | zero =>
    intro i hi f hf
    refine Ev.succ ?_
    simp only [impl_CutJournal.l0]
    have : l.drop i = [] := List.drop_eq_nil_of_le (by omega)
    rw [this]
    refine Ev.neg (by omega) (Ev.pos (by omega) (Ev.pos (by omega) (Ev.bind (Ev.eq (by rw [impl_Entry.f, if_pos (by simp; omega)])) (Ev.eq ?_))))
    simp [cutAt]
  | succ d ih =>
    intro i hi f hf
    rw [getD_drop l z95 i (by omega)]
    have e1 : wrap64 ((i : Int) + 1) = ((i + 1 : Nat) : Int) := by rw [w64 (by omega) (by omega)]; omega
    refine Ev.succ ?_
    simp only [impl_CutJournal.l0, rd_Entry, e1]
    generalize l.getD i z95 = x
    refine Ev.pos (by omega) (Ev.pos (by omega) (Ev.pos (by omega) (Ev.ite (fun h => ?_) (fun h => ?_))))
    · exact (ih (i + 1) (by omega) (i + 1) (by omega)).cast (by simp only [cutAt, if_pos h])
    · exact (ih (i + 1) (by omega) f (by omega)).cast (by simp only [cutAt, if_neg h])
def cut (l : List S95) : List S95 × Int := if (endM l.length (runM (0, 0, 0, 0) l)).2.2.2.2 = true then (l.drop (cutAt 0 0 l), 0) else ([], 1)
theorem endM_len {n : Nat} {o : Option (Int × Int × Int × Int)} (h : (endM n o).2.2.2.2 = true) : n ≤ 200 := by
  cases o with
  | none => cases h
  | some t => simp only [endM, decide_eq_true_eq] at h; omega
theorem cut_length (l : List S95) : (cut l).1.length ≤ l.length := by
  unfold cut
  split
  · simp
  · simp
theorem spec_CutJournal_ev {l : List S95} (hl : l.length ≤ 9223372036854775806) : Ev (fun k => spec_CutJournal.f k l) (cut l) := by
  unfold spec_CutJournal.f cut
  refine Ev.bind (spec_l29Run_ev hl) (Ev.ite (fun h => ?_) (fun h => Ev.eq (by rw [if_neg h])))
  rw [if_pos h]
  exact (spec_CutJournal_l0 l (endM_len h) l.length 0 (by omega) 0 (by omega)).cast (by simp)
theorem impl_CutJournal_ev {l : List S95} (hl : l.length ≤ 9223372036854775806) : Ev (fun k => impl_CutJournal.f k l) (cut l) := by
  unfold impl_CutJournal.f cut
  refine Ev.bind (impl_runEntries_ev hl) (Ev.ite (fun h => ?_) (fun h => Ev.eq (by rw [if_neg h])))
  rw [if_pos h]
  exact (impl_CutJournal_l0 l (endM_len h) l.length 0 (by omega) 0 (by omega)).cast (by simp)
theorem FnExactCutJournal : laws_FnExactCutJournal.Pure := by
  intro l hg
  obtain ⟨r, h1, h2⟩ := laws_szEntryS_eq hg.1
  refine Ev.rounds (g := fun k => laws_FnExactCutJournal.f k l) ?_
  unfold laws_FnExactCutJournal.f
  refine Ev.bind (Ev.eq h1) (Ev.ite (fun _ => Ev.eq rfl) (fun h => ?_))
  have hl : l.length ≤ 1048576 := by omega
  have hm : (l.map toEntry).length ≤ 1048576 := by simpa using hl
  have s0 := laws_toEntryS_ev hl
  have s1 := spec_CutJournal_ev (l := l.map toEntry) (by omega)
  have s2 := impl_CutJournal_ev (l := l.map toEntry) (by omega)
  have hd := cut_length (l.map toEntry)
  generalize l.map toEntry = m at s0 s1 s2 hm hd
  generalize cut m = v at s1 s2 hd
  obtain ⟨v1, v2⟩ := v
  simp only at hd
  have q1 := laws_eqEntryS_refl (l := v1) (by omega)
  have q2 := laws_eqEntryS_refl (l := m) (by omega)
  have k1 := laws_markEntryS_ev (l := m) (n := 1) (by omega) (by omega) (by omega)
  have k2 := laws_markEntryS_ev (l := v1) (n := 1) (by omega) (by omega) (by omega)
  have k3 := laws_heldEntryS_ev (l := v1) (n := 1) (by omega) (by omega) (by omega)
  refine Ev.bind s0 (Ev.bind s1 (Ev.bind s0 (Ev.bind s2 (Ev.bind q1 (Ev.pos (by trivial) (Ev.succ ?_))))))
  simp only [laws_FnExactCutJournal.j0]
  refine Ev.neg (by simp) (Ev.bind s0 (Ev.bind q2 (Ev.pos (by trivial) (Ev.bind k1 (Ev.neg (by simp only; omega) (Ev.bind q1 (Ev.pos (by trivial) (Ev.succ ?_))))))))
  simp only [laws_FnExactCutJournal.j1]
  refine Ev.neg (by simp) (Ev.bind k2 (Ev.bind k3 (Ev.neg (by omega) (Ev.pos (by trivial) (Ev.bind s0 (Ev.bind s2 (Ev.bind q1 (Ev.pos (by trivial) (Ev.succ ?_)))))))))
  simp only [laws_FnExactCutJournal.j2]
  refine Ev.neg (by simp) (Ev.bind k3 (Ev.neg (by omega) (Ev.pos (by trivial) (Ev.eq rfl))))
end Go.Proofs.Ytanokgpnmbbajab.Pure
end
