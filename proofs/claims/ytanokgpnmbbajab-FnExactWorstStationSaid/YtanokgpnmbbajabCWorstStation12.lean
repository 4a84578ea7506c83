-- Gathered by this session's program wip/tool/shake.py out of its own texts and of what the kit's print and the session's patches of it wrote for this claim.
import Derived.Test.YtanokgpnmbbajabProg
import Derived.ArgAppend
import Derived.Below
import Derived.BigQuiet
import Derived.Deep.AppendLies
import Derived.Deep.CutBlock
import Derived.Deep.DeepCutAuto
import Derived.Deep.Draws
import Derived.Deep.LoopGhost
import Derived.Deep.OwnRows
import Derived.Deep.QuietTactic
import Derived.Deep.RegionHeld3
import Derived.KernelRfl
import Derived.Laws.BitsLemmas
import Derived.Laws.BytesArg
import Derived.Laws.IdiomCopy
import Derived.Laws.MakeOwn
import Derived.Laws.OwnMore
import Derived.Laws.Rows
import Derived.Laws.Slices
import Derived.Laws.StructEq
import Derived.Lib.AppendStr
import Derived.Lib.ConvBytes
import Derived.Maps.AppendAt
import Derived.OrdersHeld
import Derived.OwnWalk
import Derived.RowKit
import Derived.RowKit3
import Derived.Tactics
import Derived.WalkKit
import Derived.WideLaws
import Derived.Test.YtanokgpnmbbajabCWorstStation6
import Derived.Test.YtanokgpnmbbajabCWorstStation7
import Derived.Test.YtanokgpnmbbajabCWorstStation8
import Derived.Test.YtanokgpnmbbajabCWorstStation11
section
namespace Go.Proofs.Ytanokgpnmbbajab.PB
open Go.RowKit Go.Proofs.YtanokgpnmbbajabW.PrintWords Go.Proofs.YtanokgpnmbbajabB
theorem spec_l01In_eq (a b c : Int) : spec_l01In.f a b c = some (decide (b ≤ a ∧ a ≤ c)) := by
  unfold spec_l01In.f
  split <;> simp <;> omega
theorem impl_inRange_eq (a b c : Int) : impl_inRange.f a b c = some (decide (b ≤ a ∧ a ≤ c)) := by
  unfold impl_inRange.f
  split <;> simp <;> omega
end Go.Proofs.Ytanokgpnmbbajab.PB
end
section
namespace Go.Proofs.Ytanokgpnmbbajab.PB
open Go.RowKit Go.Proofs.YtanokgpnmbbajabW.PrintWords Go.Proofs.YtanokgpnmbbajabB
set_option linter.unusedVariables false
set_option linter.unusedSimpArgs false
/-- A machine's state is valid. -/
def machOk (a b c d : Int) : Bool := decide (0 ≤ a ∧ a ≤ 1000000000 ∧ 0 ≤ b ∧ b ≤ 1000000 ∧ 0 ≤ c ∧ c ≤ 1000000 ∧ 0 ≤ d ∧ d ≤ 1000000000 ∧ (0 < a ∨ (b = 0 ∧ c = 0)))
/-- The state after an entry, where it is possible. -/
def stepM (a b c d k v : Int) : Option (Int × Int × Int × Int) :=
  if 0 ≤ v ∧ v ≤ 1000000000 then
    if k = 1 then (if a = 0 ∧ 1 ≤ v then some (v, b, c, d) else none)
    else if k = 2 then (if 0 < a ∧ b + v ≤ 1000000 then some (a, b + v, c, d) else none)
    else if k = 3 then (if 0 < a ∧ v < 12 ∧ c + 1 ≤ 1000000 then some (a, b, c + 1, d) else none)
    else if k = 4 then (if 0 < a ∧ v = b ∧ d < 1000000000 then some (0, 0, 0, d + 1) else none)
    else none
  else none
theorem stepM_ok {a b c d k v : Int} (hm : machOk a b c d = true) {t : Int × Int × Int × Int} (h : stepM a b c d k v = some t) : machOk t.1 t.2.1 t.2.2.1 t.2.2.2 = true := by
  unfold machOk at hm ⊢
  simp only [decide_eq_true_eq] at hm ⊢
  unfold stepM at h
  split at h
  · split at h
    · split at h
      · cases h; simp only; omega
      · cases h
    · split at h
      · split at h
        · cases h; simp only; omega
        · cases h
      · split at h
        · split at h
          · cases h; simp only; omega
          · cases h
        · split at h
          · split at h
            · cases h; simp; omega
            · cases h
          · cases h
  · cases h
/-- What a step function tells: the state where it is possible; whether it is. -/
def Tells (r : Int × Int × Int × Int × Bool) (s : Option (Int × Int × Int × Int)) : Prop :=
  match s with
  | none => r.2.2.2.2 = false
  | some t => r = (t.1, t.2.1, t.2.2.1, t.2.2.2, true)
theorem spec_l29Make_eq {a b c d k v : Int} (hm : machOk a b c d = true) : ∃ r, spec_l29Make.f a b c d k v = some r ∧ Tells r (stepM a b c d k v) := by
  unfold machOk at hm
  simp only [decide_eq_true_eq] at hm
  unfold spec_l29Make.f stepM
  simp only [spec_l01In_eq, Option.bind_some, decide_eq_true_eq]
  by_cases h0 : 0 ≤ v ∧ v ≤ 1000000000
  · rw [if_pos h0, if_pos h0]
    have e1 : wrap64 (b + v) = b + v := w64 (by omega) (by omega)
    have e2 : wrap64 (c + 1) = c + 1 := w64 (by omega) (by omega)
    have e3 : wrap64 (d + 1) = d + 1 := w64 (by omega) (by omega)
    rw [e1, e2, e3]
    repeat' split
    all_goals (refine ⟨_, rfl, ?_⟩; simp only [Tells]; first | done | (simp; omega) | omega)
  · rw [if_neg h0, if_neg h0]
    exact ⟨_, rfl, rfl⟩
theorem impl_after_ev {a b c d k v : Int} (hm : machOk a b c d = true) : ∃ r, Ev (fun n => impl_after.f n a b c d k v) r ∧ Tells r (stepM a b c d k v) := by
  unfold machOk at hm
  simp only [decide_eq_true_eq] at hm
  have e1 : 0 ≤ v ∧ v ≤ 1000000000 → wrap64 (b + v) = b + v := fun _ => w64 (by omega) (by omega)
  have e2 : wrap64 (c + 1) = c + 1 := w64 (by omega) (by omega)
  have e3 : wrap64 (d + 1) = d + 1 := w64 (by omega) (by omega)
  have key : ∃ r, impl_after.f 1 a b c d k v = some r ∧ Tells r (stepM a b c d k v) := by
    unfold impl_after.f stepM
    simp only [impl_inRange_eq, Option.bind_some, decide_eq_true_eq, impl_after.j0]
    by_cases h0 : 0 ≤ v ∧ v ≤ 1000000000
    · rw [if_pos h0, if_pos h0, e1 h0, e2, e3]
      by_cases ha : a = 0
      · subst ha
        by_cases hk : k = 1
        · subst hk
          simp only [beq_self_eq_true, bne_self_eq_false, if_false, if_true, Bool.false_eq_true]
          refine ⟨_, rfl, ?_⟩
          by_cases hv : 1 ≤ v <;> simp [Tells, hv]
        · have hb : ((k == 1) = false) := by simpa using hk
          simp only [beq_self_eq_true, hb, Bool.bne_false, if_true, if_neg hk]
          refine ⟨_, rfl, ?_⟩
          repeat' split
          all_goals (simp [Tells] <;> omega)
      · have hb : ((a == 0) = false) := by simpa using ha
        by_cases hk : k = 1
        · subst hk
          simp only [hb, beq_self_eq_true, Bool.false_bne, if_true]
          refine ⟨_, rfl, ?_⟩
          simp [Tells, ha]
        · have hc : ((k == 1) = false) := by simpa using hk
          have ha' : 0 < a := by omega
          simp only [hb, hc, bne_self_eq_false, Bool.false_eq_true, if_false, if_neg hk]
          repeat' split
          all_goals (refine ⟨_, rfl, ?_⟩; simp only [Tells]; first | done | (simp; omega) | omega)
    · rw [if_neg h0, if_neg h0]
      exact ⟨_, rfl, rfl⟩
  obtain ⟨r, h1, h2⟩ := key
  exact ⟨r, Ev.of (impl_after.mono a b c d k v) h1, h2⟩
end Go.Proofs.Ytanokgpnmbbajab.PB
end
section
namespace Go.Proofs.Ytanokgpnmbbajab.PB
open Go.RowKit Go.Proofs.YtanokgpnmbbajabW.PrintWords Go.Proofs.YtanokgpnmbbajabB
set_option linter.unusedVariables false
set_option linter.unusedSimpArgs false
theorem rd_Entry (l : List S95) (i : Nat) : rd_T95 l (i : Int) = l.getD i z95 := by simp [rd_T95]
theorem rdL_Entry (l : List S97) (i : Nat) : rd_T97 l (i : Int) = l.getD i z97 := by simp [rd_T97]
def toEntry (x : S97) : S95 := ⟨x.f0, x.f1⟩
theorem laws_toEntryS_l0 (l : List S97) (hl : l.length ≤ 1048576) : ∀ d i, i + d = l.length →
    Ev (fun k => laws_toEntryS.l0 k l ((l.take i).map toEntry ++ List.replicate (l.length - i) z95) (i : Int)) (l.map toEntry) := by
  intro d
  induction d with
  | zero =>
    intro i hi
    refine Ev.succ ?_
    simp only [laws_toEntryS.l0]
    refine Ev.neg (by omega) (Ev.eq ?_)
    have : i = l.length := by omega
    subst this
    simp
  | succ d ih =>
    intro i hi
    have h1 := fill_step l z97 z95 toEntry i (by omega)
    have h2 := ih (i + 1) (by omega)
    refine Ev.succ ?_
    simp only [laws_toEntryS.l0]
    refine Ev.pos (by omega) (Ev.pos (by omega) (Ev.bind (Ev.eq rfl) (Ev.pos (by simp; omega) ?_)))
    rw [rdL_Entry, w64 (by omega) (by omega), Int.toNat_natCast]
    rw [← h1] at h2
    exact h2
theorem laws_toEntryS_ev {l : List S97} (hl : l.length ≤ 1048576) : Ev (fun k => laws_toEntryS.f k l) (l.map toEntry) := by
  have h := laws_toEntryS_l0 l hl l.length 0 (by omega)
  unfold laws_toEntryS.f
  refine Ev.pos (by omega) (Ev.pos (by omega) ?_)
  rw [Int.toNat_natCast]
  simpa using h
theorem laws_eqEntryS_l0 (l : List S95) (hl : l.length ≤ 9223372036854775806) : ∀ d i, i + d = l.length → Ev (fun k => laws_eqEntryS.l0 k l l (i : Int)) true := by
  intro d
  induction d with
  | zero =>
    intro i hi
    refine Ev.succ ?_
    simp only [laws_eqEntryS.l0]
    exact Ev.neg (by omega) (Ev.eq rfl)
  | succ d ih =>
    intro i hi
    have h2 := ih (i + 1) (by omega)
    refine Ev.succ ?_
    simp only [laws_eqEntryS.l0]
    refine Ev.pos (by omega) (Ev.pos (by omega) (Ev.pos (by omega) (Ev.bind (a := true) (Ev.eq (by simp [laws_eqEntry.f])) (Ev.pos rfl ?_))))
    rw [w64 (by omega) (by omega)]
    exact h2
theorem laws_eqEntryS_refl {l : List S95} (hl : l.length ≤ 9223372036854775806) : Ev (fun k => laws_eqEntryS.f k l l) true := by
  unfold laws_eqEntryS.f
  exact Ev.pos rfl (laws_eqEntryS_l0 l hl l.length 0 (by omega))
theorem laws_szEntryS_eq {l : List S97} (hl : l.length ≤ 9223372036854775807) : ∃ r, laws_szEntryS.f l 1048576 = some r ∧ (r < 0 ↔ ¬ l.length ≤ 1048576) := by
  unfold laws_szEntryS.f
  rw [w64 (by omega) (by omega)]
  split
  · exact ⟨_, rfl, by omega⟩
  · exact ⟨_, rfl, by omega⟩
end Go.Proofs.Ytanokgpnmbbajab.PB
end
section
namespace Go.Proofs.Ytanokgpnmbbajab.PB
open Go.RowKit Go.Proofs.YtanokgpnmbbajabW.PrintWords Go.Proofs.YtanokgpnmbbajabB
set_option linter.unusedVariables false
set_option linter.unusedSimpArgs false
/-- The state after entries, where all are possible. -/
def runM : Int × Int × Int × Int → List S95 → Option (Int × Int × Int × Int)
  | m, [] => some m
  | m, e :: es => match stepM m.1 m.2.1 m.2.2.1 m.2.2.2 e.f0 e.f1 with
    | none => none
    | some t => runM t es
/-- What both runs hand back. -/
def endM (n : Nat) : Option (Int × Int × Int × Int) → Int × Int × Int × Int × Bool
  | none => (0, 0, 0, 0, false)
  | some t => (t.1, t.2.1, t.2.2.1, t.2.2.2, decide ((n : Int) ≤ 200))
theorem spec_l29Run_l0 (l : List S95) (hl : l.length ≤ 9223372036854775806) : ∀ d i, i + d = l.length → ∀ a b c e, machOk a b c e = true →
    Ev (fun k => spec_l29Run.l0 k l (i : Int) a b c e) (endM l.length (runM (a, b, c, e) (l.drop i))) := by
  intro d
  induction d with
  | zero =>
    intro i hi a b c e hm
    refine Ev.succ ?_
    simp only [spec_l29Run.l0]
    refine Ev.neg (by omega) (Ev.eq ?_)
    have : l.drop i = [] := List.drop_eq_nil_of_le (by omega)
    rw [this]
    rfl
  | succ d ih =>
    intro i hi a b c e hm
    rw [getD_drop l z95 i (by omega)]
    obtain ⟨r, h1, h2⟩ := spec_l29Make_eq (k := (l.getD i z95).f0) (v := (l.getD i z95).f1) hm
    refine Ev.succ ?_
    simp only [spec_l29Run.l0, rd_Entry]
    refine Ev.pos (by omega) (Ev.pos (by omega) (Ev.bind (Ev.eq h1) ?_))
    simp only [runM]
    cases hs : stepM a b c e (l.getD i z95).f0 (l.getD i z95).f1 with
    | none =>
      rw [hs] at h2
      simp only [Tells] at h2
      exact Ev.neg (by simp [h2]) (Ev.eq rfl)
    | some t =>
      rw [hs] at h2
      simp only [Tells] at h2
      subst h2
      have h3 := ih (i + 1) (by omega) t.1 t.2.1 t.2.2.1 t.2.2.2 (stepM_ok hm hs)
      refine Ev.pos rfl ?_
      rw [w64 (by omega) (by omega)]
      exact h3
theorem impl_runEntries_l0 (l : List S95) (hl : l.length ≤ 9223372036854775806) : ∀ d i, i + d = l.length → ∀ a b c e, machOk a b c e = true →
    Ev (fun k => impl_runEntries.l0 k l l (l.length : Int) (i : Int) a b c e) (endM l.length (runM (a, b, c, e) (l.drop i))) := by
  intro d
  induction d with
  | zero =>
    intro i hi a b c e hm
    refine Ev.succ ?_
    simp only [impl_runEntries.l0]
    refine Ev.neg (by omega) (Ev.eq ?_)
    have : l.drop i = [] := List.drop_eq_nil_of_le (by omega)
    rw [this]
    rfl
  | succ d ih =>
    intro i hi a b c e hm
    rw [getD_drop l z95 i (by omega)]
    obtain ⟨r, h1, h2⟩ := impl_after_ev (k := (l.getD i z95).f0) (v := (l.getD i z95).f1) hm
    refine Ev.succ ?_
    simp only [impl_runEntries.l0, rd_Entry]
    refine Ev.pos (by omega) (Ev.pos (by omega) (Ev.pos (by omega) (Ev.bind h1 ?_)))
    simp only [runM]
    cases hs : stepM a b c e (l.getD i z95).f0 (l.getD i z95).f1 with
    | none =>
      rw [hs] at h2
      simp only [Tells] at h2
      exact Ev.neg (by simp [h2]) (Ev.eq rfl)
    | some t =>
      rw [hs] at h2
      simp only [Tells] at h2
      subst h2
      have h3 := ih (i + 1) (by omega) t.1 t.2.1 t.2.2.1 t.2.2.2 (stepM_ok hm hs)
      refine Ev.pos rfl ?_
      rw [w64 (by omega) (by omega)]
      exact h3
theorem spec_l29Run_ev {l : List S95} (hl : l.length ≤ 9223372036854775806) : Ev (fun k => spec_l29Run.f k l) (endM l.length (runM (0, 0, 0, 0) l)) := by
  unfold spec_l29Run.f
  exact spec_l29Run_l0 l hl l.length 0 (by omega) 0 0 0 0 (by decide)
theorem impl_runEntries_ev {l : List S95} (hl : l.length ≤ 9223372036854775806) : Ev (fun k => impl_runEntries.f k l) (endM l.length (runM (0, 0, 0, 0) l)) := by
  unfold impl_runEntries.f
  exact impl_runEntries_l0 l hl l.length 0 (by omega) 0 0 0 0 (by decide)
end Go.Proofs.Ytanokgpnmbbajab.PB
end
section
namespace Go.Proofs.Ytanokgpnmbbajab.Pure
open Go.RowKit Go.Proofs.YtanokgpnmbbajabW.PrintWords Go.Proofs.YtanokgpnmbbajabB Go.Proofs.Ytanokgpnmbbajab.PB
set_option linter.unusedVariables false
set_option linter.unusedSimpArgs false
/-- The faults of a station, counted. -/
def cnt : List S95 → List Int → List Int
  | [], c => c
  | x :: xs, c => cnt xs (if x.f0 = 3 then c.set x.f1.toNat (wrap64 (rd c x.f1 + 1)) else c)
theorem runM_faults : ∀ (l : List S95) (m t : Int × Int × Int × Int), runM m l = some t → ∀ x ∈ l, x.f0 = 3 → 0 ≤ x.f1 ∧ x.f1 < 12
  | [], _, _, _, x, hx, _ => by cases hx
  | y :: ys, m, t, h, x, hx, h3 => by
    simp only [runM] at h
    cases hs : stepM m.1 m.2.1 m.2.2.1 m.2.2.2 y.f0 y.f1 with
    | none => rw [hs] at h; cases h
    | some q =>
      rw [hs] at h
      rcases List.mem_cons.1 hx with rfl | hx
      · unfold stepM at hs
        split at hs
        · rw [if_neg (show ¬ x.f0 = 1 by omega), if_neg (show ¬ x.f0 = 2 by omega)] at hs
          try rw [if_pos h3] at hs
          split at hs
          · omega
          · cases hs
        · cases hs
      · exact runM_faults ys _ t h x hx h3
/-- The best place: from place i on, the first whose number is larger than all before. -/
def bst (c : List Int) : Nat → Nat → Nat → Nat
  | 0, _, b => b
  | d + 1, i, b => bst c d (i + 1) (if c.getD i 0 > c.getD b 0 then i else b)
theorem bst_spec (c : List Int) : ∀ (d i b : Nat), i + d = c.length → b < c.length → (∀ j, j < b → c.getD j 0 < c.getD b 0) → (∀ j, j < i → c.getD j 0 ≤ c.getD b 0) →
    bst c d i b < c.length ∧ (∀ j, j < bst c d i b → c.getD j 0 < c.getD (bst c d i b) 0) ∧ c.getD (bst c d i b) 0 = foldMx (c.drop i) (c.getD b 0)
  | 0, i, b, hi, hb, h1, h2 => by
    have : c.drop i = [] := List.drop_eq_nil_of_le (by omega)
    rw [this]
    exact ⟨hb, h1, rfl⟩
  | d + 1, i, b, hi, hb, h1, h2 => by
    rw [getD_drop c 0 i (by omega)]
    simp only [bst, foldMx]
    by_cases h : c.getD i 0 > c.getD b 0
    · have hm : mx (c.getD b 0) (c.getD i 0) = c.getD i 0 := by unfold mx; rw [if_pos h]
      rw [if_pos h, hm]
      refine bst_spec c d (i + 1) i (by omega) (by omega) (fun j hj => ?_) (fun j hj => ?_)
      · have := h2 j hj; omega
      · rcases Nat.lt_or_ge j i with h3 | h3
        · have := h2 j h3; omega
        · have : j = i := by omega
          subst this; exact Int.le_refl _
    · have hm : mx (c.getD b 0) (c.getD i 0) = c.getD b 0 := by unfold mx; rw [if_neg h]
      rw [if_neg h, hm]
      refine bst_spec c d (i + 1) b (by omega) hb h1 (fun j hj => ?_)
      rcases Nat.lt_or_ge j i with h3 | h3
      · exact h2 j h3
      · have : j = i := by omega
        subst this; omega
def place (c : List Int) : Nat := bst c c.length 0 0
def worst (c : List Int) : Int × Int × Int := if c.getD (place c) 0 = 0 then (0, 0, 4) else ((place c : Int), c.getD (place c) 0, 0)
theorem spec_WorstStation_l1 (c : List Int) (hc : c.length ≤ 1000) : ∀ d i b : Nat, i + d = c.length → b < c.length →
    Ev (fun k => spec_WorstStation.l1 k c (b : Int) (i : Int)) (if c.getD (bst c d i b) 0 = 0 then (0, 0, 4) else ((bst c d i b : Int), c.getD (bst c d i b) 0, 0)) := by
  intro d
  induction d with
  | zero =>
    intro i b hi hb
    rw [show bst c 0 i b = b from rfl]
    refine Ev.succ ?_
    simp only [spec_WorstStation.l1, rd_nat]
    refine Ev.neg (by omega) (Ev.pos (by omega) (Ev.pos (by omega) (Ev.ite (fun h => Ev.eq ?_) (fun h => Ev.eq ?_))))
    · rw [if_pos h]
    · rw [if_neg h]
  | succ d ih =>
    intro i b hi hb
    have e1 : wrap64 ((i : Int) + 1) = ((i + 1 : Nat) : Int) := by rw [w64 (by omega) (by omega)]; omega
    refine Ev.succ ?_
    simp only [spec_WorstStation.l1, rd_nat, e1]
    refine Ev.pos (by omega) (Ev.pos (by omega) (Ev.pos (by omega) (Ev.pos (by omega) (Ev.ite (fun h => ?_) (fun h => ?_)))))
    · refine (ih (i + 1) i (by omega) (by omega)).cast ?_
      rw [show bst c (d + 1) i b = bst c d (i + 1) (if c.getD i 0 > c.getD b 0 then i else b) from rfl, if_pos h]
    · refine (ih (i + 1) b (by omega) hb).cast ?_
      rw [show bst c (d + 1) i b = bst c d (i + 1) (if c.getD i 0 > c.getD b 0 then i else b) from rfl, if_neg h]
theorem slices_Index_first (c : List Int) (M : Int) (hc : c.length ≤ 1000) (B : Nat) (hB : B < c.length) (hM : c.getD B 0 = M) : ∀ d i, i + d = B → (∀ j, i ≤ j → j < B → c.getD j 0 ≠ M) →
    Ev (fun k => slices_Index_int64_int64.l0 k c M (c.length : Int) (i : Int)) (B : Int) := by
  intro d
  induction d with
  | zero =>
    intro i hi hj
    have : i = B := by omega
    subst this
    refine Ev.succ ?_
    simp only [slices_Index_int64_int64.l0, rd_nat]
    exact Ev.pos (by omega) (Ev.pos (by omega) (Ev.pos (by omega) (Ev.pos hM.symm (Ev.eq rfl))))
  | succ d ih =>
    intro i hi hj
    have e1 : wrap64 ((i : Int) + 1) = ((i + 1 : Nat) : Int) := by rw [w64 (by omega) (by omega)]; omega
    refine Ev.succ ?_
    simp only [slices_Index_int64_int64.l0, rd_nat, e1]
    exact Ev.pos (by omega) (Ev.pos (by omega) (Ev.pos (by omega) (Ev.neg (fun h => hj i (Nat.le_refl _) (by omega) h.symm) (ih (i + 1) (by omega) (fun j h1 h2 => hj j (by omega) h2)))))
theorem impl_tail (c : List Int) (h0 : 0 < c.length) (hc : c.length ≤ 1000) : Ev (fun k => (slices_Max_int64_int64.f c).bind fun t170 => (if t170 = 0 then (some ((0 : Int), (0 : Int), (4 : Int))) else ((slices_Index_int64_int64.f k c t170).bind fun t171 => (some (t171, t170, 0))))) (worst c) := by
  have hb := bst_spec c c.length 0 0 (by omega) h0 (fun j hj => by omega) (fun j hj => by omega)
  have hm : slices_Max_int64_int64.f c = some (c.getD (place c) 0) := by
    unfold slices_Max_int64_int64.f
    rw [if_neg (by omega)]
    congr 1
    have h3 := hb.2.2
    rw [getD_drop c 0 0 h0] at h3
    simp only [foldMx] at h3
    have e : mx (c.getD 0 0) (c.getD 0 0) = c.getD 0 0 := by unfold mx; split <;> rfl
    rw [e] at h3
    unfold place
    rw [h3]
    rfl
  unfold worst
  refine Ev.bind (Ev.eq hm) (Ev.ite (fun h => Ev.eq ?_) (fun h => ?_))
  · rw [if_pos h]
  · rw [if_neg h]
    refine Ev.bind (a := (place c : Int)) ?_ (Ev.eq rfl)
    unfold slices_Index_int64_int64.f
    refine slices_Index_first c _ hc (place c) hb.1 rfl (place c) 0 (by omega) (fun j _ hj => ?_)
    have := hb.2.1 j hj
    unfold place
    omega
theorem spec_WorstStation_l0 (l : List S95) (hl : l.length ≤ 200) (hf : ∀ x ∈ l, x.f0 = 3 → 0 ≤ x.f1 ∧ x.f1 < 12) : ∀ d i, i + d = l.length → ∀ c : List Int, c.length = 12 →
    Ev (fun k => spec_WorstStation.l0 k l c (i : Int)) (worst (cnt (l.drop i) c)) := by
  intro d
  induction d with
  | zero =>
    intro i hi c hc
    refine Ev.succ ?_
    simp only [spec_WorstStation.l0]
    have : l.drop i = [] := List.drop_eq_nil_of_le (by omega)
    rw [this]
    exact Ev.neg (by omega) (spec_WorstStation_l1 c (by omega) c.length 0 0 (by omega) (by omega))
  | succ d ih =>
    intro i hi c hc
    rw [getD_drop l z95 i (by omega)]
    have hx := hf _ (getD_mem l z95 i (by omega))
    have e1 : wrap64 ((i : Int) + 1) = ((i + 1 : Nat) : Int) := by rw [w64 (by omega) (by omega)]; omega
    refine Ev.succ ?_
    simp only [spec_WorstStation.l0, rd_Entry, e1]
    generalize l.getD i z95 = x at hx ⊢
    refine Ev.pos (by omega) (Ev.pos (by omega) (Ev.ite (fun h => Ev.pos (hx h).1 (Ev.pos (by have := hx h; omega) ?_)) (fun h => ?_)))
    · refine (ih (i + 1) (by omega) _ (by simpa using hc)).cast ?_
      simp only [cnt]; rw [if_pos h]
    · refine (ih (i + 1) (by omega) c hc).cast ?_
      simp only [cnt]; rw [if_neg h]
theorem impl_WorstStation_l0 (l : List S95) (hl : l.length ≤ 200) (hf : ∀ x ∈ l, x.f0 = 3 → 0 ≤ x.f1 ∧ x.f1 < 12) : ∀ d i, i + d = l.length → ∀ c : List Int, c.length = 12 →
    Ev (fun k => impl_WorstStation.l0 k c l (l.length : Int) (i : Int)) (worst (cnt (l.drop i) c)) := by
  intro d
  induction d with
  | zero =>
    intro i hi c hc
    refine Ev.succ ?_
    simp only [impl_WorstStation.l0]
    have : l.drop i = [] := List.drop_eq_nil_of_le (by omega)
    rw [this]
    exact Ev.neg (by omega) (impl_tail c (by omega) (by omega))
  | succ d ih =>
    intro i hi c hc
    rw [getD_drop l z95 i (by omega)]
    have hx := hf _ (getD_mem l z95 i (by omega))
    have e1 : wrap64 ((i : Int) + 1) = ((i + 1 : Nat) : Int) := by rw [w64 (by omega) (by omega)]; omega
    refine Ev.succ ?_
    simp only [impl_WorstStation.l0, rd_Entry, e1]
    generalize l.getD i z95 = x at hx ⊢
    refine Ev.pos (by omega) (Ev.pos (by omega) (Ev.pos (by omega) (Ev.ite (fun h => Ev.pos (hx h).1 (Ev.pos (by have := hx h; omega) ?_)) (fun h => ?_))))
    · refine (ih (i + 1) (by omega) _ (by simpa using hc)).cast ?_
      simp only [cnt]; rw [if_pos h]
    · refine (ih (i + 1) (by omega) c hc).cast ?_
      simp only [cnt]; rw [if_neg h]
theorem endM_true {n : Nat} {l : List S95} {m : Int × Int × Int × Int} (h : (endM n (runM m l)).2.2.2.2 = true) : n ≤ 200 ∧ ∀ x ∈ l, x.f0 = 3 → 0 ≤ x.f1 ∧ x.f1 < 12 := by
  cases ho : runM m l with
  | none => rw [ho] at h; cases h
  | some t =>
    rw [ho] at h
    simp only [endM, decide_eq_true_eq] at h
    exact ⟨by omega, runM_faults l m t ho⟩
def worstOf (l : List S95) : Int × Int × Int := if (endM l.length (runM (0, 0, 0, 0) l)).2.2.2.2 = true then worst (cnt l (List.replicate 12 0)) else (0, 0, 1)
theorem spec_WorstStation_ev {l : List S95} (hl : l.length ≤ 9223372036854775806) : Ev (fun k => spec_WorstStation.f k l) (worstOf l) := by
  unfold spec_WorstStation.f worstOf
  refine Ev.bind (spec_l29Run_ev hl) (Ev.ite (fun h => Ev.pos (by omega) ?_) (fun h => Ev.eq (by rw [if_neg h])))
  rw [if_pos h]
  have h2 := endM_true h
  exact (spec_WorstStation_l0 l h2.1 h2.2 l.length 0 (by omega) _ (by simp)).cast (by simp)
theorem impl_WorstStation_ev {l : List S95} (hl : l.length ≤ 9223372036854775806) : Ev (fun k => impl_WorstStation.f k l) (worstOf l) := by
  unfold impl_WorstStation.f worstOf
  refine Ev.bind (impl_runEntries_ev hl) (Ev.ite (fun h => Ev.pos (by omega) ?_) (fun h => Ev.eq (by rw [if_neg h])))
  rw [if_pos h]
  have h2 := endM_true h
  exact (impl_WorstStation_l0 l h2.1 h2.2 l.length 0 (by omega) _ (by simp)).cast (by simp)
theorem FnExactWorstStation : laws_FnExactWorstStation.Pure := by
  intro l hg
  obtain ⟨r, h1, h2⟩ := laws_szEntryS_eq hg.1
  refine Ev.rounds (g := fun k => laws_FnExactWorstStation.f k l) ?_
  unfold laws_FnExactWorstStation.f
  refine Ev.bind (Ev.eq h1) (Ev.ite (fun _ => Ev.eq rfl) (fun h => ?_))
  have hl : l.length ≤ 1048576 := by omega
  have hm : (l.map toEntry).length ≤ 1048576 := by simpa using hl
  have s0 := laws_toEntryS_ev hl
  have s1 := spec_WorstStation_ev (l := l.map toEntry) (by omega)
  have s2 := impl_WorstStation_ev (l := l.map toEntry) (by omega)
  generalize l.map toEntry = m at s0 s1 s2 hm
  generalize worstOf m = v at s1 s2
  obtain ⟨v1, v2, v3⟩ := v
  have q2 := laws_eqEntryS_refl (l := m) (by omega)
  refine Ev.bind s0 (Ev.bind s1 (Ev.bind s0 (Ev.bind s2 (Ev.pos (by trivial) (Ev.pos (by trivial) (Ev.succ ?_))))))
  simp only [laws_FnExactWorstStation.j0]
  refine Ev.neg (by simp) (Ev.bind s0 (Ev.bind q2 (Ev.pos (by trivial) (Ev.eq rfl))))
end Go.Proofs.Ytanokgpnmbbajab.Pure
end
