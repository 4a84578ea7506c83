-- Gathered by this session's program wip/tool/shake.py out of its own texts and of what the kit's print and the session's patches of it wrote for this claim.
import Derived.Test.YtejpfjokaphebaaDoorProg
import Derived.ArgAppend
import Derived.Below
import Derived.BigQuiet
import Derived.Deep.AppendLies
import Derived.Deep.CutBlock
import Derived.Deep.DeepCutAuto
import Derived.Deep.Draws
import Derived.Deep.LoopGhost
import Derived.Deep.OwnRows
import Derived.Deep.QuietTactic
import Derived.Deep.RegionHeld3
import Derived.KernelRfl
import Derived.Laws.BitsLemmas
import Derived.Laws.BytesArg
import Derived.Laws.IdiomCopy
import Derived.Laws.MakeOwn
import Derived.Laws.OwnMore
import Derived.Laws.Rows
import Derived.Laws.Slices
import Derived.Laws.StructEq
import Derived.Lib.AppendStr
import Derived.Lib.ConvBytes
import Derived.Maps.AppendAt
import Derived.OrdersHeld
import Derived.OwnWalk
import Derived.RowKit
import Derived.RowKit3
import Derived.Tactics
import Derived.WalkKit
import Derived.WideLaws
import Derived.Test.YtejpfjokaphebaaDoorCJournalText6
import Derived.Test.YtejpfjokaphebaaDoorCJournalText7
import Derived.Test.YtejpfjokaphebaaDoorCJournalText10
import Derived.Test.YtejpfjokaphebaaDoorCJournalText14
section
namespace Go.Proofs.YtejpfjokaphebaaDoor.PA
open Go.RowKit Go.Proofs.YtejpfjokaphebaaDoorW.PrintWords Go.Proofs.YtejpfjokaphebaaDoorB
set_option linter.unusedVariables false
set_option linter.unusedSimpArgs false
theorem rd_Entry (l : List S86) (i : Nat) : rd_T86 l (i : Int) = l.getD i z86 := by simp [rd_T86]
theorem rdL_Entry (l : List S88) (i : Nat) : rd_T88 l (i : Int) = l.getD i z88 := by simp [rd_T88]
def toEntry (x : S88) : S86 := ⟨x.f0, x.f1⟩
theorem laws_toEntryS_l0 (l : List S88) (hl : l.length ≤ 1048576) : ∀ d i, i + d = l.length →
    Ev (fun k => laws_toEntryS.l0 k l ((l.take i).map toEntry ++ List.replicate (l.length - i) z86) (i : Int)) (l.map toEntry) := by
  intro d
  induction d with
  | zero =>
    intro i hi
    refine Ev.succ ?_
    simp only [laws_toEntryS.l0]
    refine Ev.neg (by omega) (Ev.eq ?_)
    have : i = l.length := by omega
    subst this
    simp
  | succ d ih =>
    intro i hi
    have h1 := fill_step l z88 z86 toEntry i (by omega)
    have h2 := ih (i + 1) (by omega)
    refine Ev.succ ?_
    simp only [laws_toEntryS.l0]
    refine Ev.pos (by omega) (Ev.pos (by omega) (Ev.bind (Ev.eq rfl) (Ev.pos (by simp; omega) ?_)))
    rw [rdL_Entry, w64 (by omega) (by omega), Int.toNat_natCast]
    rw [← h1] at h2
    exact h2
theorem laws_toEntryS_ev {l : List S88} (hl : l.length ≤ 1048576) : Ev (fun k => laws_toEntryS.f k l) (l.map toEntry) := by
  have h := laws_toEntryS_l0 l hl l.length 0 (by omega)
  unfold laws_toEntryS.f
  refine Ev.pos (by omega) (Ev.pos (by omega) ?_)
  rw [Int.toNat_natCast]
  simpa using h
theorem laws_eqEntryS_l0 (l : List S86) (hl : l.length ≤ 9223372036854775806) : ∀ d i, i + d = l.length → Ev (fun k => laws_eqEntryS.l0 k l l (i : Int)) true := by
  intro d
  induction d with
  | zero =>
    intro i hi
    refine Ev.succ ?_
    simp only [laws_eqEntryS.l0]
    exact Ev.neg (by omega) (Ev.eq rfl)
  | succ d ih =>
    intro i hi
    have h2 := ih (i + 1) (by omega)
    refine Ev.succ ?_
    simp only [laws_eqEntryS.l0]
    refine Ev.pos (by omega) (Ev.pos (by omega) (Ev.pos (by omega) (Ev.bind (a := true) (Ev.eq (by simp [laws_eqEntry.f])) (Ev.pos rfl ?_))))
    rw [w64 (by omega) (by omega)]
    exact h2
theorem laws_eqEntryS_refl {l : List S86} (hl : l.length ≤ 9223372036854775806) : Ev (fun k => laws_eqEntryS.f k l l) true := by
  unfold laws_eqEntryS.f
  exact Ev.pos rfl (laws_eqEntryS_l0 l hl l.length 0 (by omega))
theorem laws_szEntryS_eq {l : List S88} (hl : l.length ≤ 9223372036854775807) : ∃ r, laws_szEntryS.f l 1048576 = some r ∧ (r < 0 ↔ ¬ l.length ≤ 1048576) := by
  unfold laws_szEntryS.f
  rw [w64 (by omega) (by omega)]
  split
  · exact ⟨_, rfl, by omega⟩
  · exact ⟨_, rfl, by omega⟩
end Go.Proofs.YtejpfjokaphebaaDoor.PA
end
