-- Gathered by this session's program wip/tool/shake.py out of its own texts and of what the kit's print and the session's patches of it wrote for this claim.
import Derived.ArgAppend
import Derived.Below
import Derived.BigQuiet
import Derived.Deep.AppendLies
import Derived.Deep.CutBlock
import Derived.Deep.DeepCutAuto
import Derived.Deep.Draws
import Derived.Deep.LoopGhost
import Derived.Deep.OwnRows
import Derived.Deep.QuietTactic
import Derived.Deep.RegionHeld3
import Derived.KernelRfl
import Derived.Laws.BytesArg
import Derived.Laws.IdiomCopy
import Derived.Laws.MakeOwn
import Derived.Laws.OwnMore
import Derived.Laws.Rows
import Derived.Laws.Slices
import Derived.Lib.AppendStr
import Derived.Lib.ConvBytes
import Derived.Lib.SliceRun
import Derived.Maps.AppendAt
import Derived.OwnWalk
import Derived.RowKit
import Derived.RowKit3
import Derived.Shelf.SlSortCmp.KitK
import Derived.Tactics
import Derived.WalkKit
import Derived.WideLaws
import Derived.Test.YtanokgpnmbbajaaCFnOrderBooks8
section
namespace Go.Proofs.Ytanokgpnmbbajaa.RowKk
open Go.Sort Go.Proofs.YtanokgpnmbbajaaW.PrintWords
set_option linter.unusedVariables false
set_option linter.unusedSectionVars false
section
variable {α : Type} {d : Kd α} {e base i c g : Nat} {ok : Nat → Prop} {W : World} {xs : List α}
/-- A store behind the slice's last element. -/
theorem R_beyond1 (h : d.R e W base ok (.slice (some ⟨g, 0, none⟩) i c) xs) (o : Nat) (ho : i * d.sz ≤ o) (u : Value) : d.R e (W.setCell ⟨g, o, none⟩ u) base ok (.slice (some ⟨g, 0, none⟩) i c) xs := by
  obtain ⟨h0, inner, hw, hr⟩ := h
  refine ⟨h0, inner, ⟨hw.1, ?_⟩, hr.imp_ (fun _ _ hp => d.M_far (p := ⟨g, o, none⟩) hp (fun k hk e => hk.2 (by rw [e]; rfl)) u)⟩
  rcases hw.2 with ⟨he, _⟩ | ⟨g', cap, cur, he, hg, hh, h1, h2, h3, h4⟩
  · cases he
  · injection he with ea en ec
    injection ea with ea
    injection ea with ea
    subst ea en ec
    refine .inr ⟨g, c, cur.setIfInBounds o u, rfl, hg, ?_, h1, h2, by simpa using h3, ?_⟩
    · simp [World.setCell, Array.getElem?_modify, hh]
    · rw [← h4]
      apply List.ext_getElem?
      intro j
      by_cases hj : j < xs.length * d.sz
      · rw [List.getElem?_take_of_lt hj, List.getElem?_take_of_lt hj, Array.getElem?_toList, Array.getElem?_toList, Array.getElem?_setIfInBounds, if_neg (by omega)]
      · rw [List.getElem?_take_eq_none (by omega), List.getElem?_take_eq_none (by omega)]
theorem R_beyond : ∀ (vs : List Value) (o : Nat) {W : World}, d.R e W base ok (.slice (some ⟨g, 0, none⟩) i c) xs → i * d.sz ≤ o → d.R e (W.setCells g o vs) base ok (.slice (some ⟨g, 0, none⟩) i c) xs
  | [], _, _, h, _ => h
  | v :: r, o, W, h, ho => R_beyond r (o + 1) (R_beyond1 h o ho v) (by omega)
theorem below_setCells {B : Nat} {w : World} (hg : B ≤ g) : ∀ (vs : List Value) (o : Nat) {W : World}, Go.RowKit.Below B w W → Go.RowKit.Below B w (W.setCells g o vs)
  | [], _, _, h => h
  | v :: r, o, W, h => below_setCells hg r (o + 1) (h.setCell hg v)
end
open Go.Lib in
/-- The built-in clear over a slice whose elements have several cells, each of one cell. -/
theorem run_clear_rows {P : Program} (w : World) (t e ty : TypeId) (z : Value) (zs : Array Value) (ht : P.underlying t = some (.slice e)) (hv : ∀ w, (zeroValue e).run P w = .ok z w) (hz : z.cells = zs) (h1 : ∀ v ∈ zs, v.oneCell' = true) (hs : 0 < zs.size)
    (b o n c : Nat) (hn : 0 < n) (hc : ∀ j, j < n * zs.size → (w.cell? ⟨b, o + j, none⟩).isSome = true) (hf : ∀ j, j < n * zs.size → w.frozen? ⟨b, o + j, none⟩ = false) :
    (Builtin.clear_ #[t] ty #[.slice (some ⟨b, o, none⟩) n c]).run P w = .ok (.tuple #[]) (w.setCells b o (Builtin.zeroCells zs n).toList) := by
  have hone : ∀ v ∈ (Builtin.zeroCells zs n).toList, v.oneCell' = true := by
    intro v hv'
    simp only [Builtin.zeroCells, Array.toList_map, List.mem_map] at hv'
    obtain ⟨i, _, rfl⟩ := hv'
    have hi : i % zs.size < zs.size := Nat.mod_lt _ hs
    rw [getElem!_pos zs (i % zs.size) hi]
    exact h1 _ (Array.getElem_mem hi)
  have hst := run_storeCells_cells (P := P) b o (Builtin.zeroCells zs n).toList 0 w (by simpa [Builtin.zeroCells] using hc) (by simpa [Builtin.zeroCells] using hf) hone
  simp only [Nat.add_zero] at hst
  obtain ⟨m, rfl⟩ : ∃ m, n = m + 1 := ⟨n - 1, by omega⟩
  simp [Builtin.clear_, run_underlying ht, hv, hz, hst]
end Go.Proofs.Ytanokgpnmbbajaa.RowKk
end
