import Derived.ChangeArms
import Derived.Deep.Slices
import Derived.OpenShut
import Derived.ProofKit
import Derived.Test.YtokpepaoneiepaaGreatDoorCFnSides1
set_option linter.unusedVariables false
set_option linter.unusedSimpArgs false
section
namespace Go.Proofs.YtokpepaoneiepaaGreatDoorW.Opens
open Go.RowKit Go.ChangeShapes Go.WideShapes Go.Deep Go.Proofs.YtokpepaoneiepaaGreatDoorW.PrintWords
def Opens (P : Program) (t : TypeId) {α : Type} (d : Kd α) (g : α → Prop) : Prop :=
 ∀ (H : Type) (enc : TypeId × Value → H) (w : World) (base : Nat) (spare : Nat → Bool) (held : Bool) (fuel : Nat) (cs : List Value) (x : DataW H × List MemPlace),
  DataW.trod enc P w base spare held fuel t cs = some x → ∃ a, d.K w a cs ∧ g a
theorem Opens.int {P : Program} {t : TypeId} {k : IntKind} (h : P.underlying t = some (.int k)) : Opens P t (Kd.int k) (fun n => (Lit.int k n).wf = true) :=
 fun H enc w base spare held fuel cs x hx => by
  obtain ⟨n, rfl, _, hw⟩ := DataW.trod_int h hx
  exact ⟨n, rfl, hw⟩
theorem wf_i64 {n : Int} (h : (Lit.int .i64 n).wf = true) : -9223372036854775808 ≤ n ∧ n ≤ 9223372036854775807 := bounds_i64 h
theorem Opens.i64 {P : Program} {t : TypeId} (h : P.underlying t = some (.int .i64)) : Opens P t (Kd.int .i64) (fun n => -9223372036854775808 ≤ n ∧ n ≤ 9223372036854775807) :=
 fun H enc w base spare held fuel cs x hx => by
  obtain ⟨a, hK, hg⟩ := Opens.int h H enc w base spare held fuel cs x hx
  exact ⟨a, hK, wf_i64 hg⟩
theorem wf_u8 {n : Int} (h : (Lit.int .u8 n).wf = true) : 0 ≤ n ∧ n ≤ 255 := bounds_u8 h
theorem Opens.u8 {P : Program} {t : TypeId} (h : P.underlying t = some (.int .u8)) : Opens P t (Kd.int .u8) (fun n => 0 ≤ n ∧ n ≤ 255) :=
 fun H enc w base spare held fuel cs x hx => by
  obtain ⟨a, hK, hg⟩ := Opens.int h H enc w base spare held fuel cs x hx
  exact ⟨a, hK, wf_u8 hg⟩
theorem Opens.bool {P : Program} {t : TypeId} (h : P.underlying t = some .bool) : Opens P t Kd.bool (fun _ => True) :=
 fun H enc w base spare held fuel cs x hx => by
  obtain ⟨n, rfl, _⟩ := DataW.trod_bool h hx
  exact ⟨n, rfl, trivial⟩
theorem Opens.string {P : Program} {t : TypeId} (h : P.underlying t = some .string) : Opens P t Kd.string (fun s => s.size ≤ 9223372036854775807) :=
 fun H enc w base spare held fuel cs x hx => by
  obtain ⟨n, rfl, _, hs⟩ := DataW.trod_string h hx
  exact ⟨n, rfl, by unfold maxLen at hs; omega⟩
theorem cells_get {w : World} {base : Nat} {a : Addr} {n : Nat} {cs : List Value} (h : w.cells? base a n = some cs) :
  cs.length = n ∧ ∀ j u, cs[j]? = some u → w.cell? (a.add j) = some u := by
 unfold World.cells? at h
 split at h
 ·have hl : cs.length = n := by simpa using mapM_some_length h
  refine ⟨hl, fun j u hu => ?_⟩
  have hj : j < n := by
   rcases Nat.lt_or_ge j n with h' | h'
   ·exact h'
   ·rw [List.getElem?_eq_none (by omega)] at hu; cases hu
  have h2 := mapM_some_get h j j (by simp [hj])
  rw [h2]; exact hu
 ·cases h
theorem Opens.slice {P : Program} {t e : TypeId} {α : Type} [Inhabited α] {d : Kd α} {g : α → Prop} (ht : P.underlying t = some (.slice e)) (hc : P.cellsOf e = d.sz) (h : Opens P e d g) :
  Opens P t (Kd.slice e d) (fun l => l.length ≤ 9223372036854775807 ∧ ∀ x ∈ l, g x) := by
 intro H enc w base spare held fuel cs x hx
 rcases open_slice ht hx with ⟨rfl, _⟩ | ⟨a, len, cap, m, n, D, Pl, rfl, _, hl, hm, hmm, _, hel⟩
 ·exact ⟨[], ⟨none, 0, rfl, Nat.le_refl _, Kd.C_nil d w⟩, by simp, by simp⟩
 ·have hlm : len ≤ m := by rw [hmm]; split <;> omega
  unfold maxLen at hm
  have hex : ∀ i, i < len → ∃ y : α, g y ∧ ∃ c, c.length = d.sz ∧ d.K w y c ∧ ∀ j u, c[j]? = some u → w.cell? (a.add (i * d.sz + j)) = some u := by
   intro i hi
   obtain ⟨cs', h1, h2⟩ := hel i (by omega)
   obtain ⟨y, hK, hg⟩ := h H enc w base spare held n cs' _ h2
   rw [hc] at h1
   obtain ⟨e1, e2⟩ := cells_get h1
   exact ⟨y, hg, cs', e1, hK, fun j u hu => by rw [← Deep.add_add]; exact e2 j u hu⟩
  obtain ⟨f, hf⟩ := choose_lt hex
  refine ⟨(List.range len).map f, ⟨some a, cap, by simp, by simpa using hl, by simp, by simp; omega, fun hpos => ⟨a, rfl, fun j p hp => ?_⟩⟩, by simp; omega, fun y hy => ?_⟩
  ·have hj : j < len := by
    rcases Nat.lt_or_ge j len with h' | h'
    ·exact h'
    ·rw [List.getElem?_eq_none (by simpa using h')] at hp; cases hp
   have : p = f j := by simpa [hj] using hp.symm
   subst this
   exact (hf j hj).2
  ·simp only [List.mem_map, List.mem_range] at hy
   obtain ⟨i, hi, rfl⟩ := hy
   exact (hf i hi).1
def offs (P : Program) (ts : List TypeId) (i : Nat) : Nat := ((ts.take i).map P.cellsOf).sum
def OpensL (P : Program) (ts : List TypeId) {α : Type} (d : Kd α) (g : α → Prop) : Prop :=
 ∀ (H : Type) (enc : TypeId × Value → H) (w : World) (base : Nat) (spare : Nat → Bool) (held : Bool) (n : Nat) (cs : List Value), cs.length = (ts.map P.cellsOf).sum →
  (∀ i t, ts[i]? = some t → ∃ y, DataW.trod enc P w base spare held n t ((cs.drop (offs P ts i)).take (P.cellsOf t)) = some y) → ∃ a, d.K w a cs ∧ g a
theorem OpensL.one {P : Program} {t : TypeId} {α : Type} {d : Kd α} {g : α → Prop} (h : Opens P t d g) : OpensL P [t] d g := by
 intro H enc w base spare held n cs hl hf
 obtain ⟨y, hy⟩ := hf 0 t rfl
 have e : (cs.drop (offs P [t] 0)).take (P.cellsOf t) = cs := by
  have hl' : cs.length = P.cellsOf t := by simpa using hl
  simp [offs, ← hl']
 rw [e] at hy
 exact h _ _ _ _ _ _ _ _ _ hy
theorem OpensL.cons {P : Program} {t : TypeId} {ts : List TypeId} {α β : Type} {d : Kd α} {d' : Kd β} {g : α → Prop} {g' : β → Prop} (h : Opens P t d g) (hs : OpensL P ts d' g') :
  OpensL P (t :: ts) (Kd.pair d d') (fun p => g p.1 ∧ g' p.2) := by
 intro H enc w base spare held n cs hl hf
 obtain ⟨y, hy⟩ := hf 0 t rfl
 obtain ⟨a, hK, hg⟩ := h _ _ _ _ _ _ _ _ _ hy
 obtain ⟨b, hK', hg'⟩ := hs H enc w base spare held n (cs.drop (P.cellsOf t)) (by simp at hl ⊢; omega) (fun i u hu => by
  obtain ⟨z, hz⟩ := hf (i + 1) u (by simpa using hu)
  refine ⟨z, ?_⟩
  rw [List.drop_drop]
  have e : P.cellsOf t + offs P ts i = offs P (t :: ts) (i + 1) := by simp [offs]
  rw [e]
  exact hz)
 refine ⟨(a, b), ⟨_, _, ?_, hK, hK'⟩, hg, hg'⟩
 simp [offs]
theorem Opens.struct {P : Program} {t : TypeId} {fs : Array Field} {α : Type} {d : Kd α} {g : α → Prop} (ht : P.underlying t = some (.struct fs)) (ts : List TypeId)
  (hts : fs.toList.map (fun f => (f.type, f.offset)) = (List.range ts.length).map (fun i => (ts.getD i 0, offs P ts i))) (hc : P.cellsOf t = (ts.map P.cellsOf).sum) (h : OpensL P ts d g) : Opens P t d g := by
 intro H enc w base spare held fuel cs x hx
 obtain ⟨xs, n, _, _, hl, hxl, hf⟩ := DataW.trod_struct ht hx
 have hn : fs.size = ts.length := by simpa using congrArg List.length hts
 refine h H enc w base spare held n cs (hl.trans hc) (fun i u hu => ?_)
 have hi : i < ts.length := by
  rcases Nat.lt_or_ge i ts.length with h' | h'
  ·exact h'
  ·rw [List.getElem?_eq_none h'] at hu; cases hu
 have hfi : fs[i]? = some fs[i] := Array.getElem?_eq_getElem (by omega)
 have h1 := hf i fs[i] hfi
 have h2 := congrArg (fun l => l[i]?) hts
 simp only [List.getElem?_map] at h2
 have h3 : fs.toList[i]? = some fs[i] := by rw [Array.getElem?_toList]; exact hfi
 rw [h3, List.getElem?_range hi] at h2
 simp only [Option.map_some, Option.some.injEq, Prod.mk.injEq] at h2
 have h4 : ts.getD i 0 = u := by simp [hu]
 rw [h2.1, h2.2, h4] at h1
 have hx : xs[i]? = some xs[i] := List.getElem?_eq_getElem (by omega)
 exact ⟨xs[i], h1.trans hx⟩
theorem Opens.iso {P : Program} {t : TypeId} {α β : Type} {d : Kd α} {g : α → Prop} {f : β → α} (f' : α → β) (hff : ∀ a, f (f' a) = a) (h : Opens P t d g) :
  Opens P t (Kd.iso d f) (fun b => g (f b)) := fun H enc w base spare held fuel cs x hx => by
 obtain ⟨a, hK, hg⟩ := h H enc w base spare held fuel cs x hx
 exact ⟨f' a, by show d.K w (f (f' a)) cs; rw [hff]; exact hK, by show g (f (f' a)); rw [hff]; exact hg⟩
theorem Opens.imp {P : Program} {t : TypeId} {α : Type} {d : Kd α} {g g' : α → Prop} (h : Opens P t d g) (hg : ∀ a, g a → g' a) : Opens P t d g' :=
 fun H enc w base spare held fuel cs x hx => by
  obtain ⟨a, hK, h1⟩ := h H enc w base spare held fuel cs x hx
  exact ⟨a, hK, hg a h1⟩
theorem Opens.agg {H : Type} {enc : TypeId × Value → H} {P : Program} {w : World} {base : Nat} {spare : Nat → Bool} {held : Bool} {t : TypeId} {α : Type} {d : Kd α} {g : α → Prop} {cs : Array Value} {y : DataW H} {ps : List MemPlace}
  (h : Opens P t d g) (ht : DataW.Trod enc P w base spare held t (.agg cs) y ps) : ∃ x, d.K w x cs.toList ∧ g x := by
 obtain ⟨fuel, hf⟩ := ht
 exact h H enc w base spare held fuel _ _ hf
theorem Opens.sl {H : Type} {enc : TypeId × Value → H} {P : Program} {w : World} {base : Nat} {spare : Nat → Bool} {held : Bool} {t e : TypeId} {α : Type} {d : Kd α} {g : List α → Prop} {a : Option Addr} {len cap : Nat} {y : DataW H} {ps : List MemPlace}
  (h : Opens P t (Kd.slice e d) g) (ht : DataW.Trod enc P w base spare held t (.slice a len cap) y ps) : ∃ l, len = l.length ∧ l.length ≤ cap ∧ d.C w a l.length l ∧ g l := by
 obtain ⟨fuel, hf⟩ := ht
 obtain ⟨l, ⟨A, c, e1, hl, hC⟩, hg⟩ := h H enc w base spare held fuel _ _ hf
 simp [Value.cells] at e1
 obtain ⟨rfl, rfl, rfl⟩ := e1
 exact ⟨l, rfl, hl, hC, hg⟩
end Go.Proofs.YtokpepaoneiepaaGreatDoorW.Opens
end
