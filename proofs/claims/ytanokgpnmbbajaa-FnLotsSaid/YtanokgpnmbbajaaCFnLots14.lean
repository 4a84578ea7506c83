-- Gathered by this session's program wip/tool/shake.py out of its own texts and of what the kit's print and the session's patches of it wrote for this claim.
import Derived.ArgAppend
import Derived.Below
import Derived.BigQuiet
import Derived.Deep.AppendLies
import Derived.Deep.CutBlock
import Derived.Deep.DeepCutAuto
import Derived.Deep.Draws
import Derived.Deep.LoopGhost
import Derived.Deep.OwnRows
import Derived.Deep.QuietTactic
import Derived.Deep.RegionHeld3
import Derived.KernelRfl
import Derived.Laws.BytesArg
import Derived.Laws.CopyOwn
import Derived.Laws.CopyRow
import Derived.Laws.IdiomCopy
import Derived.Laws.MakeOwn
import Derived.Laws.OwnMore
import Derived.Laws.Rows
import Derived.Laws.Slices
import Derived.Lib.AppendStr
import Derived.Lib.AppendZerosOnto
import Derived.Lib.ConvBytes
import Derived.Lib.Overlaps
import Derived.Maps.AppendAt
import Derived.OwnWalk
import Derived.RowKit
import Derived.RowKit3
import Derived.Shelf.SlSortCmp.KitK
import Derived.Tactics
import Derived.WalkKit
import Derived.WideLaws
import Derived.Test.YtanokgpnmbbajaaCFnLots13
section
namespace Go.Proofs.Ytanokgpnmbbajaa.RowKk
open Go.Proofs.YtanokgpnmbbajaaW.PrintWords
set_option linter.unusedVariables false
set_option linter.unusedSectionVars false
theorem run_copy_rowK {P : Program} (w : World) (dT sT ty elem : TypeId) (size g o dLen dCap : Nat) (a : Addr) (sLen sCap : Nat) (cur : List Value) (t : TypeId) (cs : List Value)
    (hu : P.underlying dT = some (.slice elem)) (hs : (P.info? elem).map (·.size) = some size)
    (hg : w.heap[g]? = some (.cells cur.toArray t (0, 0))) (hn : cs.length = Nat.min sLen dLen * size)
    (hsrc : ∀ j v, cs[j]? = some v → w.cell? (a.add j) = some v) (hfit : o + cs.length ≤ cur.length) (h1 : ∀ v ∈ cs, v.oneCell' = true) :
    (Builtin.copy_ #[dT, sT] ty #[.slice (some ⟨g, o, none⟩) dLen dCap, .slice (some a) sLen sCap]).run P w = .ok (goInt (Nat.min sLen dLen)) (w.setRow g (splice cur o cs).toArray) := by
  have hl := run_loadCells_list (P := P) w a cs hsrc
  have hst := run_storeCells_at P g o t cs 0 cur.toArray w hg (by simpa using hfit) h1
  simp only [Nat.add_zero] at hst
  have e : (cur.toArray.toList.take o ++ cs ++ cur.toArray.toList.drop (o + cs.length)) = splice cur o cs := by simp [splice]
  rw [e] at hst
  cases hq : P.info? elem with
  | none => simp [hq] at hs
  | some i =>
    have hi : i.size = size := by simpa [hq] using hs
    simp [Builtin.copy_, run_underlying hu, Builtin.lenOf, Builtin.firstCells, sizeOf, typeInfo, hq, hi, ← hn, hl, hst]
section
variable {α : Type} {enc : α → List Value} {k : Nat}
theorem flat_take (hk : ∀ x, (enc x).length = k) : ∀ (l : List α) (i : Nat), (l.flatMap enc).take (i * k) = (l.take i).flatMap enc
  | [], i => by simp
  | x :: l, 0 => by simp
  | x :: l, i + 1 => by
    rw [List.flatMap_cons, List.take_succ_cons, List.flatMap_cons, Nat.add_mul, Nat.one_mul, Nat.add_comm, List.take_append, hk]
    rw [List.take_of_length_le (by rw [hk]; omega), Nat.add_sub_cancel_left, flat_take hk l i]
theorem flat_drop (hk : ∀ x, (enc x).length = k) : ∀ (l : List α) (i : Nat), (l.flatMap enc).drop (i * k) = (l.drop i).flatMap enc
  | [], i => by simp
  | x :: l, 0 => by simp
  | x :: l, i + 1 => by
    rw [List.flatMap_cons, List.drop_succ_cons, Nat.add_mul, Nat.one_mul, Nat.add_comm, List.drop_append, List.drop_of_length_le (by rw [hk]; omega), List.nil_append, hk, Nat.add_sub_cancel_left]
    exact flat_drop hk l i
theorem flat_insert (hk : ∀ x, (enc x).length = k) (l : List α) (i : Nat) (x : α) : (l.flatMap enc).take (i * k) ++ (enc x ++ (l.flatMap enc).drop (i * k)) = (l.take i ++ x :: l.drop i).flatMap enc := by
  rw [flat_take hk, flat_drop hk, List.flatMap_append, List.flatMap_cons]
variable {d : Kd α} {e base : Nat} {ok : Nat → Prop} {W : World} {v : Value} {xs : List α}
theorem R_cells (hsz : d.sz = k) (hk : ∀ x, (enc x).length = k) (hM : ∀ w b (ok : Nat → Prop) x cs, d.M w b ok x cs → cs = enc x) (h : d.R e W base ok v xs) : W.ownsRow base e k v xs.length (xs.flatMap enc) := by
  obtain ⟨_, inner, ho, hr⟩ := h
  rw [hsz] at ho hr
  rw [← reps_flat (fun x cs hx => hM _ _ _ x cs hx) xs inner hk hr]
  exact ho
theorem R_of_cells (hsz : d.sz = k) (hk : ∀ x, (enc x).length = k) (hM : ∀ w b (ok : Nat → Prop) x, d.M w b ok x (enc x)) (ho : W.ownsRow base e k v xs.length (xs.flatMap enc)) (hok : ∀ k, v.ownBlock = some k → ok k) : d.R e W base ok v xs := by
  refine ⟨hok, xs.flatMap enc, by rw [hsz]; exact ho, ?_⟩
  rw [hsz]
  refine ⟨flatMap_len hk xs, fun j p hj => ?_⟩
  have hlt : j < xs.length := (List.getElem?_eq_some_iff.1 hj).1
  have e1 : ((xs.flatMap enc).drop (j * k)).take k = enc p := by
    rw [flat_drop hk, List.drop_eq_getElem_cons hlt, List.flatMap_cons, List.take_left' (hk _)]
    congr 1
    exact Option.some.inj ((List.getElem?_eq_getElem hlt).symm.trans hj)
  rw [e1]
  exact hM _ _ _ p
end
/-- A gap is made and filled: what the row holds then. -/
theorem splice_two {L cs vs : List Value} {a k n : Nat} (ha : a ≤ n) (hn : n + k ≤ L.length) (hcs : L.take n = cs) (hv : vs.length = k) : (splice (splice L (a + k) (cs.drop a)) a vs).take (n + k) = cs.take a ++ (vs ++ cs.drop a) := by
  have hl : cs.length = n := by rw [← hcs, List.length_take]; omega
  have hd : (cs.drop a).length = n - a := by rw [List.length_drop, hl]
  have h1 : (splice L (a + k) (cs.drop a)).take a = cs.take a := by
    unfold splice
    rw [List.take_append_of_le_length (by rw [List.length_take]; omega), List.take_take, Nat.min_eq_left (by omega), ← hcs, List.take_take, Nat.min_eq_left ha]
  have h2 : (splice L (a + k) (cs.drop a)).drop (a + k) = cs.drop a ++ L.drop (n + k) := by
    unfold splice
    rw [List.drop_append_of_le_length (by rw [List.length_take]; omega), List.drop_of_length_le (by rw [List.length_take]; omega), List.nil_append, hd]
    congr 2; omega
  have h3 : splice (splice L (a + k) (cs.drop a)) a vs = (cs.take a ++ (vs ++ cs.drop a)) ++ L.drop (n + k) := by
    generalize splice L (a + k) (cs.drop a) = X at h1 h2 ⊢
    unfold splice
    rw [hv, h1, h2]
    simp [List.append_assoc]
  rw [h3, List.take_left' (by simp only [List.length_append, List.length_take, hd, hv, hl]; omega)]
theorem splice_two' {L cs vs : List Value} {a k n : Nat} (ha : a ≤ n) (hn : n + k ≤ L.length) (hl : cs.length = n) (hL : L.take a = cs.take a) (hv : vs.length = k) : (splice (splice L a vs) (a + k) (cs.drop a)).take (n + k) = cs.take a ++ (vs ++ cs.drop a) := by
  have hd : (cs.drop a).length = n - a := by rw [List.length_drop, hl]
  have h0 : splice L a vs = (L.take a ++ vs) ++ L.drop (a + k) := by unfold splice; rw [hv, List.append_assoc]
  have hal : (L.take a ++ vs).length = a + k := by rw [List.length_append, List.length_take, hv]; omega
  have h1 : (splice L a vs).take (a + k) = L.take a ++ vs := by rw [h0, List.take_left' hal]
  have h3 : splice (splice L a vs) (a + k) (cs.drop a) = (cs.take a ++ (vs ++ cs.drop a)) ++ (splice L a vs).drop (a + k + (cs.drop a).length) := by
    generalize splice L a vs = X at h1 ⊢
    unfold splice
    rw [h1, hL]
    simp [List.append_assoc]
  rw [h3, List.take_left' (by simp only [List.length_append, List.length_take, hd, hv, hl]; omega)]
end Go.Proofs.Ytanokgpnmbbajaa.RowKk
end
