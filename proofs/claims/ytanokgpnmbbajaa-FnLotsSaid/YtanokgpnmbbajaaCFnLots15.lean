-- Gathered by this session's program wip/tool/shake.py out of its own texts and of what the kit's print and the session's patches of it wrote for this claim.
import Derived.Test.YtanokgpnmbbajaaProg
import Derived.ArgAppend
import Derived.Below
import Derived.BigQuiet
import Derived.Deep.AppendLies
import Derived.Deep.CutBlock
import Derived.Deep.DeepCutAuto
import Derived.Deep.Draws
import Derived.Deep.LoopGhost
import Derived.Deep.OwnRows
import Derived.Deep.QuietTactic
import Derived.Deep.RegionHeld3
import Derived.KernelRfl
import Derived.Laws.BitsLemmas
import Derived.Laws.BytesArg
import Derived.Laws.CopyOwn
import Derived.Laws.CopyRow
import Derived.Laws.Externs
import Derived.Laws.IdiomCopy
import Derived.Laws.MakeOwn
import Derived.Laws.OwnMore
import Derived.Laws.Rows
import Derived.Laws.Slices
import Derived.Laws.StructEq
import Derived.Lib.AppendStr
import Derived.Lib.AppendZerosOnto
import Derived.Lib.ConvBytes
import Derived.Lib.Overlaps
import Derived.Lib.SliceRun
import Derived.Lib.Walk
import Derived.Maps.AppendAt
import Derived.OrdersHeld
import Derived.OwnWalk
import Derived.RowKit
import Derived.RowKit3
import Derived.Shelf.SlSortCmp.KitK
import Derived.StillTailTactics
import Derived.Tactics
import Derived.WalkKit
import Derived.WideLaws
import Derived.Test.YtanokgpnmbbajaaCFnLots5
import Derived.Test.YtanokgpnmbbajaaCFnLots11
import Derived.Test.YtanokgpnmbbajaaCFnLots14
section
namespace Go.Proofs.Ytanokgpnmbbajaa.PF
open Go.RowKit Go.Proofs.YtanokgpnmbbajaaW.PrintWords Go.Proofs.YtanokgpnmbbajaaW.PrintLast Go.Proofs.YtanokgpnmbbajaaW.PrintMore
attribute [local go_sem] max2_int min2_int max_two min_two max_three min_three max_four min_four   -- for this text's walks alone
set_option linter.unusedVariables false
set_option linter.unusedSimpArgs false
section
open Go.Proofs.Ytanokgpnmbbajaa.RowKk
theorem wp_copy_runI {P : Program} (w : World) {o : Oper} {a : Act} {K : Act → World → Prop} {Q : Exit → Act → World → Prop} (d s : Operand) (t t' : TypeId)
    (ho : o.op = .call { callee := .builtin .copy, args := #[d, s], argTypes := #[t, t'] }) (v u : Value) (hd : a.eval d = v) (hs : a.eval s = u) {v' : Value} {w' : World}
    (hr : (Builtin.copy_ #[t, t'] o.type #[v, u]).run P w = .ok v' w') (h : K (a.put o.dst v') w') : o.wp P a w K Q := by
  unfold Oper.wp execOp
  simp only [ho, resolve, invoke, builtin, Sem.run_bind, Sem.run_pure, Result.andThen_ok, List.map_toArray, List.map_cons, List.map_nil, hd, hs, hr]
  exact h
theorem wpList_copy_runI {P : Program} (w : World) {ops : Array Oper} {rest : List Oper} {o : Oper} {a : Act} {Q : Exit → Act → World → Prop} (hgd : o.guard = none) (d s : Operand) (t t' : TypeId)
    (ho : o.op = .call { callee := .builtin .copy, args := #[d, s], argTypes := #[t, t'] }) (v u : Value) (hd : a.eval d = v) (hs : a.eval s = u) {v' : Value} {w' : World}
    (hr : (Builtin.copy_ #[t, t'] o.type #[v, u]).run P w = .ok v' w') (h : wpList P ops Q rest (a.put o.dst v') w') : wpList P ops Q (o :: rest) a w :=
  wpList_plain hgd fun _ hK => wp_copy_runI w d s t t' ho v u hd hs hr (hK _ _ h)
theorem size43 : (Try.prog.info? 43).map (·.size) = some 3 := by
  obtain ⟨i0, hi, hz⟩ := Option.map_eq_some_iff.1 info43
  rw [hi]; simp only [Prod.mk.injEq] at hz; simp [hz.2.1]
set_option maxHeartbeats 1000000 in
set_option maxRecDepth 100000 in
/-- slices.Insert: THERE IS ROOM, i < len(s): in place. -/
theorem ins_shift (b n c i vb vc : Nat) (L cs vs : List Value) (w : World) (hi : i < n) (hroom : n + 1 ≤ c) (hn : n ≤ 1000) (hc63 : c ≤ 9223372036854775807) (hvb : vb ≠ b)
    (hb : w.heap[b]? = some (.cells L.toArray 43 (0, 0))) (hL : L.length = c * 3) (hcs : L.take (n * 3) = cs) (hv : w.heap[vb]? = some (.cells vs.toArray 43 (0, 0))) (hvl : vs.length = 3)
    (h1c : ∀ v ∈ cs, v.oneCell' = true) (h1v : ∀ v ∈ vs, v.oneCell' = true) :
    Calls Try.prog 96 #[.slice (some ⟨b, 0, none⟩) n c, .int .i64 i, .slice (some ⟨vb, 0, none⟩) 1 vc] w fun e w' =>
      e = .returned (.slice (some ⟨b, 0, none⟩) (n + 1) c) ∧ w' = w.drew.setRow b (splice (splice L (i * 3 + 3) (cs.drop (i * 3))) (i * 3) vs).toArray := by
  have hcl : cs.length = n * 3 := by rw [← hcs, List.length_take]; omega
  have hdl : (cs.drop (i * 3)).length = (n - i) * 3 := by rw [List.length_drop, hcl]; omega
  have hz1 : ¬ ((1 : Int) = 0) := by omega
  have hz2 : ¬ ((i : Int) = (n : Int)) := by omega
  have hw1 : wrap64 ((n : Int) + 1) = ((n + 1 : Nat) : Int) := by unfold wrap64; omega
  have hw2 : wrap64 ((i : Int) + 1) = ((i + 1 : Nat) : Int) := by unfold wrap64; omega
  have hw3 : IntKind.i64.wrap ((i : Int) + 1) = (i : Int) + 1 := by rw [IntKind.wrap_i64]; omega
  have htn : ((i : Int) + 1).toNat = i + 1 := by omega
  have hp1 : (0 : Int) ≤ (i : Int) + 1 := by omega
  have hp2 : (i : Int) ≤ (n : Int) + 1 := by omega
  have hb0 : decide (((n + 1 : Nat) : Int) > (c : Int)) = false := decide_eq_false (by omega)
  have hb1 : (0 : Int) ≤ ((i + 1 : Nat) : Int) := by omega
  have hin : (i : Int) ≤ (n : Int) := by omega
  have hb2 : ¬ (c = i + 1) := by omega
  have hb3 : ((i + 1 : Nat) : Int) ≤ ((n + 1 : Nat) : Int) := by omega
  have hb4 : ¬ (c = i) := by omega
  have hb5 : ((n + 1 : Nat) : Int) ≤ (c : Int) := by omega
  have hb6 : (i : Int) ≤ ((n + 1 : Nat) : Int) := by omega
  have hov : ∀ lb cb, (callFunc 128 #[.slice (some ⟨vb, 0, none⟩) 1 vc, .slice (some ⟨b, (i + 1) * 3, none⟩) lb cb]).run Try.prog w = .ok (.value (.bool false)) w := fun lb cb => by
    rw [run_callFunc_extern Try.func128 (by kernel_rfl) (by kernel_rfl) (by kernel_rfl) (e := Extern.SlicesOverlaps.overlaps #[24, 24] #[4]) (by kernel_rfl),
      Lib.run_overlaps_apart w 24 4 43 Try.underlying24 3 (fun w => by first | exact Try.sizeOf43 w | exact Try.sizeOf43) ⟨vb, 0, none⟩ ⟨b, (i + 1) * 3, none⟩ 1 vc lb cb hvb 43 43 3 (c * 3) (by simp [World.shape?, hv, hvl]) (by simp [World.shape?, hb, hL]) (by omega) (by simp [World.frozen?, hv]) (by simp [World.frozen?, hv])]
    rfl
  have hcp1 : ∀ ty dl dc sl sc, dl = n - i → n - i ≤ sl → (Builtin.copy_ #[24, 24] ty #[.slice (some ⟨b, (i + 1) * 3, none⟩) dl dc, .slice (some ⟨b, i * 3, none⟩) sl sc]).run Try.prog w.drew = .ok (goInt (Nat.min sl dl)) (w.drew.setRow b (splice L (i * 3 + 3) (cs.drop (i * 3))).toArray) := fun ty dl dc sl sc h1 h2 => by
    have e : (i + 1) * 3 = i * 3 + 3 := by omega
    rw [e]
    refine run_copy_rowK w.drew 24 24 ty 43 3 b (i * 3 + 3) dl dc ⟨b, i * 3, none⟩ sl sc L 43 (cs.drop (i * 3)) Try.underlying24 size43 hb ?_ ?_ (by rw [hdl]; omega) (fun v hv => h1c v (List.mem_of_mem_drop hv))
    · have hm : Nat.min sl (n - i) = n - i := Nat.min_eq_right h2
      rw [hdl, h1, hm]
    · intro j v hj
      have hj' : cs[i * 3 + j]? = some v := by rwa [List.getElem?_drop] at hj
      have hlt : i * 3 + j < n * 3 := by have := (List.getElem?_eq_some_iff.1 hj').1; omega
      rw [← hcs, List.getElem?_take_of_lt hlt] at hj'
      show w.cell? _ = _
      rw [Addr.add_lit]
      simp [World.cell?, hb, hj']
  obtain ⟨L1, hL1⟩ : ∃ L1, splice L (i * 3 + 3) (cs.drop (i * 3)) = L1 := ⟨_, rfl⟩
  have hL1l : L1.length = L.length := by rw [← hL1]; exact length_splice _ _ _ (by rw [hdl]; omega)
  rw [hL1] at hcp1
  obtain ⟨W1, hW1⟩ : ∃ W1, w.drew.setRow b L1.toArray = W1 := ⟨_, rfl⟩
  rw [hW1] at hcp1
  have hb1w : W1.heap[b]? = some (.cells L1.toArray 43 (0, 0)) := by rw [← hW1]; exact setRow_heap w.drew b _ _ 43 _ hb
  have hv1w : W1.heap[vb]? = some (.cells vs.toArray 43 (0, 0)) := by rw [← hW1]; exact (setRow_other w.drew b vb _ hvb).trans hv
  have hcp2 : ∀ ty dl dc, 1 ≤ dl → (Builtin.copy_ #[24, 24] ty #[.slice (some ⟨b, i * 3, none⟩) dl dc, .slice (some ⟨vb, 0, none⟩) 1 vc]).run Try.prog W1 = .ok (goInt (Nat.min 1 dl)) (W1.setRow b (splice L1 (i * 3) vs).toArray) := fun ty dl dc h1 => by
    refine run_copy_rowK W1 24 24 ty 43 3 b (i * 3) dl dc ⟨vb, 0, none⟩ 1 vc L1 43 vs Try.underlying24 size43 hb1w ?_ ?_ (by rw [hvl]; omega) h1v
    · have hm : Nat.min 1 dl = 1 := Nat.min_eq_left h1
      rw [hvl, hm]
    · intro j v hj
      rw [Addr.add_lit]
      simp [World.cell?, hv1w, hj]
  have HOV := Aside0.mk hov
  have HC1 := Aside0.mk (fun ty dc sc => hcp1 ty (n - i) dc (n + 1 - i) sc rfl (by omega))
  have HC2 := Aside0.mk hcp2
  have HW1 := Aside0.mk hW1
  have HL1 := Aside0.mk hL1
  clear hov hcp1 hcp2 hW1 hL1 hb1w hv1w hv hb hL hcs hcl hdl h1c h1v hvl hL1l
  go_enter Try.func96, Try.ntmps96
  go_wp2_with (simp only [HOV.out])
  go_still_tail 8, (by kernel_rfl)
  change wpList _ _ _ _ _ w.drew
  go_wp2_with (first | ((with_reducible refine gate_builtin (b := .copy) (xs := #[.tmp 73, .tmp 76]) rfl ?_); (refine wpList_copy_runI _ rfl _ _ 24 24 rfl _ _ rfl rfl (HC1.out _ _ _) ?_)) | ((with_reducible refine gate_builtin (b := .copy) (xs := #[.tmp 80, .tmp 81]) rfl ?_); refine wpList_copy_runI _ rfl _ _ 24 24 rfl _ _ rfl rfl (HC2.out _ _ _ (by omega)) ?_))
  go_ret
  exact ⟨rfl, by rw [HL1.out, ← HW1.out, setRow_setRow]⟩
set_option maxHeartbeats 1000000 in
set_option maxRecDepth 100000 in
/-- slices.Insert: i < len(s), NO ROOM: a new row. -/
theorem ins_grow (b n c i vb vc : Nat) (L cs vs : List Value) (w : World) (hi : i < n) (hnc : n ≤ c) (hroom : c < n + 1) (hn : n ≤ 1000)
    (hb : w.heap[b]? = some (.cells L.toArray 43 (0, 0))) (hL : L.length = c * 3) (hcs : L.take (n * 3) = cs) (hv : w.heap[vb]? = some (.cells vs.toArray 43 (0, 0))) (hvl : vs.length = 3)
    (h1c : ∀ v ∈ cs, v.oneCell' = true) (h1v : ∀ v ∈ vs, v.oneCell' = true) :
    Calls Try.prog 96 #[.slice (some ⟨b, 0, none⟩) n c, .int .i64 i, .slice (some ⟨vb, 0, none⟩) 1 vc] w fun e w' =>
      ∃ (G : Nat) (L' : List Value), e = .returned (.slice (some ⟨w.heap.size, 0, none⟩) (n + 1) G) ∧ n + 1 ≤ G ∧ G ≤ maxLen ∧ L'.length = G * 3 ∧ L'.take (n * 3 + 3) = cs.take (i * 3) ++ (vs ++ cs.drop (i * 3)) ∧
        w'.heap[w.heap.size]? = some (.cells L'.toArray 43 (0, 0)) ∧ Below w.heap.size w w' := by
  have hz1 : ¬ ((1 : Int) = 0) := by omega
  have hz2 : ¬ ((i : Int) = (n : Int)) := by omega
  have hw1 : wrap64 ((n : Int) + 1) = ((n + 1 : Nat) : Int) := by unfold wrap64; omega
  have hw2 : wrap64 ((i : Int) + 1) = ((i + 1 : Nat) : Int) := by unfold wrap64; omega
  have hw3 : IntKind.i64.wrap ((i : Int) + 1) = (i : Int) + 1 := by rw [IntKind.wrap_i64]; omega
  have hw4 : wrap64 ((n : Int) + 1 - (i : Int)) = ((n + 1 - i : Nat) : Int) := by unfold wrap64; omega
  have htn : ((i : Int) + 1).toNat = i + 1 := by omega
  have hp1 : (0 : Int) ≤ (i : Int) + 1 := by omega
  have hp2 : (i : Int) ≤ (n : Int) + 1 := by omega
  have hp3 : (i : Int) ≤ (n : Int) := by omega
  have hp4 : (i : Int) ≤ (c : Int) := by omega
  have hb0 : decide (((n + 1 : Nat) : Int) > (c : Int)) = true := decide_eq_true (by omega)
  have hb1 : (c : Int) < (n : Int) + 1 := by omega
  have hci : ¬ (c = i) := by omega
  have hcl : cs.length = n * 3 := by rw [← hcs, List.length_take]; omega
  have hdl : (cs.drop (i * 3)).length = (n - i) * 3 := by rw [List.length_drop, hcl]; omega
  have htl : (cs.take (i * 3)).length = i * 3 := by rw [List.length_take, hcl]; omega
  obtain ⟨i0, hi0, hz0, hzs, hzb⟩ := info_parts info43
  have hbw : b < w.heap.size := (Array.getElem?_eq_some_iff.1 hb).1
  have hvw : vb < w.heap.size := (Array.getElem?_eq_some_iff.1 hv).1
  have hcell : ∀ j v, cs[j]? = some v → w.cell? ⟨b, j, none⟩ = some v := fun j v hj => by
    have hlt : j < n * 3 := by have := (List.getElem?_eq_some_iff.1 hj).1; omega
    rw [← hcs, List.getElem?_take_of_lt hlt] at hj
    simp [World.cell?, hb, hj]
  have hold : (Builtin.firstCells i0.size i (.slice (some ⟨b, 0, none⟩) i c)).run Try.prog w.drew = .ok (cs.take (i * 3)).toArray w.drew := by
    rw [hzs]
    exact run_firstCells_some w.drew 3 i ⟨b, 0, none⟩ i c (cs.take (i * 3)) htl (fun j v hj => by
      rw [Addr.add_lit, Nat.zero_add]
      rw [List.getElem?_take] at hj
      split at hj
      · exact hcell j v hj
      · cases hj)
  obtain ⟨G, hG⟩ : ∃ G, grownCap w (n + 1) c 43 = G := ⟨_, rfl⟩
  have hGn : n + 1 ≤ G := by rw [← hG]; exact grownCap_ge w _ _ _
  have hGm : G ≤ maxLen := by rw [← hG]; exact grownCap_le_maxLen w (n + 1) c 43 (by unfold maxLen; omega)
  have hGi : ¬ (G = i) := by omega
  have hGi1 : ¬ (G = i + 1) := by omega
  have hik : i + (n + 1 - i) = n + 1 := by omega
  obtain ⟨R0, hR0⟩ : ∃ R0 : List Value, ((cs.take (i * 3)).toArray ++ Builtin.zeroCells (Value.agg #[.int .i64 0, .int .i64 0, .int .i64 0]).cells (n + 1 - i) ++ Builtin.zeroCells (Value.agg #[.int .i64 0, .int .i64 0, .int .i64 0]).cells (G - (n + 1))).toList = R0 := ⟨_, rfl⟩
  have hzl : ∀ m, (Builtin.zeroCells (Value.agg #[.int .i64 0, .int .i64 0, .int .i64 0]).cells m).size = m * 3 := fun m => by simp [Builtin.zeroCells, Value.cells]
  have hR0l : R0.length = G * 3 := by
    rw [← hR0, Array.length_toList, Array.size_append, Array.size_append, hzl, hzl, List.size_toArray, htl]; omega
  have hR0t : R0.take (i * 3) = cs.take (i * 3) := by
    rw [← hR0, Array.toList_append, Array.toList_append, List.append_assoc, List.take_left' (by simpa using htl)]
  have hrz : ∀ ty X, X = ((n + 1 - i : Nat) : Int) → (Builtin.append_ #[24, 3] ty #[.slice (some ⟨b, 0, none⟩) i c, .int .i64 X]).run Try.prog w = .ok (.slice (some ⟨w.heap.size, 0, none⟩) (n + 1) G) (w.drew.alloc (.cells R0.toArray 43)) := fun ty X hX => by
    have h := Lib.run_append_grow_zeros w 24 3 ty 43 i0 _ .i64 .i64 Try.underlying24 Try.underlying3 hi0 hz0 (some ⟨b, 0, none⟩) i c (cs.take (i * 3)) hold (n + 1 - i) (by omega) (by omega) (by omega) (by omega) (by rw [hzb]; omega) (by rw [hzb, hik]; exact growslice_fits hroom (by omega))
    rw [hik, hG] at h
    rw [hX, h, ← hR0]
  obtain ⟨W1, hW1⟩ : ∃ W1, w.drew.alloc (.cells R0.toArray 43) = W1 := ⟨_, rfl⟩
  rw [hW1] at hrz
  have hN1 : W1.heap[w.heap.size]? = some (.cells R0.toArray 43 (0, 0)) := by rw [← hW1]; exact heap_alloc_new w.drew _
  have hold1 : ∀ k, k < w.heap.size → W1.heap[k]? = w.heap[k]? := fun k hk => by rw [← hW1]; exact Below.heap_alloc w.drew _ k hk
  have hB1 : Below w.heap.size w W1 := by rw [← hW1]; exact below_alloc (w := w) (below_drew (Below.refl _ _)) _
  have hcp1 : ∀ ty dc, (Builtin.copy_ #[24, 24] ty #[.slice (some ⟨w.heap.size, i * 3, none⟩) (n + 1 - i) dc, .slice (some ⟨vb, 0, none⟩) 1 vc]).run Try.prog W1 = .ok (goInt (Nat.min 1 (n + 1 - i))) (W1.setRow w.heap.size (splice R0 (i * 3) vs).toArray) := fun ty dc => by
    refine run_copy_rowK W1 24 24 ty 43 3 w.heap.size (i * 3) _ dc ⟨vb, 0, none⟩ 1 vc R0 43 vs Try.underlying24 size43 hN1 ?_ ?_ (by rw [hvl]; omega) h1v
    · have hm : Nat.min 1 (n + 1 - i) = 1 := Nat.min_eq_left (by omega)
      rw [hvl, hm]
    · intro j v hj
      rw [Addr.add_lit]
      simp [World.cell?, hold1 vb hvw, hv, hj]
  obtain ⟨R1, hR1⟩ : ∃ R1, splice R0 (i * 3) vs = R1 := ⟨_, rfl⟩
  have hR1l : R1.length = G * 3 := by rw [← hR1, length_splice _ _ _ (by rw [hvl]; omega)]; exact hR0l
  rw [hR1] at hcp1
  obtain ⟨W2, hW2⟩ : ∃ W2, W1.setRow w.heap.size R1.toArray = W2 := ⟨_, rfl⟩
  rw [hW2] at hcp1
  have hN2 : W2.heap[w.heap.size]? = some (.cells R1.toArray 43 (0, 0)) := by rw [← hW2]; exact setRow_heap W1 _ _ _ 43 _ hN1
  have hold2 : ∀ k, k < w.heap.size → W2.heap[k]? = w.heap[k]? := fun k hk => by rw [← hW2]; exact (setRow_other W1 _ k _ (by omega)).trans (hold1 k hk)
  have hB2 : Below w.heap.size w W2 := by rw [← hW2]; exact below_setRow hB1 (Nat.le_refl _) _
  have hcp2 : ∀ ty dc sc, (Builtin.copy_ #[24, 24] ty #[.slice (some ⟨w.heap.size, (i + 1) * 3, none⟩) (n - i) dc, .slice (some ⟨b, i * 3, none⟩) (n - i) sc]).run Try.prog W2.drew = .ok (goInt (Nat.min (n - i) (n - i))) (W2.drew.setRow w.heap.size (splice R1 (i * 3 + 3) (cs.drop (i * 3))).toArray) := fun ty dc sc => by
    have e : (i + 1) * 3 = i * 3 + 3 := by omega
    rw [e]
    refine run_copy_rowK W2.drew 24 24 ty 43 3 w.heap.size (i * 3 + 3) _ dc ⟨b, i * 3, none⟩ _ sc R1 43 (cs.drop (i * 3)) Try.underlying24 size43 hN2 ?_ ?_ (by rw [hdl]; omega) (fun v hv => h1c v (List.mem_of_mem_drop hv))
    · have hm : Nat.min (n - i) (n - i) = n - i := Nat.min_eq_left (Nat.le_refl _)
      rw [hdl, hm]
    · intro j v hj
      have hj' : cs[i * 3 + j]? = some v := by rwa [List.getElem?_drop] at hj
      rw [Addr.add_lit]
      exact (World.cell?_of_block (a := ⟨b, i * 3 + j, none⟩) (hold2 b hbw)).trans (hcell _ v hj')
  obtain ⟨R2, hR2⟩ : ∃ R2, splice R1 (i * 3 + 3) (cs.drop (i * 3)) = R2 := ⟨_, rfl⟩
  have hR2l : R2.length = G * 3 := by rw [← hR2, length_splice _ _ _ (by rw [hdl]; omega)]; exact hR1l
  have hR2t : R2.take (n * 3 + 3) = cs.take (i * 3) ++ (vs ++ cs.drop (i * 3)) := by
    rw [← hR2, ← hR1]; exact splice_two' (by omega) (by omega) hcl hR0t hvl
  rw [hR2] at hcp2
  have hN3 : (W2.drew.setRow w.heap.size R2.toArray).heap[w.heap.size]? = some (.cells R2.toArray 43 (0, 0)) := setRow_heap W2.drew _ _ _ 43 _ hN2
  have hB3 : Below w.heap.size w (W2.drew.setRow w.heap.size R2.toArray) := below_setRow (below_drew hB2) (Nat.le_refl _) _
  have HRZ := Aside0.mk hrz
  have HC1 := Aside0.mk hcp1
  have HC2 := Aside0.mk hcp2
  have HFIN := Aside0.mk (And.intro hGn (And.intro hGm (And.intro hR2l (And.intro hR2t (And.intro hN3 hB3)))))
  have HNI := Aside0.mk (And.intro hi hn)
  clear hrz hcp1 hcp2 hGn hGm hR2l hR2t hN3 hB3 hN2 hold2 hB2 hN1 hold1 hB1 hW1 hW2 hR1l hR1 hR2 hR0 hR0l hR0t hzl hold hcell hbw hvw hdl htl hcl hik hG hi0 hz0 hzs hzb hv hb hL hcs h1c h1v hvl
  go_enter Try.func96, Try.ntmps96
  go_wp2_with (first | ((with_reducible refine gate_builtin (b := .append) (xs := #[.tmp 34, .tmp 39]) rfl ?_); (refine Lib.wpList_append_run _ rfl _ _ _ _ rfl _ _ rfl rfl _ _ (HRZ.out _ _ ?hX) ?_; (case hX => first | (have := HNI.out; omega) | (have := HNI.out; unfold wrap64; omega)))) | ((with_reducible refine gate_builtin (b := .copy) (xs := #[.tmp 43, .tmp 44]) rfl ?_); (refine wpList_copy_runI _ rfl _ _ 24 24 rfl _ _ rfl rfl (HC1.out _ _) ?_)))
  go_still_tail 8, (by kernel_rfl)
  change wpList _ _ _ _ _ W2.drew
  go_wp2_with ((with_reducible refine gate_builtin (b := .copy) (xs := #[.tmp 50, .tmp 53]) rfl ?_); (refine wpList_copy_runI _ rfl _ _ 24 24 rfl _ _ rfl rfl (HC2.out _ _ _) ?_))
  go_ret
  exact ⟨G, R2, rfl, HFIN.out⟩
def insEnc (x : S43) : List Value := [.int .i64 x.f0, .int .i64 x.f1, .int .i64 x.f2]
theorem insEnc_len (x : S43) : (insEnc x).length = 3 := rfl
theorem insEnc_one (l : List S43) : ∀ v ∈ l.flatMap insEnc, v.oneCell' = true := by
  intro v hv
  obtain ⟨x, _, hx⟩ := List.mem_flatMap.1 hv
  simp [insEnc] at hx
  rcases hx with rfl | rfl | rfl <;> rfl
theorem insOne (W : World) (vb : Nat) (x : S43) (hv : W.heap[vb]? = some (.cells #[.int .i64 x.f0, .int .i64 x.f1, .int .i64 x.f2] 43 (0, 0))) : Kd.C k43 W (some ⟨vb, 0, none⟩) ([x] : List S43).length [x] := by
  refine ⟨rfl, by simp, fun _ => ⟨_, rfl, fun j p hj => ?_⟩⟩
  match j, hj with
  | 0, hj =>
    obtain rfl : x = p := by simpa using hj
    refine ⟨insEnc x, rfl, k43.K_of_M (k43_mkM W 0 (fun _ => True) x), fun i u hu => ?_⟩
    match i, hu with
    | 0, hu => obtain rfl : Value.int .i64 x.f0 = u := by simpa [insEnc] using hu
               simp [World.cell?, Addr.add, hv]
    | 1, hu => obtain rfl : Value.int .i64 x.f1 = u := by simpa [insEnc] using hu
               simp [World.cell?, Addr.add, hv]
    | 2, hu => obtain rfl : Value.int .i64 x.f2 = u := by simpa [insEnc] using hu
               simp [World.cell?, Addr.add, hv]
set_option maxHeartbeats 1000000 in
set_option maxRecDepth 100000 in
/-- slices.Insert at the end. -/
theorem ins_end (A0 : Option Addr) (c0 : Nat) (l0 : List S43) (x : S43) (vb base : Nat) (w : World) (hR : Kd.R k43 43 w base (fun _ => True) (.slice A0 l0.length c0) l0) (hB : base ≤ w.heap.size) (hl : l0.length ≤ 1000)
    (hv : w.heap[vb]? = some (.cells #[.int .i64 x.f0, .int .i64 x.f1, .int .i64 x.f2] 43 (0, 0))) :
    Calls Try.prog 96 #[.slice A0 l0.length c0, .int .i64 (l0.length : Int), .slice (some ⟨vb, 0, none⟩) 1 1] w fun e w' => ∃ v0, e = .returned v0 ∧ Kd.R k43 43 w' base (fun _ => True) v0 (l0 ++ [x]) ∧ Below base w w' := by
  have HR := Aside0.mk hR
  have HB := Aside0.mk hB
  have HL := Aside0.mk hl
  have HV := Aside0.mk (insOne w vb x hv)
  have hz1 : ¬ ((1 : Int) = 0) := by omega
  clear hR hB hl hv
  cases A0 with
  | none =>
    go_enter Try.func96, Try.ntmps96
    go_wp2_with ((with_reducible refine gate_builtin (b := .append) (xs := #[.tmp 23, .tmp 24]) rfl ?_); (refine Kd.R_append_rows k43 (w0 := w) base rfl (.tmp 23) (.tmp 24) 24 43 (.agg #[(.int .i64 0), (.int .i64 0), (.int .i64 0)]) 24 rfl Try.underlying24 info43 rfl (by decide) (by omega) _ l0 [x] _ _ _ (fun _ => True) (fun _ => False) rfl rfl ?aO ?aR (fun _ _ h => h) (fun _ h => h.elim) ?aF ?aB ?aS ?aL ?_; (case aR => exact HV.out); (case aB => exact Below.refl _ _); (case aF => exact (fun _ _ => trivial)); (case aO => exact HR.out); (case aS => exact HB.out); (case aL => have := HL.out; simp; omega); intro v283 w11 ho hb hg hat; clear hg hat; have HO2 := Aside0.mk ho; have HB3 := Aside0.mk hb; clear ho hb))
    go_ret
    exact ⟨_, rfl, HO2.out, HB3.out⟩
  | some ad =>
    by_cases hc : c0 = l0.length
    · go_enter Try.func96, Try.ntmps96
      go_wp2_with ((with_reducible refine gate_builtin (b := .append) (xs := #[.tmp 23, .tmp 24]) rfl ?_); (refine Kd.R_append_rows k43 (w0 := w) base rfl (.tmp 23) (.tmp 24) 24 43 (.agg #[(.int .i64 0), (.int .i64 0), (.int .i64 0)]) 24 rfl Try.underlying24 info43 rfl (by decide) (by omega) _ l0 [x] _ _ _ (fun _ => True) (fun _ => False) rfl rfl ?aO ?aR (fun _ _ h => h) (fun _ h => h.elim) ?aF ?aB ?aS ?aL ?_; (case aR => exact HV.out); (case aB => exact Below.refl _ _); (case aF => exact (fun _ _ => trivial)); (case aO => exact HR.out); (case aS => exact HB.out); (case aL => have := HL.out; simp; omega); intro v283 w11 ho hb hg hat; clear hg hat; have HO2 := Aside0.mk ho; have HB3 := Aside0.mk hb; clear ho hb))
      go_ret
      exact ⟨_, rfl, HO2.out, HB3.out⟩
    · go_enter Try.func96, Try.ntmps96
      go_wp2_with ((with_reducible refine gate_builtin (b := .append) (xs := #[.tmp 23, .tmp 24]) rfl ?_); (refine Kd.R_append_rows k43 (w0 := w) base rfl (.tmp 23) (.tmp 24) 24 43 (.agg #[(.int .i64 0), (.int .i64 0), (.int .i64 0)]) 24 rfl Try.underlying24 info43 rfl (by decide) (by omega) _ l0 [x] _ _ _ (fun _ => True) (fun _ => False) rfl rfl ?aO ?aR (fun _ _ h => h) (fun _ h => h.elim) ?aF ?aB ?aS ?aL ?_; (case aR => exact HV.out); (case aB => exact Below.refl _ _); (case aF => exact (fun _ _ => trivial)); (case aO => exact HR.out); (case aS => exact HB.out); (case aL => have := HL.out; simp; omega); intro v283 w11 ho hb hg hat; clear hg hat; have HO2 := Aside0.mk ho; have HB3 := Aside0.mk hb; clear ho hb))
      go_ret
      exact ⟨_, rfl, HO2.out, HB3.out⟩
theorem ins_calls (A0 : Option Addr) (c0 : Nat) (l0 : List S43) (x : S43) (i : Nat) (hi : i ≤ l0.length) (vb base : Nat) (w : World) (hR : Kd.R k43 43 w base (fun _ => True) (.slice A0 l0.length c0) l0) (hB : base ≤ w.heap.size) (hl : l0.length ≤ 1000)
    (hv : w.heap[vb]? = some (.cells #[.int .i64 x.f0, .int .i64 x.f1, .int .i64 x.f2] 43 (0, 0))) (hne : ∀ k, (Value.slice A0 l0.length c0).ownBlock = some k → vb ≠ k) :
    Calls Try.prog 96 #[.slice A0 l0.length c0, .int .i64 (i : Int), .slice (some ⟨vb, 0, none⟩) 1 1] w fun e w' => ∃ v0, e = .returned v0 ∧ Kd.R k43 43 w' base (fun _ => True) v0 (l0.take i ++ x :: l0.drop i) ∧ Below base w w' := by
  by_cases he : i = l0.length
  · subst he
    rw [List.take_length, List.drop_length]
    exact ins_end A0 c0 l0 x vb base w hR hB hl hv
  · have hlt : i < l0.length := by omega
    have ho := R_cells (k := 3) (enc := insEnc) rfl insEnc_len (fun _ _ _ _ _ h => k43_openM h) hR
    rcases ho.2 with ⟨e0, e1⟩ | ⟨g, cap, cur, e0, hg, hh, hle, hmax, hsz, htk⟩
    · omega
    · injection e0 with ea en ec
      subst ea ec
      have hvb : vb ≠ g := hne g rfl
      have hh' : w.heap[g]? = some (.cells cur.toList.toArray 43 (0, 0)) := by simpa using hh
      have hLl : cur.toList.length = c0 * 3 := by simpa using hsz
      have hv' : w.heap[vb]? = some (.cells (insEnc x).toArray 43 (0, 0)) := hv
      have hins := flat_insert insEnc_len l0 i x
      have hlen : (l0.take i ++ x :: l0.drop i).length = l0.length + 1 := by simp; omega
      have h1x : ∀ v ∈ insEnc x, v.oneCell' = true := fun v hvx => insEnc_one [x] v (by simpa [List.flatMap] using hvx)
      by_cases hr : l0.length + 1 ≤ c0
      · refine (ins_shift g l0.length c0 i vb 1 cur.toList (l0.flatMap insEnc) (insEnc x) w hlt hr hl (by unfold maxLen at hmax; omega) hvb hh' hLl htk hv' rfl (insEnc_one l0) h1x).mono ?_
        rintro e w' ⟨rfl, rfl⟩
        have hs2 := splice_two (L := cur.toList) (cs := l0.flatMap insEnc) (vs := insEnc x) (a := i * 3) (k := 3) (n := l0.length * 3) (by omega) (by omega) htk rfl
        rw [hins] at hs2
        have hfl : ((l0.flatMap insEnc).drop (i * 3)).length = (l0.length - i) * 3 := by rw [List.length_drop, flatMap_len insEnc_len]; omega
        refine ⟨_, rfl, R_of_cells (k := 3) (enc := insEnc) rfl insEnc_len (fun w b ok x => k43_mkM w b ok x) ?_ (fun _ _ => trivial), below_setRow (below_drew (Below.refl _ _)) hg _⟩
        rw [hlen]
        refine ⟨by rw [flatMap_len insEnc_len, hlen], .inr ⟨g, c0, _, rfl, hg, setRow_heap w.drew g _ _ 43 _ hh', hr, hmax, ?_, ?_⟩⟩
        · rw [List.size_toArray, length_splice _ _ _ (by rw [length_splice _ _ _ (by rw [hfl]; omega)]; simp only [insEnc, List.length_cons, List.length_nil]; omega), length_splice _ _ _ (by rw [hfl]; omega)]; exact hLl
        · rw [show (l0.length + 1) * 3 = l0.length * 3 + 3 by omega]
          simpa using hs2
      · refine (ins_grow g l0.length c0 i vb 1 cur.toList (l0.flatMap insEnc) (insEnc x) w hlt hle (by omega) hl hh' hLl htk hv' rfl (insEnc_one l0) h1x).mono ?_
        rintro e w' ⟨G, L', rfl, h1, h2, h3, h4, h5, h6⟩
        rw [hins] at h4
        refine ⟨_, rfl, R_of_cells (k := 3) (enc := insEnc) rfl insEnc_len (fun w b ok x => k43_mkM w b ok x) ?_ (fun _ _ => trivial), h6.mono hB⟩
        rw [hlen]
        refine ⟨by rw [flatMap_len insEnc_len, hlen], .inr ⟨w.heap.size, G, _, rfl, hB, h5, h1, h2, by rw [List.size_toArray]; exact h3, ?_⟩⟩
        rw [show (l0.length + 1) * 3 = l0.length * 3 + 3 by omega]
        simpa using h4
end
end Go.Proofs.Ytanokgpnmbbajaa.PF
end
