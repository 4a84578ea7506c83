import Derived.Test.YtokpepaoneiepaaGreatDoorCFnSides3
import Derived.Test.YtokpepaoneiepaaGreatDoorCFnSides4
set_option linter.unusedVariables false
set_option linter.unusedSimpArgs false
section
namespace Go.Proofs.YtokpepaoneiepaaGreatDoorW.PrintWords
open Go.RowKit
section
variable {P : Program}
theorem run_append_zeros (w : World) (base : Nat) (t ti ty e : TypeId) (i : TypeInfo) (z : Value) (size bytes : Nat) (ht : P.underlying t = some (.slice e)) {k : IntKind} (hti : P.underlying ti = some (.int k)) (hi : P.info? e = some i) (hz : i.zero = some z)
  (hsize : i.size = size) (hby : i.bytes = bytes) (hzs : z.cells.size = size) (hsz : 0 < size) (hb0 : 0 < bytes)
  (v : Value) (n : Nat) (xs : List Value) (hown : w.ownsRow base e size v n xs) (kx : IntKind) (m : Nat) (h1 : ∀ u ∈ (Builtin.zeroCells z.cells m).toList, u.oneCell' = true)
  (hbytes : (n + m) * bytes ≤ 140737488355328) (hbase : base ≤ w.heap.size) :
  ∃ v' w', (Builtin.append_ #[t, ti] ty #[v, .int kx m]).run P w = .ok v' w' ∧ w'.ownsRow base e size v' (n + m) (xs ++ (Builtin.zeroCells z.cells m).toList) ∧ w.grownBy w' v.ownBlock ∧
   (v'.ownBlock = v.ownBlock ∨ v'.ownBlock = some w.heap.size) := by
 subst hsize
 subst hby
 have hle : n + m ≤ 140737488355328 := Nat.le_trans (Nat.le_mul_of_pos_right _ hb0) hbytes
 have h63 : n + m ≤ maxLen := by simp only [maxLen]; omega
 have hw : IntKind.i64.wrap (m : Int) = m := by rw [IntKind.wrap_i64]; omega
 have hw0 : IntKind.i64.wrap 0 = 0 := by rw [IntKind.wrap_i64]; rfl
 have hneg : ¬ ((m : Int) < 0) := by omega
 have hmb : m * i.bytes ≤ 140737488355328 := Nat.le_trans (Nat.mul_le_mul_right _ (Nat.le_add_left m n)) hbytes
 have hbig : ¬ (281474976710656 < (m : Int) * (i.bytes : Int)) := by
  rw [← Int.natCast_mul]
  omega
 have hsn : i.size ≠ 0 := by omega
 obtain ⟨news, hnews⟩ : ∃ news, news = (Builtin.zeroCells z.cells m).toList := ⟨_, rfl⟩
 rw [← hnews] at h1 ⊢
 have hl : news.length = m * i.size := by rw [hnews, Array.length_toList, size_zeroCells, hzs]
 have hna : Builtin.zeroCells z.cells m = news.toArray := by rw [hnews]
 have hlen : (xs ++ news).length = (n + m) * i.size := by rw [List.length_append, hown.1, hl, Nat.add_mul]
 have hnil : m = 0 → news = [] := fun h => List.eq_nil_of_length_eq_zero (by rw [hl, h, Nat.zero_mul])
 have grown : ∀ (old : Nat), old < n + m → ∀ (row : Option Nat),
   (w.drew.alloc (.cells (xs.toArray ++ news.toArray ++ Builtin.zeroCells z.cells (grownCap w (n + m) old e - (n + m))) e)).ownsRow base e i.size
    (.slice (some ⟨w.heap.size, 0, none⟩) (n + m) (grownCap w (n + m) old e)) (n + m) (xs ++ news) ∧
   w.grownBy (w.drew.alloc (.cells (xs.toArray ++ news.toArray ++ Builtin.zeroCells z.cells (grownCap w (n + m) old e - (n + m))) e)) row := by
  intro old ho row
  have hge := grownCap_ge w (n + m) old e
  have hcm : grownCap w (n + m) old e ≤ maxLen := grownCap_le_maxLen w (n + m) old e h63
  refine ⟨⟨hlen, .inr ⟨w.heap.size, _, _, rfl, hbase, heap_alloc_new w.drew _, hge, hcm, ?_, ?_⟩⟩, ⟨rfl, rfl, rfl, by simp, fun k hk _ => heap_alloc_old w.drew _ hk⟩⟩
  ·simp only [Array.size_append, List.size_toArray, size_zeroCells, hzs, hown.1, hl, ← Nat.add_mul]
   congr 1
   omega
  ·simp only [Array.toList_append, List.append_assoc]
   rw [← List.append_assoc, ← hlen]
   exact List.take_left
 have runs : ∀ (A : Option Addr) (cap : Nat), cap < n + m → (Builtin.firstCells i.size n (.slice A n cap)).run P w.drew = .ok xs.toArray w.drew → (Builtin.append_ #[t, ti] ty #[.slice A n cap, .int kx m]).run P w =
   .ok (.slice (some ⟨w.heap.size, 0, none⟩) (n + m) (grownCap w (n + m) cap e)) (w.drew.alloc (.cells (xs.toArray ++ news.toArray ++ Builtin.zeroCells z.cells (grownCap w (n + m) cap e - (n + m))) e)) := by
  intro A cap hcap hfo
  have hn : ¬ (n + m ≤ cap) := by omega
  have h63' : ¬ (9223372036854775807 < ((n : Int) + (m : Int))) := by omega
  have hfit := growslice_fits hcap hbytes
  have h48' : ¬ (281474976710656 < Builtin.nextslicecap (n + m) cap * i.bytes) := by omega
  by_cases hm : m = 0
  ·have hnl := hnil hm
   subst hm
   rw [hnl]
   simp only [Nat.add_zero] at hn h63' h48' ⊢
   have h63'' : ¬ (9223372036854775807 < (n : Int)) := by omega
   simp [Builtin.append_, run_underlying ht, run_underlying hti, sizeOf, typeInfo, zeroValue, hi, hz, asInt, asIntOf, hw0, hn, h63'', h48', Question.forced, hfo, newRow, grownCap]
  ·have hmz : ¬ (m * i.size = 0) := Nat.mul_ne_zero hm hsn
   simp [Builtin.append_, run_underlying ht, run_underlying hti, sizeOf, typeInfo, zeroValue, hi, hz, asInt, asIntOf, hw, hneg, hbig, hn, h63', h48', Question.forced, hfo, newRow, grownCap, hmz, hna]
   congr 2
   apply Array.ext'
   simp [List.append_assoc]
 rcases hown.2 with ⟨rfl, rfl⟩ | ⟨g, cap, cur, rfl, hbg, hg, hnc, hcm, hcs, htake⟩
 ·have hx : xs = [] := List.eq_nil_of_length_eq_zero (by simpa using hown.1)
  subst hx
  by_cases hm : m = 0
  ·have hnl := hnil hm
   subst hm
   rw [hnl]
   refine ⟨.slice none 0 0, w, ?_, World.ownsRow_nil w base e i.size, ⟨rfl, rfl, rfl, Nat.le_refl _, fun _ _ _ => rfl⟩, Or.inl rfl⟩
   simp [Builtin.append_, run_underlying ht, run_underlying hti, sizeOf, typeInfo, hi, asInt, asIntOf, hw0]
  ·have hgr := grown 0 (by omega) (Value.ownBlock (.slice none 0 0))
   exact ⟨_, _, runs none 0 (by omega) (by simp [Builtin.firstCells]), hgr.1, hgr.2, Or.inr rfl⟩
 ·by_cases hroom : n + m ≤ cap
  ·have hfit : n * i.size + news.length ≤ cur.size := by rw [hl, hcs, ← Nat.add_mul]; exact Nat.mul_le_mul_right _ hroom
   obtain ⟨cur', h3, h4, h5⟩ := setCells_row news (n * i.size) w cur hg hfit
   obtain ⟨s1, s2, s3, s4⟩ := setCells_same g news (n * i.size) w
   have hst := run_storeCells_cells (P := P) g (n * i.size) news 0 w (fun j hj => by rw [cell_of_row w g _ cur e (0, 0) hg]; simp; omega) (fun j _ => blk_frozen hg _) h1
   simp only [Nat.add_zero] at hst
   refine ⟨.slice (some ⟨g, 0, none⟩) (n + m) cap, w.setCells g (n * i.size) news, ?_, ⟨hlen, .inr ⟨g, cap, cur', rfl, hbg, h3, hroom, hcm, by rw [h4, hcs], ?_⟩⟩, ⟨s1, s2, s3, by rw [s4]; exact Nat.le_refl _, fun k _ hk => setCells_far news _ k (fun e => hk (by simp [Value.ownBlock, e]))⟩, Or.inl rfl⟩
   ·by_cases hm : m = 0
    ·have hnl := hnil hm
     subst hm
     rw [hnl] at hst ⊢
     simp [Builtin.append_, run_underlying ht, run_underlying hti, sizeOf, typeInfo, hi, asInt, asIntOf, hw0, hnc, add_plain, hst]
    ·have hmz : ¬ (m * i.size = 0) := Nat.mul_ne_zero hm hsn
     simp [Builtin.append_, run_underlying ht, run_underlying hti, sizeOf, typeInfo, zeroValue, hi, hz, asInt, asIntOf, hw, hneg, hbig, hroom, hmz, hna, add_plain, hst]
   ·rw [h5]
    have h6 : cur.toList.take (n * i.size) = xs := htake
    rw [h6, ← hlen]
    exact List.take_left
  ·have holds : ∀ j u, xs[j]? = some u → w.cell? ((⟨g, 0, none⟩ : Addr).add j) = some u := hown.cells (g := g) rfl
   have hgr := grown cap (by omega) (Value.ownBlock (.slice (some ⟨g, 0, none⟩) n cap))
   exact ⟨_, _, runs (some ⟨g, 0, none⟩) cap (by omega) (run_firstCells_some (P := P) w.drew i.size n _ n cap xs hown.1 (by simpa using holds)), hgr.1, hgr.2, Or.inr rfl⟩
end
namespace Kd
theorem reps_zeros {α : Type} {R : α → List Value → Prop} {z : Value} {size : Nat} {z0 : α} (hz : z.cells.size = size) (hs : 0 < size) (h0 : R z0 z.cells.toList) (m : Nat) : Reps R size (List.replicate m z0) (Builtin.zeroCells z.cells m).toList := by
 have h := reps_made hz hs h0 m
 rw [show Builtin.zeroCells z.cells m = madeCells z.cells (m * size) by unfold Builtin.zeroCells madeCells; rw [hz]]
 exact h
section
variable {P : Program} {ops : Array Oper} {rest : List Oper} {o : Oper} {a : Act} {Q : Exit → Act → World → Prop} {Kc : Act → World → Prop} {α : Type}
theorem R_zeros_run (d : Kd α) {W : World} (base : Nat) (t ti ty e : TypeId) (z : Value) (bytes : Nat) (ht : P.underlying t = some (.slice e)) {k : IntKind} (hti : P.underlying ti = some (.int k)) (hinfo : (P.info? e).map (fun i => (i.zero, i.size, i.bytes)) = some (some z, d.sz, bytes)) (hz : z.cells.size = d.sz) (hs0 : 0 < d.sz) (hb0 : 0 < bytes)
  (v : Value) (xs : List α) (z0 : α) {ok : Nat → Prop} (hzero : d.M W base (fun _ => False) z0 z.cells.toList) (hfresh : ∀ k, W.heap.size ≤ k → ok k) (HO : d.R e W base ok v xs) (kx : IntKind) (n : Int) (h0 : 0 ≤ n) (hl : (xs.length + n.toNat) * bytes ≤ 140737488355328) (hbase : base ≤ W.heap.size) :
  ∃ v1 w1, (Builtin.append_ #[t, ti] ty #[v, .int kx n]).run P W = .ok v1 w1 ∧ d.R e w1 base ok v1 (xs ++ List.replicate n.toNat z0) ∧ W.grownBy w1 v.ownBlock ∧ (v1.ownBlock = v.ownBlock ∨ ∃ b, v1.ownBlock = some b ∧ W.heap.size ≤ b) := by
 obtain ⟨m, rfl⟩ := Int.eq_ofNat_of_zero_le h0
 simp only [Int.toNat_natCast] at hl ⊢
 obtain ⟨i0, hi, hzz⟩ := Option.map_eq_some_iff.1 hinfo
 simp only [Prod.mk.injEq] at hzz
 obtain ⟨hz0, hz1, hz2⟩ := hzz
 obtain ⟨hok, inner, hown, hr⟩ := HO
 have hnM : Reps (d.M W base (fun _ => False)) d.sz (List.replicate m z0) (Builtin.zeroCells z.cells m).toList := reps_zeros hz hs0 hzero m
 obtain ⟨v1, w1, hrun, h2, hg, hat⟩ := run_append_zeros (P := P) W base t ti ty e i0 z d.sz bytes ht hti hi hz0 hz1 hz2 hz hs0 hb0 v xs.length inner hown kx m (reps_one hnM hs0 (fun _ _ hp => d.K_one (d.K_of_M hp))) hl hbase
 have hat' : v1.ownBlock = v.ownBlock ∨ ∃ b, v1.ownBlock = some b ∧ W.heap.size ≤ b := by
  rcases hat with hat | hat
  ·exact .inl hat
  ·exact .inr ⟨_, hat, Nat.le_refl _⟩
 have hne : ∀ k, some k ≠ v.ownBlock → k < W.heap.size → some k ≠ v1.ownBlock := by
  intro k hk hlt
  rcases hat' with hat | ⟨b, hb, hle⟩
  ·rw [hat]; exact hk
  ·rw [hb]
   intro he
   injection he with he
   omega
 have step : ∀ {q : α} {c : List Value} {o : Nat → Prop}, d.M W base o q c → (∀ k, o k → ok k ∧ some k ≠ v.ownBlock) → d.M w1 base (fun k => ok k ∧ some k ≠ v1.ownBlock) q c := by
  intro q c o hq ho
  have h1 := d.M_move (w1 := w1) (fun k hk => hg.block k hk.2.2.1 (ho k hk.1).2) (d.M_bound hq)
  exact d.M_mono (fun k hk => ⟨(ho k hk.1).1, hne k (ho k hk.1).2 hk.2.2.1⟩) h1
 refine ⟨v1, w1, hrun, ⟨fun k hk => ?_, inner ++ (Builtin.zeroCells z.cells m).toList, by rw [List.length_append, List.length_replicate]; exact h2, reps_append (hr.imp_ (fun _ _ hq => step hq (fun _ hk => hk))) (hnM.imp_ (fun _ _ hq => step hq (fun _ hk => hk.elim)))⟩, hg, hat'⟩
 rcases hat' with hat | ⟨b, hb, hle⟩
 ·exact hok k (hat ▸ hk)
 ·rw [hb] at hk
  injection hk with hk
  exact hfresh k (by omega)
theorem R_append_zeros (d : Kd α) {w0 W : World} (base : Nat) (hgd : o.guard = none) (s x : Operand) (t ti e : TypeId) (z : Value) (bytes : Nat)
  (ho : o.op = .call { callee := .builtin .append, args := #[s, x], argTypes := #[t, ti] })
  (ht : P.underlying t = some (.slice e)) {k : IntKind} (hti : P.underlying ti = some (.int k)) (hinfo : (P.info? e).map (fun i => (i.zero, i.size, i.bytes)) = some (some z, d.sz, bytes)) (hz : z.cells.size = d.sz) (hs0 : 0 < d.sz) (hb0 : 0 < bytes)
  (v : Value) (xs : List α) (z0 : α) {kx : IntKind} (n : Int) (ok : Nat → Prop) (hs : a.eval s = v) (hx : a.eval x = .int kx n) (hzero : d.M W base (fun _ => False) z0 z.cells.toList) (hfresh : ∀ k, W.heap.size ≤ k → ok k)
  (HO : d.R e W base ok v xs) (h0 : 0 ≤ n) (HB : Below base w0 W) (hbase : base ≤ W.heap.size) (hl : (xs.length + n.toNat) * bytes ≤ 140737488355328)
  (h : ∀ v1 w1, d.R e w1 base ok v1 (xs ++ List.replicate n.toNat z0) → Below base w0 w1 → W.grownBy w1 v.ownBlock → (v1.ownBlock = v.ownBlock ∨ ∃ b, v1.ownBlock = some b ∧ W.heap.size ≤ b) → wpList P ops Q rest (a.put o.dst v1) w1) :
  wpList P ops Q (o :: rest) a W := by
 obtain ⟨v1, w1, hr1, h1, hg, hat⟩ := R_zeros_run (P := P) d base t ti o.type e z bytes ht hti hinfo hz hs0 hb0 v xs z0 hzero hfresh HO kx n h0 hl hbase
 refine wpList_plain hgd fun K hK => ?_
 unfold Oper.wp execOp
 simp only [ho, resolve, invoke, builtin, Sem.run_bind, Sem.run_pure, Result.andThen_ok, List.map_toArray, List.map_cons, List.map_nil, hs, hx, hr1]
 exact hK _ _ (h v1 w1 h1 (HB.grown hg hbase (R_base HO)) hg hat)
end
section
variable {α : Type} {d : Kd α} {e : Nat} {w : World} {base : Nat} {ok : Nat → Prop} {v : Value} {xs : List α}
end
section
variable {P : Program} {ops : Array Oper} {rest : List Oper} {o : Oper} {a : Act} {Q : Exit → Act → World → Prop} {Kc : Act → World → Prop} {α : Type}
end
end Kd
end Go.Proofs.YtokpepaoneiepaaGreatDoorW.PrintWords
end
section
namespace Go.Proofs.YtokpepaoneiepaaGreatDoorW.PrintWords
open Go.RowKit
namespace Kd
structure Heap {α : Type} (d : Kd α) : Prop where
 K : ∀ {w w1 : World} {x : α} {cs : List Value}, (∀ k, k < w.heap.size → w1.heap[k]? = w.heap[k]?) → d.K w x cs → d.K w1 x cs
theorem cell_heap {w w1 : World} (hb : ∀ k, k < w.heap.size → w1.heap[k]? = w.heap[k]?) {a : Addr} {v : Value} (h : w.cell? a = some v) : w1.cell? a = some v := by
 have := hb a.block (World.block_lt_of_cell? w a h)
 simpa [World.cell?, this] using h
theorem Heap.C {α : Type} {d : Kd α} (hd : Heap d) {w w1 : World} {A : Option Addr} {n : Nat} {xs : List α} (hb : ∀ k, k < w.heap.size → w1.heap[k]? = w.heap[k]?) (h : d.C w A n xs) : d.C w1 A n xs :=
 ⟨h.1, h.2.1, fun hn => by
  obtain ⟨ad, e, hc⟩ := h.2.2 hn
  refine ⟨ad, e, fun j p hj => ?_⟩
  obtain ⟨c, hs, hr, hcell⟩ := hc j p hj
  exact ⟨c, hs, hd.K hb hr, fun i u hu => cell_heap hb (hcell i u hu)⟩⟩
section
variable {α : Type} {d : Kd α} {e base g n c : Nat} {ok : Nat → Prop} {w w0 W : World} {A : Option Addr} {xs : List α}
end
end Kd
end Go.Proofs.YtokpepaoneiepaaGreatDoorW.PrintWords
end
section
namespace Go.Proofs.YtokpepaoneiepaaGreatDoorW.PrintWords
open Go.RowKit
def Kept (w W : World) (S : Nat → Prop) : Prop := w.heap.size ≤ W.heap.size ∧ ∀ i, i < w.heap.size → ¬ S i → W.heap[i]? = w.heap[i]?
section
variable {w W W2 : World} {S S2 S' : Nat → Prop}
theorem Kept.refl (w : World) (S : Nat → Prop) : Kept w w S := ⟨Nat.le_refl _, fun _ _ _ => rfl⟩
theorem Kept.of_below (h : Below w.heap.size w W) (S : Nat → Prop) : Kept w W S := ⟨h.size, fun i hi _ => h.block i hi⟩
theorem Kept.then_ (h : Kept w W S) (k : Kept W W2 S2) (hs : ∀ k, S2 k → S k ∨ w.heap.size ≤ k) : Kept w W2 S :=
 ⟨Nat.le_trans h.1 k.1, fun i hi hn => (k.2 i (Nat.lt_of_lt_of_le hi h.1) (fun h2 => (hs i h2).elim hn (fun h3 => by omega))).trans (h.2 i hi hn)⟩
theorem Kept.of_grown {row : Option Nat} (hg : W.grownBy W2 row) (h : Kept w W S) (hr : ∀ k, row = some k → S k ∨ w.heap.size ≤ k) : Kept w W2 S :=
 h.then_ (S2 := fun k => row = some k) ⟨hg.size, fun i hi hn => hg.block i hi (fun he => hn he.symm)⟩ hr
theorem Kept.below (h : Kept w W S) (hb : Below W.heap.size W W2) : Kept w W2 S := h.then_ (Kept.of_below hb (fun _ => False)) (fun _ hk => hk.elim)
theorem Kept.alloc (h : Kept w W S) (o : Obj) : Kept w (W.alloc o) S := h.below (below_alloc (Below.refl _ _) o)
theorem Kept.drew (h : Kept w W S) : Kept w W.drew S := h
theorem Kept.drewN (h : Kept w W S) (m : Nat) : Kept w (W.drewN m) S := h
theorem Kept.setCell (h : Kept w W S) {p : Addr} (hp : S p.block ∨ w.heap.size ≤ p.block) (u : Value) : Kept w (W.setCell p u) S :=
 h.then_ (S2 := fun k => k = p.block) ⟨by simp [World.setCell], fun i _ hn => Below.heap_setCell W p u i hn⟩ (fun k hk => by rw [hk]; exact hp)
theorem blk_kept {g : Nat} {o : Obj} (hb : W.heap[g]? = some o) (hk : Kept W W2 S) (hne : ¬ S g) : W2.heap[g]? = some o := (hk.2 g (blk_lt hb) hne).trans hb
end
namespace Kd
section
variable {α : Type} {d : Kd α} {e base n c : Nat} {ok oki S S2 : Nat → Prop} {w w0 W W1 W2 : World} {v : Value} {A : Option Addr} {xs : List α} {i : Int} {cs : List Value}
end
end Kd
end Go.Proofs.YtokpepaoneiepaaGreatDoorW.PrintWords
end
section
namespace Go.Proofs.YtokpepaoneiepaaGreatDoorW.PrintWords
open Go.RowKit
def Foot (P : World → Prop) (W : World) (ok : Nat → Prop) : Prop := ∀ W' : World, (∀ k, ok k → k < W.heap.size → W'.heap[k]? = W.heap[k]?) → P W'
theorem heap_lt {W W1 : World} {k : Nat} (h : W1.heap[k]? = W.heap[k]?) (hlt : k < W.heap.size) : k < W1.heap.size := by
 rw [Array.getElem?_eq_getElem hlt] at h
 exact (Array.getElem?_eq_some_iff.1 h).1
namespace Foot
variable {P Q : World → Prop} {W W1 : World} {ok ok' : Nat → Prop}
theorem mono (h : Foot P W ok) (hok : ∀ k, ok k → ok' k) : Foot P W ok' := fun W' hW => h W' (fun k hk hlt => hW k (hok k hk) hlt)
theorem bound (h : Foot P W ok) : Foot P W (fun k => ok k ∧ k < W.heap.size) := fun W' hW => h W' (fun k hk hlt => hW k ⟨hk, hlt⟩ hlt)
theorem step (h : Foot P W ok) (hm : ∀ k, ok k → k < W.heap.size → W1.heap[k]? = W.heap[k]?) : Foot P W1 ok := fun W' hW => h W' (fun k hk hlt => (hW k hk (heap_lt (hm k hk hlt) hlt)).trans (hm k hk hlt))
theorem imp (h : Foot P W ok) (hi : ∀ W', P W' → Q W') : Foot Q W ok := fun W' hW => hi W' (h W' hW)
theorem old (h : Foot P W ok) (hb : Below W.heap.size W W1) : Foot P W1 (fun k => ok k ∧ k < W.heap.size) := (h.bound).step (fun k _ hlt => hb.block k hlt)
end Foot
namespace Kd
def F {α : Type} (d : Kd α) (W : World) (ok : Nat → Prop) (A : Option Addr) (n : Nat) (xs : List α) : Prop := Foot (fun W => d.C W A n xs) W ok
def FK {α : Type} (d : Kd α) (W : World) (ok : Nat → Prop) (x : α) (c : List Value) : Prop := Foot (fun W => d.K W x c) W ok
section
variable {α β : Type} {d : Kd α} {e base n n' cc g N : Nat} {ok ok' okp S : Nat → Prop} {w w0 w1 W W1 : World} {A A' : Option Addr} {u v v1 : Value} {xs : List α} {xs' : List β} {d' : Kd β} {x : α} {c : List Value}
theorem F_nil (d : Kd α) (W : World) (ok : Nat → Prop) : F d W ok none ([] : List α).length [] := fun W' _ => C_nil d W'
theorem FK_of_M (h : d.M W base ok x c) : FK d W ok x c := fun _ hW => d.K_of_M (M_step h hW)
end
end Kd
end Go.Proofs.YtokpepaoneiepaaGreatDoorW.PrintWords
end
section
namespace Go.Proofs.YtokpepaoneiepaaGreatDoorW.PrintWords
open Go.RowKit
namespace Kd
def chunks (sz : Nat) (n : Nat) (inner : List Value) : List (List Value) := (List.range n).map fun j => (inner.drop (j * sz)).take sz
theorem chunks_length (sz n : Nat) (inner : List Value) : (chunks sz n inner).length = n := by simp [chunks]
theorem chunks_at {sz n : Nat} {inner : List Value} {j : Nat} (hj : j < n) : (chunks sz n inner)[j]? = some ((inner.drop (j * sz)).take sz) := by simp [chunks, hj]
theorem chunks_get {sz n : Nat} {inner : List Value} {j : Nat} {c : List Value} (h : (chunks sz n inner)[j]? = some c) : c = (inner.drop (j * sz)).take sz := by
 have hj : j < n := by have := (List.getElem?_eq_some_iff.1 h).1; rwa [chunks_length] at this
 rw [chunks_at hj] at h
 injection h with h
 exact h.symm
theorem reps_raw {α : Type} {Rr : α → List Value → Prop} {sz : Nat} {xs : List α} {inner : List Value} (h : Reps Rr sz xs inner) (hR : ∀ x c, Rr x c → c.length = sz ∧ ∀ u ∈ c, u.oneCell' = true) : Reps (fun x cs => cs = x ∧ cs.length = sz ∧ ∀ u ∈ cs, u.oneCell' = true) sz (chunks sz xs.length inner) inner := by
 refine ⟨by rw [chunks_length]; exact h.1, fun j p hj => ?_⟩
 have hjl : j < xs.length := by have := (List.getElem?_eq_some_iff.1 hj).1; rwa [chunks_length] at this
 have hp := chunks_get hj
 exact ⟨hp.symm, hR _ _ (h.2 j _ (List.getElem?_eq_getElem hjl))⟩
section
variable {α : Type} {d : Kd α} {e base n cc g : Nat} {ok ok' okp S : Nat → Prop} {w w1 W W1 : World} {A : Option Addr} {u v v1 : Value} {xs : List α} {x : α} {c : List Value}
def N {α : Type} (d : Kd α) (e : Nat) (w : World) (base : Nat) (ok : Nat → Prop) (v : Value) (xs : List α) : Prop :=
 (∀ k, v.ownBlock = some k → ok k) ∧ ∃ rows : List (List Value), rows.length = xs.length ∧ (raw d.sz).R e w base (fun k => some k = v.ownBlock) v rows ∧ ∀ (j : Nat) (x : α) (c : List Value), xs[j]? = some x → rows[j]? = some c → FK d w (fun k => ok k ∧ some k ≠ v.ownBlock) x c
theorem R_N (h : d.R e w base ok v xs) : N d e w base ok v xs := by
 obtain ⟨h0, inner, ho, hr⟩ := h
 refine ⟨h0, chunks d.sz xs.length inner, chunks_length _ _ _, ⟨fun k hk => hk.symm, inner, by rw [chunks_length]; exact ho, reps_raw hr (fun x c hp => ⟨d.K_len (d.K_of_M hp), d.K_one (d.K_of_M hp)⟩)⟩, fun j x c hx hc => ?_⟩
 rw [chunks_get hc]
 exact FK_of_M (hr.2 j x hx)
theorem N_nil (d : Kd α) (e : Nat) (w : World) (base : Nat) (ok : Nat → Prop) : N d e w base ok (.slice none 0 0) [] := R_N (R_nil _ _ _ _ _)
end
end Kd
end Go.Proofs.YtokpepaoneiepaaGreatDoorW.PrintWords
end
section
namespace Go.Proofs.YtokpepaoneiepaaGreatDoorW.PrintMore
open Go.RowKit Go.Proofs.YtokpepaoneiepaaGreatDoorW.PrintWords
namespace Kd
open Go.Proofs.YtokpepaoneiepaaGreatDoorW.PrintWords.Kd
theorem R_get {α : Type} {d : Kd α} {e base n cap : Nat} {ok : Nat → Prop} {W : World} {ad : Addr} {xs : List α} (h : d.R e W base ok (.slice (some ad) n cap) xs) (z : α) (i : Int) (h0 : 0 ≤ i) (h1 : i < n) :
  ∃ c, c.length = d.sz ∧ d.M W base (fun k => ok k ∧ some k ≠ (Value.slice (some ad) n cap).ownBlock) (xs.getD i.toNat z) c ∧ ∀ j u, c[j]? = some u → W.cell? (ad.add (i.toNat * d.sz + j)) = some u := by
 obtain ⟨g, hg⟩ : ∃ g, ad = ⟨g, 0, none⟩ := by
  obtain ⟨_, inner, ho, _⟩ := h
  rcases ho.2 with ⟨hv, _⟩ | ⟨g, cap', cur, hv, _⟩
  ·cases hv
  ·injection hv with ha _ _
   injection ha with ha
   exact ⟨g, ha⟩
 subst hg
 obtain ⟨c, hcl, hM, hcc, _⟩ := R_elem h z i h0 h1
 refine ⟨c, hcl, d.M_mono (fun k hk => ⟨hk.1, fun he => hk.2 ?_⟩) hM, fun j u hu => ?_⟩
 ·rw [add_at, Nat.zero_add]
  exact hcc j u hu
 ·simpa [Value.ownBlock] using he
end Kd
namespace Kd
open Go.Proofs.YtokpepaoneiepaaGreatDoorW.PrintWords.Kd
section
variable {α : Type} {d : Kd α} {e base g N : Nat} {ok : Nat → Prop} {W w1 : World} {u v : Value} {xs : List α}
theorem R_old (hu : d.R e W base ok u xs) (hb : Below W.heap.size W w1) : d.R e w1 base (fun k => ok k ∧ k < W.heap.size) u xs :=
 R_mono (R_below (R_bound hu) hb) (fun _ h => ⟨h.1, h.2.2.1⟩)
theorem R_told (h : d.R e w1 base (fun k => ok k ∧ k < N) u xs) (hbase : ∀ k, v.ownBlock = some k → N ≤ k) : d.R e w1 base (fun k => (ok k ∧ some k ≠ v.ownBlock) ∧ k < N) u xs :=
 R_mono h (fun k hk => ⟨⟨hk.1, fun e => Nat.lt_irrefl _ (Nat.lt_of_lt_of_le hk.2 (hbase k e.symm))⟩, hk.2⟩)
end
end Kd
theorem min2_int (k k' : IntKind) (x y : Int) : Builtin.min2 (.int k x) (.int k' y) = pure (.int k (if y < x then y else x)) := by simp only [Builtin.min2]
theorem min_two (ats : Array TypeId) (ty : TypeId) (a b : Value) : Builtin.min_ ats ty #[a, b] = (Builtin.min2 a b >>= fun s => pure s) := by simp only [Builtin.min_, List.foldlM_cons, List.foldlM_nil]
end Go.Proofs.YtokpepaoneiepaaGreatDoorW.PrintMore
namespace Go.Proofs.YtokpepaoneiepaaGreatDoorW.PrintWords
open Go.RowKit
section
variable {P : Program} {ops : Array Oper} {rest : List Oper} {o : Oper} {a : Act} {Q : Exit → Act → World → Prop} {W : World}
theorem gate_builtin {b : Builtin} {xs : Array Operand} {ts : Array TypeId} (_ho : o.op = .call { callee := .builtin b, args := xs, argTypes := ts }) (h : wpList P ops Q (o :: rest) a W) : wpList P ops Q (o :: rest) a W := h
end
def mn (a b : Int) : Int := if b < a then b else a
theorem drewN_self (w : World) (n : Nat) : w.drewN n = w.drewN n := rfl
namespace Kd
section
variable {α : Type} {d : Kd α} {e base : Nat} {ok : Nat → Prop} {W w1 : World} {v : Value} {xs : List α}
end
section
variable {α : Type} {d : Kd α} {e base g n cap : Nat} {ok oki okp : Nat → Prop} {W : World} {xs : List α} {i : Int} {c : List Value}
end
section
variable {α : Type} {d : Kd α} {e base b b' g N : Nat} {ok ok1 : Nat → Prop} {W W2 w1 : World} {u v : Value} {xs ys : List α} {S : Nat → Prop}
end
end Kd
end Go.Proofs.YtokpepaoneiepaaGreatDoorW.PrintWords
namespace Go.Proofs.YtokpepaoneiepaaGreatDoorW.PrintWords
open Go.RowKit
namespace Kd
def V {α : Type} (d : Kd α) (_e : Nat) (W : World) (_base : Nat) (ok : Nat → Prop) (v : Value) (xs : List α) : Prop := ∃ A c, v = .slice A xs.length c ∧ xs.length ≤ c ∧ F d W ok A xs.length xs
section
variable {α β : Type} {d : Kd α} {e base base' n m c g N' lo hi : Nat} {ok ok' S : Nat → Prop} {w W w1 : World} {A : Option Addr} {ad : Addr} {u v v1 : Value} {xs : List α}
theorem V_nil (d : Kd α) (e : Nat) (W : World) (base : Nat) (ok : Nat → Prop) : V d e W base ok (.slice none 0 0) [] := ⟨none, 0, rfl, Nat.le_refl _, F_nil d W ok⟩
end
end Kd
end Go.Proofs.YtokpepaoneiepaaGreatDoorW.PrintWords
end
section
namespace Go.Proofs.YtokpepaoneiepaaGreatDoorW.PrintWords
open Go.RowKit Go.Proofs.YtokpepaoneiepaaGreatDoorW.PrintMore.Kd Go.Proofs.YtokpepaoneiepaaGreatDoorW.PrintLast
theorem sbm_ {p : Prop} (h : p := by first | (simp only [List.setIfInBounds_toArray, List.set_cons_zero, List.set_cons_succ]; done) | (simp only [List.setIfInBounds_toArray, List.set_cons_zero, List.set_cons_succ]; rfl) | rfl) : p := h
theorem cf3 {w : World} {g : Nat} {t : TypeId} {v0 v1 v2 : Value} (h : w.heap[g]? = some (.cells #[v0, v1, v2] t (0, 0))) : w.cell? ⟨g, 0, none⟩ = some v0 ∧ w.cell? ⟨g, 1, none⟩ = some v1 ∧ w.cell? ⟨g, 2, none⟩ = some v2 ∧ w.frozen? ⟨g, 0, none⟩ = false ∧ w.frozen? ⟨g, 1, none⟩ = false ∧ w.frozen? ⟨g, 2, none⟩ = false := ⟨(blk_cell h 0).trans rfl, (blk_cell h 1).trans rfl, (blk_cell h 2).trans rfl, blk_frozen h 0, blk_frozen h 1, blk_frozen h 2⟩
theorem cf4 {w : World} {g : Nat} {t : TypeId} {v0 v1 v2 v3 : Value} (h : w.heap[g]? = some (.cells #[v0, v1, v2, v3] t (0, 0))) : w.cell? ⟨g, 0, none⟩ = some v0 ∧ w.cell? ⟨g, 1, none⟩ = some v1 ∧ w.cell? ⟨g, 2, none⟩ = some v2 ∧ w.cell? ⟨g, 3, none⟩ = some v3 ∧ w.frozen? ⟨g, 0, none⟩ = false ∧ w.frozen? ⟨g, 1, none⟩ = false ∧ w.frozen? ⟨g, 2, none⟩ = false ∧ w.frozen? ⟨g, 3, none⟩ = false := ⟨(blk_cell h 0).trans rfl, (blk_cell h 1).trans rfl, (blk_cell h 2).trans rfl, (blk_cell h 3).trans rfl, blk_frozen h 0, blk_frozen h 1, blk_frozen h 2, blk_frozen h 3⟩
theorem cf5 {w : World} {g : Nat} {t : TypeId} {v0 v1 v2 v3 v4 : Value} (h : w.heap[g]? = some (.cells #[v0, v1, v2, v3, v4] t (0, 0))) : w.cell? ⟨g, 0, none⟩ = some v0 ∧ w.cell? ⟨g, 1, none⟩ = some v1 ∧ w.cell? ⟨g, 2, none⟩ = some v2 ∧ w.cell? ⟨g, 3, none⟩ = some v3 ∧ w.cell? ⟨g, 4, none⟩ = some v4 ∧ w.frozen? ⟨g, 0, none⟩ = false ∧ w.frozen? ⟨g, 1, none⟩ = false ∧ w.frozen? ⟨g, 2, none⟩ = false ∧ w.frozen? ⟨g, 3, none⟩ = false ∧ w.frozen? ⟨g, 4, none⟩ = false := ⟨(blk_cell h 0).trans rfl, (blk_cell h 1).trans rfl, (blk_cell h 2).trans rfl, (blk_cell h 3).trans rfl, (blk_cell h 4).trans rfl, blk_frozen h 0, blk_frozen h 1, blk_frozen h 2, blk_frozen h 3, blk_frozen h 4⟩
section
variable {α β : Type} {p : Prop} [Decidable p] {a b : Option α} {r : α} {x : Option α} {r' : β} {f : α → Option β}
theorem sn_ (H : (if p then a else none) = some r) : p ∧ a = some r := by
 by_cases h : p
 ·rw [if_pos h] at H; exact ⟨h, H⟩
 ·rw [if_neg h] at H; simp at H
theorem sd_ (H : (if p then a else none) = some r) : decide p = true ∧ a = some r := ⟨decide_eq_true (sn_ H).1, (sn_ H).2⟩
theorem so_ (H : (if p then none else a) = some r) : ¬ p ∧ a = some r := by
 by_cases h : p
 ·rw [if_pos h] at H; simp at H
 ·rw [if_neg h] at H; exact ⟨h, H⟩
theorem sp_ (H : (if p then a else b) = some r) : (p ∧ a = some r) ∨ (¬ p ∧ b = some r) := by
 by_cases h : p
 ·rw [if_pos h] at H; exact .inl ⟨h, H⟩
 ·rw [if_neg h] at H; exact .inr ⟨h, H⟩
theorem sq_ (H : (if p then a else b) = some r) : (decide p = true ∧ a = some r) ∨ (decide p = false ∧ b = some r) := (sp_ H).imp (fun h => ⟨decide_eq_true h.1, h.2⟩) (fun h => ⟨decide_eq_false h.1, h.2⟩)
theorem sr_ (H : (if p then a else b) = some r) : (decide p = true ∧ a = some r) ∨ (¬ p ∧ b = some r) := (sp_ H).imp (fun h => ⟨decide_eq_true h.1, h.2⟩) id
theorem beq_ [BEq α] [LawfulBEq α] {a b : α} (h : a = b) : (a == b) = true ∧ (a != b) = false := ⟨beq_iff_eq.mpr h, bne_eq_false_iff_eq.mpr h⟩
theorem bnq_ [BEq α] [LawfulBEq α] {a b : α} (h : ¬ a = b) : (a == b) = false ∧ (a != b) = true := ⟨beq_eq_false_iff_ne.mpr h, bne_iff_ne.mpr h⟩
theorem bd_ (H : x.bind f = some r') : ∃ t, Aside0 (x = some t) ∧ f t = some r' := by
 obtain ⟨t, h1, h2⟩ := Option.bind_eq_some_iff.mp H
 exact ⟨t, ⟨h1⟩, h2⟩
theorem sy_ {y : α} (H : (some y).bind f = some r') : ∃ z, Aside0 (z = y) ∧ f z = some r' := ⟨y, ⟨rfl⟩, H⟩
theorem it_ (H : (if true = true then a else b) = x) : a = x := H
theorem if0_ (H : (if false = true then a else b) = x) : b = x := H
end
def TyB (w : World) (g t : Nat) : Prop := ∃ cs, w.heap[g]? = some (.cells cs t (0, 0))
section
variable {w0 w W W1 W' : World} {g g' gb t i : Nat} {u : Value} {o o' : Obj} {cs : Array Value}
theorem TyB.set (h : TyB W g t) : TyB (W.setCell ⟨g', i, none⟩ u) g t := by
 obtain ⟨cs, h⟩ := h
 by_cases e : g = g'
 ·subst e; exact ⟨_, blk_set h i u⟩
 ·exact ⟨_, blk_far h e u⟩
theorem TyB.alloc (h : TyB W g t) : TyB (W.alloc o) g t := by obtain ⟨cs, h⟩ := h; exact ⟨_, blk_alloc h o⟩
theorem TyB.drewN {n : Nat} (h : TyB W g t) : TyB (W.drewN n) g t := h
theorem TyB.drew (h : TyB W g t) : TyB W.drew g t := h
theorem TyB.of (h : Aside0 (W.heap[g]? = some (.cells cs t (0, 0)))) : TyB W g t := ⟨_, h.out⟩
theorem far1_ (h : W.heap[g]? = some (.cells cs t (0, 0))) (hp : Aside0 (g ≠ g')) : (W.setCell ⟨g', i, none⟩ u).heap[g]? = some (.cells cs t (0, 0)) := blk_far h hp.out u
theorem far2_ (hfar2_ : Aside0 (g ≠ g')) (h : W.heap[g]? = some (.cells cs t (0, 0))) : (W.setCell ⟨g', i, none⟩ u).heap[g]? = some (.cells cs t (0, 0)) := blk_far h hfar2_.out u
theorem blk_alloc_ (h : W.heap[gb]? = some o) : (W.alloc o').heap[gb]? = some o := blk_alloc h o'
theorem blk_drewN_ {n : Nat} (h : W.heap[gb]? = some o) : (W.drewN n).heap[gb]? = some o := h
theorem blk_put_ {cs' : Array Value} (h : W.heap[g]? = some (.cells cs t (0, 0))) (e : cs.setIfInBounds i u = cs') : (W.setCell ⟨g, i, none⟩ u).heap[g]? = some (.cells cs' t (0, 0)) := blk_put h i u e
theorem lt_alloc_ (h : g < W.heap.size) : g < (W.alloc o).heap.size := Nat.lt_of_lt_of_le h (below_size (below_alloc (Below.refl _ _) o))
theorem lt_drewN_ {n : Nat} (h : g < W.heap.size) : g < (W.drewN n).heap.size := h
theorem lt_drew_ (h : g < W.heap.size) : g < W.drew.heap.size := h
theorem lt_set_ {p : Addr} (h : g < W.heap.size) : g < (W.setCell p u).heap.size := by simpa [World.setCell] using h
theorem below_alloc_ (h : Below w.heap.size w W) : Below w.heap.size w (W.alloc o) := below_alloc h o
theorem below_drewN_ {n : Nat} (h : Below w.heap.size w W) : Below w.heap.size w (W.drewN n) := pw_below_drewN h n
theorem below_set_ (h : Below w.heap.size w W) (hg : Aside0 (w.heap.size ≤ g)) : Below w.heap.size w (W.setCell ⟨g, i, none⟩ u) := below_set h hg.out
theorem keep_alloc_ (h : KeepBut w W g none) : KeepBut w (W.alloc o) g none := keep_alloc h o
theorem keep_drewN_ {n : Nat} {row : Option Nat} (h : KeepBut w W g row) : KeepBut w (W.drewN n) g row := h
theorem keep_set_ {row : Option Nat} (h : KeepBut w W g row) : KeepBut w (W.setCell ⟨g, i, none⟩ u) g row := h.set_ i u
theorem keep_far_ {row : Option Nat} (h : KeepBut w W g row) (hp : Aside0 (w.heap.size ≤ g')) : KeepBut w (W.setCell ⟨g', i, none⟩ u) g row := keep_far h hp.out u
theorem bb_ (h0 : Aside0 (W1.heap[gb]? = some o)) (hb : Below W.heap.size W W')
  (h : W1.heap[gb]? = some o → W.heap[gb]? = some o := by intro h_; (with_reducible repeat (first | exact h_ | apply blk_drewN_ | apply blk_drew | apply blk_alloc_ | (apply far2_; assumption)))) : Aside0 (W'.heap[gb]? = some o) := ⟨blk_below (h h0.out) hb⟩
theorem bp_ (h0 : Aside0 (W1.heap[gb]? = some o)) (hb : Below W.heap.size W W')
  (h : W1.heap[gb]? = some o → W.heap[gb]? = some o' := by intro h_; (with_reducible repeat (first | exact h_ | apply blk_drewN_ | apply blk_drew | apply blk_alloc_ | (apply far2_; assumption) | apply blk_put_)); all_goals exact sbm_) : Aside0 (W'.heap[gb]? = some o') := ⟨blk_below (h h0.out) hb⟩
theorem kb_ (h0 : Aside0 (W1.heap[gb]? = some o)) (hne : Aside0 (gb ≠ g)) (hk : KeepBut W W' g none)
  (h : W1.heap[gb]? = some o → W.heap[gb]? = some o := by intro h_; (with_reducible repeat (first | exact h_ | apply blk_drewN_ | apply blk_drew | apply blk_alloc_ | (apply far2_; assumption)))) : Aside0 (W'.heap[gb]? = some o) := ⟨KeepBut.blk hk (h h0.out) hne.out (by simp)⟩
theorem kp_ (h0 : Aside0 (W1.heap[gb]? = some o)) (hne : Aside0 (gb ≠ g)) (hk : KeepBut W W' g none)
  (h : W1.heap[gb]? = some o → W.heap[gb]? = some o' := by intro h_; (with_reducible repeat (first | exact h_ | apply blk_drewN_ | apply blk_drew | apply blk_alloc_ | (apply far2_; assumption) | apply blk_put_)); all_goals exact sbm_) : Aside0 (W'.heap[gb]? = some o') := ⟨KeepBut.blk hk (h h0.out) hne.out (by simp)⟩
theorem bat_ (h0 : Aside0 (W1.heap[gb]? = some o))
  (h : W1.heap[gb]? = some o → W.heap[gb]? = some o' := by intro h_; (with_reducible repeat (first | exact h_ | apply blk_drewN_ | apply blk_drew | apply blk_alloc_ | (apply far2_; assumption) | apply blk_put_)); all_goals exact sbm_) : W.heap[gb]? = some o' := h h0.out
theorem nn_ (hg : g' = W.heap.size) (h0 : gb < W1.heap.size)
  (h : gb < W1.heap.size → gb < W.heap.size := by intro h_; (with_reducible repeat (first | exact h_ | apply lt_drewN_ | apply lt_drew_ | apply lt_alloc_ | apply lt_set_))) : Aside0 (gb ≠ g') ∧ Aside0 (g' ≠ gb) := by
 have := h h0
 exact ⟨⟨by omega⟩, ⟨by omega⟩⟩
theorem nnb_ (hg : g' = W.heap.size) (h0 : Aside0 (W1.heap[gb]? = some o))
  (h : gb < W1.heap.size → gb < W.heap.size := by intro h_; (with_reducible repeat (first | exact h_ | apply lt_drewN_ | apply lt_drew_ | apply lt_alloc_ | apply lt_set_))) : Aside0 (gb ≠ g') ∧ Aside0 (g' ≠ gb) := nn_ hg (blk_lt h0.out) h
theorem bst_ (h0 : Aside0 (Below w.heap.size w W1)) (hb : Below W.heap.size W W')
  (h : Below w.heap.size w W1 → Below w.heap.size w W := by intro h_; (with_reducible repeat (first | exact h_ | apply below_alloc_ | apply below_drewN_ | apply below_drew1 | refine below_set_ ?_ (by assumption)))) : Aside0 (Below w.heap.size w W') := ⟨below_step (h h0.out) hb⟩
theorem bw_ (hl : Aside0 (w0.heap.size ≤ w.heap.size)) (h0 : Aside0 (Below w0.heap.size w0 W1)) (hb : Below w.heap.size W W')
  (h : Below w0.heap.size w0 W1 → Below w0.heap.size w0 W := by intro h_; (with_reducible repeat (first | exact h_ | apply below_alloc_ | apply below_drewN_ | apply below_drew1 | refine below_set_ ?_ (by assumption)))) : Aside0 (Below w0.heap.size w0 W') := ⟨below_weaken (h h0.out) hl.out hb⟩
theorem ge_ (hg : g' = W.heap.size) (h0 : Aside0 (Below w.heap.size w W1))
  (h : Below w.heap.size w W1 → Below w.heap.size w W := by intro h_; (with_reducible repeat (first | exact h_ | apply below_alloc_ | apply below_drewN_ | apply below_drew1 | refine below_set_ ?_ (by assumption)))) : Aside0 (w.heap.size ≤ g') := ⟨hg ▸ below_size (h h0.out)⟩
theorem gek_ (hg : g' = W.heap.size) (h0 : Aside0 (KeepBut w W1 g none))
  (h : KeepBut w W1 g none → KeepBut w W g none := by intro h_; (with_reducible repeat (first | exact h_ | apply keep_alloc_ | apply keep_drewN_ | apply keep_drew | apply keep_set_ | refine keep_far_ ?_ (by assumption)))) : Aside0 (w.heap.size ≤ g') := ⟨hg ▸ keep_size (h h0.out)⟩
theorem gekw_ (hl : Aside0 (w0.heap.size ≤ w.heap.size)) (hg : g' = W.heap.size) (h0 : Aside0 (KeepBut w W1 g none))
  (h : KeepBut w W1 g none → KeepBut w W g none := by intro h_; (with_reducible repeat (first | exact h_ | apply keep_alloc_ | apply keep_drewN_ | apply keep_drew | apply keep_set_ | refine keep_far_ ?_ (by assumption)))) : Aside0 (w0.heap.size ≤ g') := ⟨Nat.le_trans hl.out (gek_ hg h0 h).out⟩
theorem kt_ (h0 : Aside0 (KeepBut w W1 g none)) (hk : KeepBut W W' g none)
  (h : KeepBut w W1 g none → KeepBut w W g none := by intro h_; (with_reducible repeat (first | exact h_ | apply keep_alloc_ | apply keep_drewN_ | apply keep_drew | apply keep_set_ | refine keep_far_ ?_ (by assumption)))) : Aside0 (KeepBut w W' g none) := ⟨KeepBut.trans (h h0.out) hk (.inl rfl)⟩
theorem ko_ (h0 : Aside0 (KeepBut w W1 g none)) (hb : Below W.heap.size W W')
  (h : KeepBut w W1 g none → KeepBut w W g none := by intro h_; (with_reducible repeat (first | exact h_ | apply keep_alloc_ | apply keep_drewN_ | apply keep_drew | apply keep_set_ | refine keep_far_ ?_ (by assumption)))) : Aside0 (KeepBut w W' g none) := ⟨KeepBut.trans (h h0.out) (KeepBut.of_below hb g none) (.inl rfl)⟩
theorem wn_ (h0 : Aside0 (Below w.heap.size w W1)) (h : Below w.heap.size w W1 → Below w.heap.size w W := by intro h_; (with_reducible repeat (first | exact h_ | apply below_alloc_ | apply below_drewN_ | apply below_drew1 | refine below_set_ ?_ (by assumption)))) : Below w.heap.size w W := h h0.out
theorem kn_ {row : Option Nat} (h0 : Aside0 (KeepBut w W1 g row)) (h : KeepBut w W1 g row → KeepBut w W g row := by intro h_; (with_reducible repeat (first | exact h_ | apply keep_alloc_ | apply keep_drewN_ | apply keep_drew | apply keep_set_ | refine keep_far_ ?_ (by assumption)))) : KeepBut w W g row := h h0.out
end
namespace Kd
section
variable {α β : Type} {d : Kd α} {d' : Kd β} {e e' base base' i g g' t : Nat} {ok oku : Nat → Prop} {w0 w W W1 W' : World} {v v0 v1 v2 u : Value} {xs : List α} {ys : List β} {o : Obj} {c : Value}
theorem R_alloc_ (h : d.R e W base ok v xs) : d.R e (W.alloc o) base ok v xs := R_alloc h o
theorem R_drewN_ {n : Nat} (h : d.R e W base ok v xs) : d.R e (W.drewN n) base ok v xs := R_drewN h n
theorem R_far_ (h : d.R e W base ok v xs) (hok : ∀ k, ok k → k ≠ g') : d.R e (W.setCell ⟨g', i, none⟩ c) base ok v xs := R_far h hok c
theorem R_ty_ (h : d.R e W base ok v xs) (hb : TyB W g' t) (ht : ∀ q, q ∈ e :: d.E → q ≠ t) : d.R e (W.setCell ⟨g', i, none⟩ c) base ok v xs := by
 obtain ⟨cs, hb⟩ := hb
 exact R_mono (R_far (R_types h hb ht) (fun _ hk => hk.2) c) (fun _ h => h.1)
theorem rb_ (h0 : Aside0 (d.R e W1 base ok v xs)) (hb : Below W.heap.size W W')
  (h : d.R e W1 base ok v xs → d.R e W base ok v xs := by intro h_; (with_reducible repeat (first | exact h_ | apply Kd.R_drewN_ | apply Kd.R_drew | apply Kd.R_alloc_ | refine Kd.R_far_ ?_ (by intro k_ hk_; first | exact hk_ | exact hk_.2 | exact hk_.1 | exact hk_.1.2 | exact hk_.1.1.2 | exact hk_.1.1.1.2) | refine Kd.R_ty_ ?_ (by (repeat (first | exact TyB.of (by assumption) | apply TyB.set | apply TyB.drewN | apply TyB.drew | apply TyB.alloc))) (by decide)))) : Aside0 (d.R e W' base ok v xs) := ⟨R_below (h h0.out) hb⟩
theorem rn_ (h0 : Aside0 (d.R e W1 base ok v xs))
  (h : d.R e W1 base ok v xs → d.R e W base ok v xs := by intro h_; (with_reducible repeat (first | exact h_ | apply Kd.R_drewN_ | apply Kd.R_drew | apply Kd.R_alloc_ | refine Kd.R_far_ ?_ (by intro k_ hk_; first | exact hk_ | exact hk_.2 | exact hk_.1 | exact hk_.1.2 | exact hk_.1.1.2 | exact hk_.1.1.1.2) | refine Kd.R_ty_ ?_ (by (repeat (first | exact TyB.of (by assumption) | apply TyB.set | apply TyB.drewN | apply TyB.drew | apply TyB.alloc))) (by decide)))) : d.R e W base ok v xs := h h0.out
theorem re_ (h0 : Aside0 (d.R e W1 base ok v xs)) (b0 : ∀ k, v0.ownBlock = some k → W.heap.size ≤ k) (hb : Below W.heap.size W W')
  (h : d.R e W1 base ok v xs → d.R e W base ok v xs := by intro h_; (with_reducible repeat (first | exact h_ | apply Kd.R_drewN_ | apply Kd.R_drew | apply Kd.R_alloc_ | refine Kd.R_far_ ?_ (by intro k_ hk_; first | exact hk_ | exact hk_.2 | exact hk_.1 | exact hk_.1.2 | exact hk_.1.1.2 | exact hk_.1.1.1.2) | refine Kd.R_ty_ ?_ (by (repeat (first | exact TyB.of (by assumption) | apply TyB.set | apply TyB.drewN | apply TyB.drew | apply TyB.alloc))) (by decide)))) : Aside0 (d.R e W' base (fun k => ok k ∧ some k ≠ v0.ownBlock) v xs) := ⟨R_elder' (h h0.out) b0 hb⟩
theorem ro2_ (h0 : Aside0 (d.R e W1 base ok v xs)) (b0 : ∀ k, v0.ownBlock = some k → W.heap.size ≤ k) (b1 : ∀ k, v1.ownBlock = some k → W.heap.size ≤ k) (hb : Below W.heap.size W W')
  (h : d.R e W1 base ok v xs → d.R e W base ok v xs := by intro h_; (with_reducible repeat (first | exact h_ | apply Kd.R_drewN_ | apply Kd.R_drew | apply Kd.R_alloc_ | refine Kd.R_far_ ?_ (by intro k_ hk_; first | exact hk_ | exact hk_.2 | exact hk_.1 | exact hk_.1.2 | exact hk_.1.1.2 | exact hk_.1.1.1.2) | refine Kd.R_ty_ ?_ (by (repeat (first | exact TyB.of (by assumption) | apply TyB.set | apply TyB.drewN | apply TyB.drew | apply TyB.alloc))) (by decide)))) : Aside0 (d.R e W' base (fun k => (ok k ∧ some k ≠ v0.ownBlock) ∧ some k ≠ v1.ownBlock) v xs) := ⟨R_mono (R_told (R_told (R_old (h h0.out) hb) b0) b1) (fun _ h_ => h_.1)⟩
theorem ro3_ (h0 : Aside0 (d.R e W1 base ok v xs)) (b0 : ∀ k, v0.ownBlock = some k → W.heap.size ≤ k) (b1 : ∀ k, v1.ownBlock = some k → W.heap.size ≤ k) (b2 : ∀ k, v2.ownBlock = some k → W.heap.size ≤ k) (hb : Below W.heap.size W W')
  (h : d.R e W1 base ok v xs → d.R e W base ok v xs := by intro h_; (with_reducible repeat (first | exact h_ | apply Kd.R_drewN_ | apply Kd.R_drew | apply Kd.R_alloc_ | refine Kd.R_far_ ?_ (by intro k_ hk_; first | exact hk_ | exact hk_.2 | exact hk_.1 | exact hk_.1.2 | exact hk_.1.1.2 | exact hk_.1.1.1.2) | refine Kd.R_ty_ ?_ (by (repeat (first | exact TyB.of (by assumption) | apply TyB.set | apply TyB.drewN | apply TyB.drew | apply TyB.alloc))) (by decide)))) : Aside0 (d.R e W' base (fun k => ((ok k ∧ some k ≠ v0.ownBlock) ∧ some k ≠ v1.ownBlock) ∧ some k ≠ v2.ownBlock) v xs) := ⟨R_mono (R_told (R_told (R_told (R_old (h h0.out) hb) b0) b1) b2) (fun _ h_ => h_.1)⟩
theorem rk_ (h0 : Aside0 (d.R e W1 base ok v xs)) (hI : TyB W1 g t) (hk : KeepBut W W' g none) (ht : ∀ q, q ∈ e :: d.E → q ≠ t := by decide)
  (h : d.R e W1 base ok v xs → d.R e W base ok v xs := by intro h_; (with_reducible repeat (first | exact h_ | apply Kd.R_drewN_ | apply Kd.R_drew | apply Kd.R_alloc_ | refine Kd.R_far_ ?_ (by intro k_ hk_; first | exact hk_ | exact hk_.2 | exact hk_.1 | exact hk_.1.2 | exact hk_.1.1.2 | exact hk_.1.1.1.2) | refine Kd.R_ty_ ?_ (by (repeat (first | exact TyB.of (by assumption) | apply TyB.set | apply TyB.drewN | apply TyB.drew | apply TyB.alloc))) (by decide))))
  (hy : TyB W1 g t → TyB W g t := by intro h_; (with_reducible repeat (first | exact h_ | apply TyB.set | apply TyB.drewN | apply TyB.drew | apply TyB.alloc))) : Aside0 (d.R e W' base ok v xs) := by
 obtain ⟨cs, hb⟩ := hy hI
 exact ⟨R_mono (R_keep (R_types (h h0.out) hb ht) hk (fun _ h => h.2)) (fun _ h => h.1)⟩
theorem nw_ (h0 : Aside0 (d'.R e' W1 base' oku u ys)) (ho : d.R e W' W.heap.size ok v xs)
  (h : d'.R e' W1 base' oku u ys → d'.R e' W base' oku u ys := by intro h_; (with_reducible repeat (first | exact h_ | apply Kd.R_drewN_ | apply Kd.R_drew | apply Kd.R_alloc_ | refine Kd.R_far_ ?_ (by intro k_ hk_; first | exact hk_ | exact hk_.2 | exact hk_.1 | exact hk_.1.2 | exact hk_.1.1.2 | exact hk_.1.1.1.2) | refine Kd.R_ty_ ?_ (by (repeat (first | exact TyB.of (by assumption) | apply TyB.set | apply TyB.drewN | apply TyB.drew | apply TyB.alloc))) (by decide)))) : d.R e W' W.heap.size (fun k => ok k ∧ some k ≠ u.ownBlock) v xs := R_new' ho (R_lt (h h0.out))
theorem lo_ (ho : d.R e W' W.heap.size ok v xs) (h0 : Aside0 (Below w.heap.size w W1))
  (h : Below w.heap.size w W1 → Below w.heap.size w W := by intro h_; (with_reducible repeat (first | exact h_ | apply below_alloc_ | apply below_drewN_ | apply below_drew1 | refine below_set_ ?_ (by assumption)))) : Aside0 (d.R e W' w.heap.size ok v xs) := ⟨R_lower ho (below_size (h h0.out))⟩
theorem lk_ (ho : d.R e W' W.heap.size ok v xs) (h0 : Aside0 (KeepBut w W1 g none))
  (h : KeepBut w W1 g none → KeepBut w W g none := by intro h_; (with_reducible repeat (first | exact h_ | apply keep_alloc_ | apply keep_drewN_ | apply keep_drew | apply keep_set_ | refine keep_far_ ?_ (by assumption)))) : Aside0 (d.R e W' w.heap.size ok v xs) := ⟨R_lower ho (keep_size (h h0.out))⟩
theorem bg_ {cs cs' : Array Value} (h0 : Aside0 (W1.heap[g]? = some (.cells cs t (0, 0)))) (hr : Aside0 (d.R e w0 base ok v xs)) (hr0 : Aside0 (w0.heap[g]? = some (.cells cs' t (0, 0)))) (hg : W.grownBy W' v.ownBlock) (ht : e ≠ t := by decide)
  (h : W1.heap[g]? = some (.cells cs t (0, 0)) → W.heap[g]? = some (.cells cs t (0, 0)) := by intro h_; (with_reducible repeat (first | exact h_ | apply blk_drewN_ | apply blk_drew | apply blk_alloc_ | (apply far2_; assumption)))) : Aside0 (W'.heap[g]? = some (.cells cs t (0, 0))) := ⟨blk_grown (h h0.out) hg (R_ne hr.out hr0.out ht)⟩
theorem bgp_ {cs cs' : Array Value} (h0 : Aside0 (W1.heap[g]? = some (.cells cs t (0, 0)))) (hr : Aside0 (d.R e w0 base ok v xs)) (hr0 : Aside0 (w0.heap[g]? = some (.cells cs' t (0, 0)))) (hg : W.grownBy W' v.ownBlock) (ht : e ≠ t := by decide)
  (h : W1.heap[g]? = some (.cells cs t (0, 0)) → W.heap[g]? = some o := by intro h_; (with_reducible repeat (first | exact h_ | apply blk_drewN_ | apply blk_drew | apply blk_alloc_ | (apply far2_; assumption) | apply blk_put_)); all_goals exact sbm_) : Aside0 (W'.heap[g]? = some o) := ⟨blk_grown (h h0.out) hg (R_ne hr.out hr0.out ht)⟩
theorem rc_ {A : Option Addr} {n c : Nat} (h0 : Aside0 (d.R e W1 base ok (.slice A n c) xs))
  (h : d.R e W1 base ok (.slice A n c) xs → d.R e W base ok (.slice A n c) xs := by intro h_; (with_reducible repeat (first | exact h_ | apply Kd.R_drewN_ | apply Kd.R_drew | apply Kd.R_alloc_ | refine Kd.R_far_ ?_ (by intro k_ hk_; first | exact hk_ | exact hk_.2 | exact hk_.1 | exact hk_.1.2 | exact hk_.1.1.2 | exact hk_.1.1.1.2) | refine Kd.R_ty_ ?_ (by (repeat (first | exact TyB.of (by assumption) | apply TyB.set | apply TyB.drewN | apply TyB.drew | apply TyB.alloc))) (by decide)))) : d.C W A xs.length xs := (R_reads' (h h0.out)).2.2
theorem ln_ {A : Option Addr} {n c : Nat} (h0 : Aside0 (d.R e W1 base ok (.slice A n c) xs)) : n ≤ c := (R_reads' h0.out).2.1
theorem rm_ {ok' : Nat → Prop} (h0 : Aside0 (d.R e W1 base ok v xs)) (hok : ∀ k, ok k → ok' k)
  (h : d.R e W1 base ok v xs → d.R e W base ok v xs := by intro h_; (with_reducible repeat (first | exact h_ | apply Kd.R_drewN_ | apply Kd.R_drew | apply Kd.R_alloc_ | refine Kd.R_far_ ?_ (by intro k_ hk_; first | exact hk_ | exact hk_.2 | exact hk_.1 | exact hk_.1.2 | exact hk_.1.1.2 | exact hk_.1.1.1.2) | refine Kd.R_ty_ ?_ (by (repeat (first | exact TyB.of (by assumption) | apply TyB.set | apply TyB.drewN | apply TyB.drew | apply TyB.alloc))) (by decide)))) : d.R e W base ok' v xs := R_mono (h h0.out) hok
theorem cb_ {A : Option Addr} {n : Nat} (h0 : Aside0 (d.C w A n xs)) (hB : Aside0 (Below w.heap.size w W1)) (h : Below w.heap.size w W1 → Below w.heap.size w W := by intro h_; (with_reducible repeat (first | exact h_ | apply below_alloc_ | apply below_drewN_ | apply below_drew1 | refine below_set_ ?_ (by assumption)))) : d.C W A n xs := C_below h0.out (h hB.out)
theorem cn_ {A : Option Addr} {n : Nat} (h0 : Aside0 (d.C W1 A n xs)) (h : d.C W1 A n xs → d.C W A n xs := by intro h_; (with_reducible repeat (first | exact h_ | refine Kd.C_alloc ?_ _ | refine Kd.C_drewN ?_ _ | refine Kd.C_drew ?_))) : d.C W A n xs := h h0.out
end
end Kd
section
variable {P : Program} {ops : Array Oper} {Q : Exit → Act → World → Prop} {rest : List Oper} {oi : Oper} {a : Act} {w : World}
theorem gt_ (f : FuncId) {as : Array Operand} {ts : Array TypeId} (h : wpList P ops Q (oi :: rest) a w) (_ho : oi.op = .call { callee := .value (.func f), args := as, argTypes := ts } := by with_reducible rfl) : wpList P ops Q (oi :: rest) a w := h
theorem gd_ (N : Tmp) (h : wpList P ops Q (oi :: rest) a w) (_ho : oi.dst = some N := by with_reducible rfl) : wpList P ops Q (oi :: rest) a w := h
theorem cl_ (N : Option Tmp) {f : FuncId} {fn : Func} {as : Array Operand} {ts : Array TypeId} {args : Array Value} {R : Ending → World → Prop} (hf : P.funcs[f]? = some fn) (hc : Calls P f args w R)
  (h : ∀ e w', R e w' → ∃ v, e = .returned v ∧ wpList P ops Q rest (a.put N v) w') (hd : oi.dst = N := by rfl) (hg : oi.guard = none := by rfl) (hname : (fn.name == "runtime.NumGoroutine") = false := by kernel_rfl) (hb : fn.body.isSome = true := by rfl)
  (hop : oi.op = .call { callee := .value (.func f), args := as, argTypes := ts } := by rfl) (hargs : as.map a.eval = args := by (try simp only [List.map_toArray, List.map_cons, List.map_nil]); first | done | rfl | (simp only [List.length_drop, List.length_take]; rfl)) : wpList P ops Q (oi :: rest) a w :=
 goesL_ N hd hg hf hname hb args hop hargs (hc.mono h)
end
end Go.Proofs.YtokpepaoneiepaaGreatDoorW.PrintWords
end
