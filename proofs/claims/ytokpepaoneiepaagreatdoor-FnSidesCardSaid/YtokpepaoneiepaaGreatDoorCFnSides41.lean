import Derived.Test.YtokpepaoneiepaaGreatDoorCFnSides28
import Derived.Test.YtokpepaoneiepaaGreatDoorCFnSides29
import Derived.Test.YtokpepaoneiepaaGreatDoorCFnSides40
set_option linter.unusedVariables false
set_option linter.unusedSimpArgs false
section
namespace Go.Proofs.YtokpepaoneiepaaGreatDoor.PL
open Go.RowKit Go.Proofs.YtokpepaoneiepaaGreatDoorW.PrintWords Go.Proofs.YtokpepaoneiepaaGreatDoorB
theorem sortI_perm (zs : List Int) : (sortI zs).Perm zs := List.mergeSort_perm _ _
theorem sortI_sorted (zs : List Int) : (sortI zs).Pairwise (fun a b => a ≤ b) := by
 have h := List.pairwise_mergeSort (le := fun x y : Int => decide (x ≤ y)) (fun a b c h1 h2 => by simp only [decide_eq_true_eq] at *; omega) (fun a b => by simp only [Bool.or_eq_true, decide_eq_true_eq]; omega) zs
 exact h.imp (fun h => by simpa using h)
theorem run_iff {zs s : List Int} (hp : s.Perm zs) (hs : s.Pairwise (fun a b => a ≤ b)) {first : Int} (hmem : first ∈ zs) (hmin : ∀ z ∈ zs, first ≤ z) :
    ((∀ z ∈ zs, z ≤ first + (zs.length : Int) - 1) ∧ zs.Nodup) ↔ ∀ j (h : j < s.length), s[j] = first + (j : Int) := by
  have hlen : s.length = zs.length := hp.length_eq
  rw [List.pairwise_iff_getElem] at hs
  have hpos : 0 < s.length := by rw [hlen]; exact List.length_pos_of_mem hmem
  have h0 : s[0] = first := by
    have h1 : first ≤ s[0] := hmin _ (hp.mem_iff.1 (List.getElem_mem hpos))
    obtain ⟨k, hk, hk2⟩ := List.mem_iff_getElem.1 (hp.mem_iff.2 hmem)
    have h2 : s[0] ≤ s[k] := by
      rcases Nat.eq_zero_or_pos k with rfl | hk0
      · exact Int.le_refl _
      · exact hs 0 k hpos hk hk0
    omega
  constructor
  · rintro ⟨hub, hnd⟩
    have hnd2 : s.Nodup := hp.nodup_iff.2 hnd
    rw [List.nodup_iff_pairwise_ne, List.pairwise_iff_getElem] at hnd2
    have hstep : ∀ d i, (hi : i + d < s.length) → s[i]'(by omega) + (d : Int) ≤ s[i + d] := by
      intro d
      induction d with
      | zero => intro i hi; simp
      | succ d ih =>
        intro i hi
        have h1 := ih i (by omega)
        have h2 := hs (i + d) (i + (d + 1)) (by omega) hi (by omega)
        have h3 := hnd2 (i + d) (i + (d + 1)) (by omega) hi (by omega)
        omega
    intro j hj
    have h1 := hstep j 0 (by omega)
    have h2 := hstep (s.length - 1 - j) j (by omega)
    have h3 : s[j + (s.length - 1 - j)]'(by omega) ≤ first + (zs.length : Int) - 1 := hub _ (hp.mem_iff.1 (List.getElem_mem _))
    have h4 : s[0 + j]'(by omega) = s[j] := by simp
    omega
  · intro hall
    refine ⟨fun z hz => ?_, ?_⟩
    · obtain ⟨k, hk, hk2⟩ := List.mem_iff_getElem.1 (hp.mem_iff.2 hz)
      have := hall k hk
      omega
    · refine hp.nodup_iff.1 ?_
      rw [List.nodup_iff_pairwise_ne, List.pairwise_iff_getElem]
      intro i j hi hj hij
      have h1 := hall i hi
      have h2 := hall j hj
      omega
theorem rd_get (l : List Int) (j : Nat) (h : j < l.length) : rd l (j : Int) = l[j] := by
 rw [rd_nat, List.getD, List.getElem?_eq_getElem h]; rfl
theorem has_take {zs : List Int} : (∀ j, j < zs.length → has (zs.take j) (rd zs (j : Int)) = false) ↔ zs.Nodup := by
 rw [List.nodup_iff_pairwise_ne, List.pairwise_iff_getElem]
 constructor
 ·intro h i j hi hj hij he
  have h1 := h j hj
  rw [rd_get _ _ hj] at h1
  have h2 : has (zs.take j) zs[j] = true := by
   rw [has, List.any_eq_true]
   refine ⟨zs[i], List.mem_take_iff_getElem.2 ⟨i, by omega, rfl⟩, by simpa using he⟩
  rw [h2] at h1; cases h1
 ·intro h j hj
  rw [Bool.eq_false_iff]
  intro h2
  rw [has, List.any_eq_true] at h2
  obtain ⟨y, hy, he⟩ := h2
  obtain ⟨i, hi, hi2⟩ := List.mem_take_iff_getElem.1 hy
  rw [rd_get _ _ hj, decide_eq_true_eq] at he
  exact h i j (by omega) hj (by omega) (by rw [hi2, he])
def goodFrom (zs : List Int) (lo hi : Int) : Nat → Nat → Bool
 | 0, _ => decide (1 ≤ lo ∧ lo ≤ 1000000000)
 | d + 1, i => decide (lo ≤ rd zs (i : Int) ∧ rd zs (i : Int) ≤ hi) && !(has (zs.take i) (rd zs (i : Int))) && goodFrom zs lo hi d (i + 1)
theorem goodFrom_iff (zs : List Int) (lo hi : Int) : ∀ d i, goodFrom zs lo hi d i = true ↔ (∀ j, i ≤ j → j < i + d → lo ≤ rd zs (j : Int) ∧ rd zs (j : Int) ≤ hi ∧ has (zs.take j) (rd zs (j : Int)) = false) ∧ 1 ≤ lo ∧ lo ≤ 1000000000
  | 0, i => by
    simp only [goodFrom, decide_eq_true_eq]
    exact ⟨fun h => ⟨fun j h1 h2 => by omega, h⟩, fun h => h.2⟩
  | d + 1, i => by
    simp only [goodFrom, Bool.and_eq_true, decide_eq_true_eq, Bool.not_eq_true', goodFrom_iff zs lo hi d (i + 1)]
    constructor
    · rintro ⟨⟨⟨h1, h2⟩, h3⟩, h4, h5⟩
      refine ⟨fun j hj1 hj2 => ?_, h5⟩
      by_cases hji : j = i
      · subst hji; exact ⟨h1, h2, h3⟩
      · exact h4 j (by omega) (by omega)
    · rintro ⟨h1, h2⟩
      have h3 := h1 i (Nat.le_refl _) (by omega)
      exact ⟨⟨⟨h3.1, h3.2.1⟩, h3.2.2⟩, fun j hj1 hj2 => h1 j (by omega) (by omega), h2⟩
theorem good_run {zs : List Int} {first hi : Int} (hmem : first ∈ zs) (hmin : ∀ z ∈ zs, first ≤ z) (hl : zs.length ≤ 1000) (hhi : 1 ≤ first → first ≤ 1000000000 → hi = first + (zs.length : Int) - 1) :
  goodFrom zs first hi zs.length 0 = runI (sortI zs) := by
 have hp := sortI_perm zs
 have hr := run_iff hp (sortI_sorted zs) hmem hmin
 have hlen : (sortI zs).length = zs.length := sortI_length zs
 have hpos : 0 < (sortI zs).length := by rw [hlen]; exact List.length_pos_of_mem hmem
 have hs0 : rd (sortI zs) 0 = (sortI zs)[0] := rd_get (sortI zs) 0 hpos
 have hf : first = (sortI zs)[0] := by
  have h1 : first ≤ (sortI zs)[0] := hmin _ (hp.mem_iff.1 (List.getElem_mem hpos))
  obtain ⟨k, hk, hk2⟩ := List.mem_iff_getElem.1 (hp.mem_iff.2 hmem)
  have h2 : (sortI zs)[0] ≤ (sortI zs)[k] := by
   rcases Nat.eq_zero_or_pos k with rfl | hk0
   ·exact Int.le_refl _
   ·exact (List.pairwise_iff_getElem.1 (sortI_sorted zs)) 0 k hpos hk hk0
  omega
 rw [Bool.eq_iff_iff, goodFrom_iff]
 constructor
 ·rintro ⟨h1, h2, h3⟩
  have hh := hhi h2 h3
  have hall := hr.1 ⟨fun z hz => by
   obtain ⟨k, hk, rfl⟩ := List.mem_iff_getElem.1 hz
   have := (h1 k (Nat.zero_le _) (by omega)).2.1
   rw [rd_get _ _ hk] at this
   omega, has_take.1 fun j hj => (h1 j (Nat.zero_le _) (by omega)).2.2⟩
  refine List.all_eq_true.2 fun j hj => ?_
  have hj' : j < (sortI zs).length := List.mem_range.1 hj
  have h4 := hall j hj'
  have h5 : wrap64 ((sortI zs)[0] + (j : Int)) = (sortI zs)[0] + (j : Int) := w64 (by omega) (by omega)
  simp only [okAt, inB, Bool.and_eq_true, decide_eq_true_eq, hs0, rd_get _ _ hj', h5]
  omega
 ·intro h
  have hok : ∀ j, j < (sortI zs).length → okAt (sortI zs) j = true := fun j hj => List.all_eq_true.1 h j (List.mem_range.2 hj)
  have h0 := hok 0 hpos
  simp only [okAt, inB, Bool.and_eq_true, decide_eq_true_eq, hs0] at h0
  have h1 : 1 ≤ first := by omega
  have h2 : first ≤ 1000000000 := by omega
  have hh := hhi h1 h2
  have hall : ∀ j (h : j < (sortI zs).length), (sortI zs)[j] = first + (j : Int) := fun j hj => by
   have h3 := hok j hj
   have h5 : wrap64 ((sortI zs)[0] + (j : Int)) = (sortI zs)[0] + (j : Int) := w64 (by omega) (by omega)
   simp only [okAt, inB, Bool.and_eq_true, decide_eq_true_eq, hs0, rd_get _ _ hj, h5] at h3
   omega
  obtain ⟨g1, g2⟩ := hr.2 hall
  refine ⟨fun j _ hj => ?_, h1, h2⟩
  have hj' : j < zs.length := by omega
  refine ⟨?_, ?_, has_take.2 g2 j hj'⟩
  ·rw [rd_get _ _ hj']; exact hmin _ (List.getElem_mem hj')
  ·rw [rd_get _ _ hj', hh]; exact g1 _ (List.getElem_mem hj')
theorem spec_IsForm_l0 (n : Int) (zs : List Int) (lo : Int) (hl : zs.length ≤ 1000) : ∀ d i, i + d = zs.length →
    Ev (fun k => spec_IsForm.l0 k n zs lo (i : Int)) (goodFrom zs lo (wrap64 ((wrap64 (lo + (wrap64 (2 * n)))) - 1)) d i) := by
  intro d
  induction d with
  | zero =>
    intro i hi
    refine Ev.succ ?_
    simp only [spec_IsForm.l0]
    refine Ev.neg (by omega) (Ev.ite (fun h => Ev.eq ?_) (fun h => Ev.eq ?_))
    · simp only [goodFrom]; congr 1; rw [Bool.eq_iff_iff]; simp only [decide_eq_true_eq]; omega
    · simp only [goodFrom]; congr 1; rw [eq_comm, decide_eq_false_iff_not]; omega
  | succ d ih =>
    intro i hi
    have e1 : wrap64 ((i : Int) + 1) = ((i + 1 : Nat) : Int) := by rw [w64 (by omega) (by omega)]; omega
    refine Ev.succ ?_
    simp only [spec_IsForm.l0, e1, Int.toNat_natCast, goodFrom]
    refine Ev.pos (by omega) (Ev.pos (by omega) (Ev.bind (Ev.eq (spec_l01In_eq _ _ _)) (Ev.ite (fun h => ?_) (fun h => Ev.eq ?_))))
    · rw [h, Bool.true_and]
      refine Ev.pos (by omega) (Ev.bind (spec_l01Has_ev (by rw [List.length_take]; omega) _) (Ev.ite (fun h2 => Ev.eq ?_) (fun h2 => ?_)))
      · rw [h2]; rfl
      · rw [Bool.eq_false_iff.2 h2, Bool.not_false, Bool.true_and]
        exact ih (i + 1) (by omega)
    · rw [Bool.eq_false_iff.2 h, Bool.false_and, Bool.false_and]
theorem mn_cases (a b : Int) : (mn a b = a ∨ mn a b = b) ∧ mn a b ≤ a ∧ mn a b ≤ b := by
 unfold mn; split <;> omega
theorem spec_l05Least_l0 (a b : Int) (p q h : List Int) (hl : p.length ≤ 1000) (hq : q.length = p.length) : ∀ d i, i + d = p.length → ∀ x : Int,
    ∃ L, Ev (fun k => spec_l05Least.l0 k x (i : Int) a b p q h) L ∧ (L = x ∨ L ∈ p.drop i ∨ L ∈ q.drop i) ∧ L ≤ x ∧ (∀ z ∈ p.drop i, L ≤ z) ∧ (∀ z ∈ q.drop i, L ≤ z) := by
  intro d
  induction d with
  | zero =>
    intro i hi x
    have e1 : p.drop i = [] := List.drop_eq_nil_of_le (by omega)
    have e2 : q.drop i = [] := List.drop_eq_nil_of_le (by omega)
    refine ⟨x, Ev.succ ?_, .inl rfl, Int.le_refl _, by simp [e1], by simp [e2]⟩
    simp only [spec_l05Least.l0]
    exact Ev.neg (by omega) (Ev.eq rfl)
  | succ d ih =>
    intro i hi x
    have e1 : wrap64 ((i : Int) + 1) = ((i + 1 : Nat) : Int) := by rw [w64 (by omega) (by omega)]; omega
    rw [getD_drop p 0 i (by omega), getD_drop q 0 i (by omega)]
    obtain ⟨L, h1, h2, h3, h4, h5⟩ := ih (i + 1) (by omega) (mn x (mn (p.getD i 0) (q.getD i 0)))
    have m1 := mn_cases x (mn (p.getD i 0) (q.getD i 0))
    have m2 := mn_cases (p.getD i 0) (q.getD i 0)
    refine ⟨L, Ev.succ ?_, ?_, by omega, ?_, ?_⟩
    · simp only [spec_l05Least.l0, rd_nat, e1]
      exact Ev.pos (by omega) (Ev.pos (by omega) (Ev.pos (by omega) h1))
    · rcases h2 with h2 | h2 | h2
      · rcases m1.1 with e | e
        · exact .inl (by omega)
        · rcases m2.1 with e' | e'
          · exact .inr (.inl (by rw [h2, e, e']; exact List.mem_cons_self))
          · exact .inr (.inr (by rw [h2, e, e']; exact List.mem_cons_self))
      · exact .inr (.inl (List.mem_cons_of_mem _ h2))
      · exact .inr (.inr (List.mem_cons_of_mem _ h2))
    · intro z hz
      rcases List.mem_cons.1 hz with rfl | hz
      · omega
      · exact h4 z hz
    · intro z hz
      rcases List.mem_cons.1 hz with rfl | hz
      · omega
      · exact h5 z hz
theorem spec_l05Least_ev (a b : Int) (p q h : List Int) (hl : p.length ≤ 1000) (hpos : 0 < p.length) (hq : q.length = p.length) :
  ∃ L, Ev (fun k => spec_l05Least.f k a b p q h) L ∧ L ∈ p ++ q ∧ ∀ z ∈ p ++ q, L ≤ z := by
 obtain ⟨L, h1, h2, h3, h4, h5⟩ := spec_l05Least_l0 a b p q h hl hq p.length 0 (by omega) (rd p 0)
 refine ⟨L, ?_, ?_, ?_⟩
 ·unfold spec_l05Least.f
  exact Ev.pos (by omega) h1
 ·rw [List.mem_append]
  rcases h2 with h2 | h2 | h2
  ·refine .inl ?_
   rw [h2, show (0 : Int) = ((0 : Nat) : Int) from rfl, rd_nat]
   exact getD_mem p 0 0 hpos
  ·exact .inl (by simpa using h2)
  ·exact .inr (by simpa using h2)
 ·intro z hz
  rcases List.mem_append.1 hz with hz | hz
  ·exact h4 z (by simpa using hz)
  ·exact h5 z (by simpa using hz)
def formOk (a b : Int) (p q h : List Int) : Bool := sideLen a && sideLen b && lensOk (wrap64 (a * b)) p q h && runI (sortI (p ++ q))
theorem lensOk_iff {n : Int} {p q h : List Int} : lensOk n p q h = true ↔ (p.length : Int) = n ∧ (q.length : Int) = n ∧ (h.length : Int) = n ∧ h.all (inB 0 1) = true := by
 simp only [lensOk, Bool.and_eq_true, decide_eq_true_eq]
 exact ⟨fun h => ⟨h.1.1.1, h.1.1.2, h.1.2, h.2⟩, fun h => ⟨⟨⟨h.1, h.2.1⟩, h.2.2.1⟩, h.2.2.2⟩⟩
theorem area {a b : Int} (ha : sideLen a = true) (hb : sideLen b = true) : wrap64 (a * b) = a * b ∧ 1 ≤ a * b ∧ a * b ≤ 64 := by
 have g1 := sideLen_iff ha
 have g2 := sideLen_iff hb
 have hb : 1 ≤ a * b ∧ a * b ≤ 8 * 8 := ⟨by have := Int.mul_le_mul (a := 1) (b := 1) g1.1 g2.1 (by omega) (by omega); omega, Int.mul_le_mul (by omega) (by omega) (by omega) (by omega)⟩
 exact ⟨w64 (by omega) (by omega), hb.1, by omega⟩
theorem impl_IsForm_eq (a b : Int) (p q h : List Int) : impl_IsForm.f a b p q h = some (formOk a b p q h) := by
 unfold impl_IsForm.f formOk
 rw [impl_isSheet_eq, Option.bind_some]
 by_cases hs : (sideLen a && sideLen b) = true
 ·rw [if_pos hs, hs, Bool.true_and]
  simp only [Bool.and_eq_true] at hs
  obtain ⟨e, h1, h2⟩ := area hs.1 hs.2
  by_cases hl : lensOk (wrap64 (a * b)) p q h = true
  ·have hl' := lensOk_iff.1 hl
   rw [if_pos hl, hl, Bool.true_and, if_pos (by rw [e] at hl'; omega)]
  ·rw [if_neg hl, Bool.eq_false_iff.2 hl, Bool.false_and]
 ·rw [if_neg hs, Bool.eq_false_iff.2 hs, Bool.false_and, Bool.false_and]
theorem within01 (h : List Int) (hl : h.length ≤ 64) : allWithin 64 0 1 h = h.all (inB 0 1) := by
 unfold allWithin
 rw [decide_eq_true (show (h.length : Int) ≤ 64 by omega), Bool.and_true]; rfl
theorem spec_l01Own_eq {l : List Int} (hl : l.length ≤ 1048576) : spec_l01Own.f l = some l := by
 unfold spec_l01Own.f
 rw [Option.bind_some, if_pos (by simp; omega)]; simp
theorem spec_IsForm_ev {a b : Int} {p q h : List Int} (hp : p.length ≤ 1048576) (hq : q.length ≤ 1048576) (hh : h.length ≤ 1048576) : Ev (fun k => spec_IsForm.f k a b p q h) (formOk a b p q h) := by
 unfold spec_IsForm.f formOk
 have hfalse : ∀ n : Int, Ev (fun k => spec_IsForm.j0 k n true a b p q h) false := fun n => by
  refine Ev.succ ?_
  simp only [spec_IsForm.j0]
  exact Ev.pos (by trivial) (Ev.eq rfl)
 refine Ev.bind (Ev.eq (spec_l04Sheet_eq a b)) (Ev.ite (fun hs => ?_) (fun hs => (hfalse _).cast ?_))
 ·rw [hs, Bool.true_and]
  simp only [Bool.and_eq_true] at hs
  obtain ⟨e, h1, h2⟩ := area hs.1 hs.2
  rw [e]
  refine Ev.ite (fun c2 => Ev.ite (fun c3 => Ev.ite (fun c4 => ?_) (fun c4 => (hfalse _).cast ?_)) (fun c3 => (hfalse _).cast ?_)) (fun c2 => (hfalse _).cast ?_)
  ·refine Ev.bind (spec_l01Within_ev (by omega) 64 0 1) ?_
   rw [within01 h (by omega)]
   by_cases hw : h.all (inB 0 1) = true
   ·rw [hw]
    refine Ev.succ ?_
    simp only [spec_IsForm.j0]
    obtain ⟨L, l1, l2, l3⟩ := spec_l05Least_ev a b p q h (by omega) (by omega) (by omega)
    refine Ev.neg (by simp) (Ev.bind (Ev.eq (spec_l01Own_eq hp)) (Ev.pos (by omega) (Ev.bind l1 ?_)))
    have hl : (p ++ q).length ≤ 1000 := by rw [List.length_append]; omega
    have hlen : ((p ++ q).length : Int) = 2 * (a * b) := by rw [List.length_append]; omega
    refine (spec_IsForm_l0 (a * b) (p ++ q) L hl (p ++ q).length 0 (by omega)).cast ?_
    rw [good_run l2 l3 hl (fun g1 g2 => by rw [w64 (x := 2 * (a * b)) (by omega) (by omega), w64 (x := L + 2 * (a * b)) (by omega) (by omega), w64 (by omega) (by omega), hlen]), lensOk_iff.2 ⟨c2, c3, c4, hw⟩, Bool.true_and]
   ·rw [Bool.eq_false_iff.2 hw]
    refine (hfalse _).cast ?_
    have : lensOk (a * b) p q h = false := by rw [Bool.eq_false_iff]; intro h2; exact hw (lensOk_iff.1 h2).2.2.2
    rw [this, Bool.false_and]
  ·have : lensOk (a * b) p q h = false := by rw [Bool.eq_false_iff]; intro h2; exact c4 (lensOk_iff.1 h2).2.2.1
   rw [this, Bool.false_and]
  ·have : lensOk (a * b) p q h = false := by rw [Bool.eq_false_iff]; intro h2; exact c3 (lensOk_iff.1 h2).2.1
   rw [this, Bool.false_and]
  ·have : lensOk (a * b) p q h = false := by rw [Bool.eq_false_iff]; intro h2; exact c2 (lensOk_iff.1 h2).1
   rw [this, Bool.false_and]
 ·rw [Bool.eq_false_iff.2 hs, Bool.false_and, Bool.false_and]
theorem formOk_iff {a b : Int} {p q h : List Int} (hf : formOk a b p q h = true) : sideLen a = true ∧ sideLen b = true ∧ (p.length : Int) = a * b ∧ (q.length : Int) = a * b ∧ (h.length : Int) = a * b ∧ (1 ≤ a * b ∧ a * b ≤ 64) ∧ h.all (inB 0 1) = true ∧ runI (sortI (p ++ q)) = true := by
 simp only [formOk, Bool.and_eq_true] at hf
 obtain ⟨⟨⟨h1, h2⟩, h3⟩, h4⟩ := hf
 obtain ⟨e, h5, h6⟩ := area h1 h2
 rw [e] at h3
 obtain ⟨g1, g2, g3, g4⟩ := lensOk_iff.1 h3
 exact ⟨h1, h2, g1, g2, g3, ⟨h5, h6⟩, g4, h4⟩
def mirrorAt (W : Nat) (h : List Int) (i : Nat) : Int := rd h ((i / W * W + W - 1 - i % W : Nat) : Int)
def mirror (W : Nat) (h : List Int) (n : Nat) : List Int := (List.range n).map (mirrorAt W h)
theorem mirror_succ (W : Nat) (h : List Int) (n : Nat) : mirror W h n ++ [mirrorAt W h n] = mirror W h (n + 1) := by simp [mirror, List.range_succ]
theorem mirror_length (W : Nat) (h : List Int) (n : Nat) : (mirror W h n).length = n := by simp [mirror]
theorem mirror_place {W H i : Nat} (hW : 0 < W) (hi : i < W * H) : i / W * W + i % W = i ∧ i % W < W ∧ i / W * W + W ≤ W * H := by
 have h1 := Nat.div_add_mod i W
 have h2 := Nat.mod_lt i hW
 have h3 : i / W < H := Nat.div_lt_of_lt_mul hi
 have h4 : (i / W + 1) * W ≤ H * W := Nat.mul_le_mul_right W h3
 have h5 : (i / W + 1) * W = i / W * W + W := by rw [Nat.add_mul, Nat.one_mul]
 have h6 : H * W = W * H := Nat.mul_comm H W
 have h7 : W * (i / W) = i / W * W := Nat.mul_comm _ _
 exact ⟨by omega, h2, by omega⟩
theorem mirror_where {q r Q W : Nat} (hr : r < W) (hQ : Q + W ≤ 64) (e : (q : Int) * (W : Int) = (Q : Int)) :
  wrap64 ((wrap64 ((wrap64 ((wrap64 ((q : Int) * (W : Int))) + (W : Int))) - 1)) - (r : Int)) = ((Q + W - 1 - r : Nat) : Int) := by
 rw [e, w64 (x := (Q : Int)) (by omega) (by omega), w64 (x := (Q : Int) + W) (by omega) (by omega), w64 (x := (Q : Int) + W - 1) (by omega) (by omega), w64 (by omega) (by omega)]
 omega
theorem wrap_q64 {q : Nat} (h : q ≤ 64) : wrap64 (q : Int) = (q : Int) := w64 (by omega) (by omega)
theorem spec_l27Mirror_l0 (W H : Nat) (h : List Int) (hW : 0 < W) (hW8 : W ≤ 8) (hl : h.length = W * H) (h64 : h.length ≤ 64) : ∀ d i, i + d = h.length →
    Ev (fun k => spec_l27Mirror.l0 k (W : Int) h (mirror W h i) (i : Int)) (mirror W h h.length) := by
  intro d
  induction d with
  | zero =>
    intro i hi
    refine Ev.succ ?_
    simp only [spec_l27Mirror.l0]
    have e : i = h.length := by omega
    exact Ev.neg (by omega) (Ev.eq (by rw [e]))
  | succ d ih =>
    intro i hi
    have e1 : wrap64 ((i : Int) + 1) = ((i + 1 : Nat) : Int) := by rw [w64 (by omega) (by omega)]; omega
    obtain ⟨p1, p2, p3⟩ := mirror_place (H := H) hW (show i < W * H by omega)
    have d1 : Int.tdiv (i : Int) (W : Int) = ((i / W : Nat) : Int) := rfl
    have d2 : Int.tmod (i : Int) (W : Int) = ((i % W : Nat) : Int) := rfl
    have d3 : ((i / W : Nat) : Int) * (W : Int) = ((i / W * W : Nat) : Int) := by rw [Int.natCast_mul]
    have q64 : i / W ≤ 64 := Nat.le_trans (Nat.div_le_self i W) (by omega)
    have hm : mirrorAt W h i = rd h ((i / W * W + W - 1 - i % W : Nat) : Int) := rfl
    have d5 := wrap_q64 q64
    generalize hQ : i / W * W = Q at p1 p3 d3 hm
    generalize i / W = q at d1 d3 d5
    generalize i % W = r at d2 p1 p2 hm
    have d4 := mirror_where p2 (show Q + W ≤ 64 by omega) d3
    have g1 : (0 : Int) ≤ ((Q + W - 1 - r : Nat) : Int) := Int.natCast_nonneg _
    have g2 : ((Q + W - 1 - r : Nat) : Int) < (h.length : Int) := by omega
    have g3 : ¬ (W : Int) = 0 := by omega
    refine Ev.succ ?_
    simp only [spec_l27Mirror.l0, d1, d2, d5, d4, e1]
    refine Ev.pos (by omega) (Ev.neg (by omega) (Ev.pos (by omega) (Ev.pos (by omega) (Ev.pos (by rw [mirror_length]; omega) ?_))))
    rw [← hm, mirror_succ]
    exact ih (i + 1) (by omega)
theorem spec_l27Mirror_ev (W H : Nat) (h : List Int) (hW : 0 < W) (hW8 : W ≤ 8) (hl : h.length = W * H) (h64 : h.length ≤ 64) : Ev (fun k => spec_l27Mirror.f k (W : Int) h) (mirror W h h.length) := by
 unfold spec_l27Mirror.f
 exact spec_l27Mirror_l0 W H h hW hW8 hl h64 h.length 0 (by omega)
theorem impl_turnedHeads_l1 (W H : Nat) (h : List Int) (hW : 0 < W) (hW8 : W ≤ 8) (hH8 : H ≤ 8) (hl : h.length = W * H) (y : Nat) (hy : y < H) (R : List Int)
    (hnext : Ev (fun k => impl_turnedHeads.l0 k (W : Int) h (mirror W h ((y + 1) * W)) (H : Int) ((y + 1 : Nat) : Int)) R) : ∀ d x, x + d = W →
    Ev (fun k => impl_turnedHeads.l1 k (W : Int) h (mirror W h (y * W + x)) (y : Int) (H : Int) (y : Int) (W : Int) (x : Int)) R := by
  have hyW : (y + 1) * W = y * W + W := by rw [Nat.add_mul, Nat.one_mul]
  have hle : (y + 1) * W ≤ H * W := Nat.mul_le_mul_right W hy
  have hHW : H * W = W * H := Nat.mul_comm H W
  have hb : W * H ≤ 8 * 8 := Nat.mul_le_mul hW8 hH8
  intro d
  induction d with
  | zero =>
    intro x hx
    refine Ev.succ ?_
    simp only [impl_turnedHeads.l1]
    have e1 : wrap64 ((y : Int) + 1) = ((y + 1 : Nat) : Int) := by rw [w64 (by omega) (by omega)]; omega
    refine Ev.neg (by omega) ?_
    rw [e1, show y * W + x = (y + 1) * W by omega]
    exact hnext
  | succ d ih =>
    intro x hx
    have e1 : wrap64 ((x : Int) + 1) = ((x + 1 : Nat) : Int) := by rw [w64 (by omega) (by omega)]; omega
    have d3 : (y : Int) * (W : Int) = ((y * W : Nat) : Int) := by rw [Int.natCast_mul]
    have hdiv : (y * W + x) / W = y := by rw [Nat.mul_comm, Nat.mul_add_div hW, Nat.div_eq_of_lt (by omega)]; rfl
    have hmod : (y * W + x) % W = x := by rw [Nat.mul_comm, Nat.mul_add_mod]; exact Nat.mod_eq_of_lt (by omega)
    have hm : mirrorAt W h (y * W + x) = rd h ((y * W + W - 1 - x : Nat) : Int) := by unfold mirrorAt; rw [hdiv, hmod]
    have h3 := ih (x + 1) (by omega)
    rw [show y * W + (x + 1) = y * W + x + 1 by omega, ← mirror_succ, hm] at h3
    have hlen := mirror_length W h (y * W + x)
    have hpos : y * W + W ≤ W * H := hyW ▸ hHW ▸ hle
    clear hyW hle hHW hdiv hmod
    have hxp : y * W + x < 17592186044416 := by omega
    have hbp : impl_backPlace.f (W : Int) (x : Int) (y : Int) = some ((y * W + W - 1 - x : Nat) : Int) := by
      unfold impl_backPlace.f
      exact congrArg some (mirror_where (show x < W by omega) (by omega) d3)
    generalize y * W = Q at hlen hbp h3 hpos hxp hm d3
    have g1 : (0 : Int) ≤ ((Q + W - 1 - x : Nat) : Int) := Int.natCast_nonneg _
    have g2 : ((Q + W - 1 - x : Nat) : Int) < (h.length : Int) := by omega
    have g3 : (x : Int) < (W : Int) := by omega
    have g4 : (mirror W h (Q + x)).length < 17592186044416 := by omega
    refine Ev.succ ?_
    simp only [impl_turnedHeads.l1, e1]
    refine Ev.pos g3 (Ev.bind (Ev.eq hbp) ?_)
    exact Ev.pos g1 (Ev.pos g2 (Ev.pos g4 h3))
theorem impl_turnedHeads_l0 (W H : Nat) (h : List Int) (hW : 0 < W) (hW8 : W ≤ 8) (hH8 : H ≤ 8) (hl : h.length = W * H) : ∀ d y, y + d = H →
    Ev (fun k => impl_turnedHeads.l0 k (W : Int) h (mirror W h (y * W)) (H : Int) (y : Int)) (mirror W h h.length) := by
  intro d
  induction d with
  | zero =>
    intro y hy
    refine Ev.succ ?_
    simp only [impl_turnedHeads.l0]
    have e : y = H := by omega
    refine Ev.neg (by omega) (Ev.eq ?_)
    rw [e, hl, Nat.mul_comm]
  | succ d ih =>
    intro y hy
    refine Ev.succ ?_
    simp only [impl_turnedHeads.l0]
    have h1 := impl_turnedHeads_l1 W H h hW hW8 hH8 hl y (by omega) _ (ih (y + 1) (by omega)) W 0 (by omega)
    rw [Nat.add_zero] at h1
    exact Ev.pos (by omega) h1
theorem impl_turnedHeads_ev (W H : Nat) (h : List Int) (hW : 0 < W) (hW8 : W ≤ 8) (hH8 : H ≤ 8) (hl : h.length = W * H) : Ev (fun k => impl_turnedHeads.f k (W : Int) (H : Int) h) (mirror W h h.length) := by
 unfold impl_turnedHeads.f
 have := impl_turnedHeads_l0 W H h hW hW8 hH8 hl H 0 (by omega)
 rw [Nat.zero_mul] at this
 exact this
def sideF (a b : Int) (p q h : List Int) (s : Int) : Int × Int × List Int × List Int := if s = 0 then (a, b, p, h) else (a, b, q, mirror a.toNat h h.length)
theorem form_nat {a b : Int} {p q h : List Int} (hf : formOk a b p q h = true) : ∃ W H : Nat, a = (W : Int) ∧ b = (H : Int) ∧ 0 < W ∧ W ≤ 8 ∧ H ≤ 8 ∧ h.length = W * H ∧ h.length ≤ 64 ∧ p.length ≤ 64 ∧ q.length ≤ 64 := by
 obtain ⟨h1, h2, h3, h4, h5, h6, _, _⟩ := formOk_iff hf
 have g1 := sideLen_iff h1
 have g2 := sideLen_iff h2
 obtain ⟨W, rfl⟩ : ∃ W : Nat, a = (W : Int) := ⟨a.toNat, by omega⟩
 obtain ⟨H, rfl⟩ : ∃ H : Nat, b = (H : Int) := ⟨b.toNat, by omega⟩
 rw [← Int.natCast_mul] at h3 h4 h5 h6
 exact ⟨W, H, rfl, rfl, by omega, by omega, by omega, by omega, by omega, by omega, by omega⟩
theorem spec_l27Side_ev {a b : Int} {p q h : List Int} (hf : formOk a b p q h = true) (s : Int) : Ev (fun k => spec_l27Side.f k a b p q h s) (sideF a b p q h s) := by
 obtain ⟨W, H, rfl, rfl, hW, hW8, hH8, hl, h64, hp, hq⟩ := form_nat hf
 unfold spec_l27Side.f sideF
 refine Ev.ite (fun c => ?_) (fun c => ?_)
 ·rw [if_pos c]
  exact Ev.bind (Ev.eq (spec_l01Own_eq (by omega))) (Ev.bind (Ev.eq (spec_l01Own_eq (by omega))) (Ev.eq rfl))
 ·rw [if_neg c]
  exact Ev.bind (Ev.eq (spec_l01Own_eq (by omega))) (Ev.bind (spec_l27Mirror_ev W H h hW hW8 hl h64) (Ev.eq rfl))
theorem impl_Clone_eq {l : List Int} (hl : l.length ≤ 1048576) : slices_Clone_int64_int64.f l = some l := by
 unfold slices_Clone_int64_int64.f
 rw [if_pos (by omega)]
theorem impl_sideOf_ev {a b : Int} {p q h : List Int} (hf : formOk a b p q h = true) (s : Int) : Ev (fun k => impl_sideOf.f k a b p q h s) (sideF a b p q h s) := by
 obtain ⟨W, H, rfl, rfl, hW, hW8, hH8, hl, h64, hp, hq⟩ := form_nat hf
 unfold impl_sideOf.f sideF
 refine Ev.ite (fun c => ?_) (fun c => ?_)
 ·rw [if_pos c]
  exact Ev.bind (Ev.eq (impl_Clone_eq (by omega))) (Ev.bind (Ev.eq (impl_Clone_eq (by omega))) (Ev.eq rfl))
 ·rw [if_neg c]
  exact Ev.bind (Ev.eq (impl_Clone_eq (by omega))) (Ev.bind (impl_turnedHeads_ev W H h hW hW8 hH8 hl) (Ev.eq rfl))
theorem sideF_length {a b : Int} {p q h : List Int} (hf : formOk a b p q h = true) (s : Int) : (sideF a b p q h s).2.2.1.length ≤ 64 ∧ (sideF a b p q h s).2.2.2.length ≤ 64 := by
 obtain ⟨W, H, rfl, rfl, hW, hW8, hH8, hl, h64, hp, hq⟩ := form_nat hf
 unfold sideF
 split
 ·exact ⟨hp, h64⟩
 ·exact ⟨hq, by rw [mirror_length]; exact h64⟩
def sideOfForm (a b : Int) (p q h : List Int) (s : Int) : Int × Int × List Int × List Int × Int :=
 if formOk a b p q h = true then (if 0 ≤ s ∧ s ≤ 1 then ((sideF a b p q h s).1, (sideF a b p q h s).2.1, (sideF a b p q h s).2.2.1, (sideF a b p q h s).2.2.2, 0) else (0, 0, [], [], 2)) else (0, 0, [], [], 1)
theorem sideOfForm_length (a b : Int) (p q h : List Int) (s : Int) : (sideOfForm a b p q h s).2.2.1.length ≤ 64 ∧ (sideOfForm a b p q h s).2.2.2.1.length ≤ 64 := by
 unfold sideOfForm
 split
 ·rename_i hf
  split
  ·exact sideF_length hf s
  ·simp
 ·simp
theorem spec_SideOfForm_ev {a b : Int} {p q h : List Int} (hp : p.length ≤ 1048576) (hq : q.length ≤ 1048576) (hh : h.length ≤ 1048576) (s : Int) : Ev (fun k => spec_SideOfForm.f k a b p q h s) (sideOfForm a b p q h s) := by
 unfold spec_SideOfForm.f sideOfForm
 refine Ev.bind (spec_IsForm_ev hp hq hh) (Ev.ite (fun c => ?_) (fun c => Ev.eq (by rw [if_neg c])))
 rw [if_pos c]
 refine Ev.bind (Ev.eq (spec_l01In_eq _ _ _)) (Ev.ite (fun c2 => ?_) (fun c2 => Ev.eq ?_))
 ·rw [decide_eq_true_eq] at c2
  rw [if_pos c2]
  exact Ev.bind (spec_l27Side_ev c s) (Ev.eq rfl)
 ·rw [decide_eq_true_eq] at c2
  rw [if_neg c2]
theorem impl_SideOfForm_ev (a b : Int) (p q h : List Int) (s : Int) : Ev (fun k => impl_SideOfForm.f k a b p q h s) (sideOfForm a b p q h s) := by
 unfold impl_SideOfForm.f sideOfForm
 refine Ev.bind (Ev.eq (impl_IsForm_eq a b p q h)) (Ev.ite (fun c => ?_) (fun c => Ev.eq (by rw [if_neg c])))
 rw [if_pos c]
 refine Ev.bind (Ev.eq (impl_inRange_eq _ _ _)) (Ev.ite (fun c2 => ?_) (fun c2 => Ev.eq ?_))
 ·rw [decide_eq_true_eq] at c2
  rw [if_pos c2]
  exact Ev.bind (impl_sideOf_ev c s) (Ev.eq rfl)
 ·rw [decide_eq_true_eq] at c2
  rw [if_neg c2]
end Go.Proofs.YtokpepaoneiepaaGreatDoor.PL
end
