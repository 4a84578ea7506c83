-- Gathered by this session's program wip/tool/shake.py out of its own texts and of what the kit's print and the session's patches of it wrote for this claim.
import Derived.Sort.LotA
section
namespace Go.Proofs.Ytanokgpnmbbajaa.Stab
open Go.Sort
variable {α : Type} [Inhabited α]
set_option linter.unusedVariables false
set_option linter.unusedSectionVars false
def rotI (a m b x : Nat) : Nat := if a ≤ x ∧ x < a + (b - m) then x + (m - a) else if a + (b - m) ≤ x ∧ x < b then x - (b - m) else x
def swI (a b n x : Nat) : Nat := if a ≤ x ∧ x < a + n then x - a + b else if b ≤ x ∧ x < b + n then x - b + a else x
structure Rot (a m b : Nat) (d d' : Array α) : Prop where
  perm : PermIn a b d d'
  get : ∀ x, x < d.size → d'[x]! = d[rotI a m b x]!
structure Swr (a b n : Nat) (d d' : Array α) : Prop where
  perm : PermIn a (b + n) d d'
  get : ∀ x, x < d.size → d'[x]! = d[swI a b n x]!
theorem Swr.step {a b n : Nat} {d d' : Array α} (h : Swr a b n d d') (hab : a + (n + 1) ≤ b) (hb : b + (n + 1) ≤ d.size) : Swr a b (n + 1) d (swp d' (a + n) (b + n)) := by
  have hs := h.perm.1
  refine ⟨permIn_trans _ _ _ _ _ (permIn_mono _ _ a (b + n) a (b + (n + 1)) (by omega) (by omega) (by omega) h.perm) (swp_permIn _ _ _ _ _ (by omega) (by omega) (by omega) (by omega) (by omega)), fun x hx => ?_⟩
  rw [swp_get d' (by omega) (by omega)]
  by_cases h1 : x = b + n
  · rw [if_pos h1, h.get _ (by omega)]
    congr 1
    unfold swI
    subst h1
    rw [if_neg (by omega), if_neg (by omega), if_neg (by omega), if_pos (by omega)]
    omega
  · rw [if_neg h1]
    by_cases h2 : x = a + n
    · rw [if_pos h2, h.get _ (by omega)]
      congr 1
      unfold swI
      subst h2
      rw [if_neg (by omega), if_neg (by omega), if_pos (by omega)]
      omega
    · rw [if_neg h2, h.get _ hx]
      congr 1
      unfold swI
      (repeat' split) <;> omega
theorem Rot.right {a k : Nat} {d d' : Array α} (h : Rot a (a + 1) (k + 1) d d') (hak : a ≤ k) (hk : k + 1 < d.size) : Rot a (a + 1) (k + 2) d (swp d' k (k + 1)) := by
  have hs := h.perm.1
  refine ⟨permIn_trans _ _ _ _ _ (permIn_mono _ _ a (k + 1) a (k + 2) (by omega) (by omega) (by omega) h.perm) (swp_permIn _ _ _ _ _ (by omega) (by omega) (by omega) (by omega) (by omega)), fun x hx => ?_⟩
  rw [swp_get d' (by omega) (by omega)]
  by_cases h1 : x = k + 1
  · rw [if_pos h1, h.get _ (by omega)]
    congr 1; subst h1; unfold rotI; (repeat' split) <;> omega
  · rw [if_neg h1]
    by_cases h2 : x = k
    · rw [if_pos h2, h.get _ (by omega)]
      congr 1; subst h2; unfold rotI; (repeat' split) <;> omega
    · rw [if_neg h2, h.get _ hx]
      congr 1; unfold rotI; (repeat' split) <;> omega
theorem Rot.left {k m : Nat} {d d' : Array α} (h : Rot (k + 1) m (m + 1) d d') (hkm : k + 1 ≤ m) (hm : m < d.size) : Rot k m (m + 1) d (swp d' (k + 1) k) := by
  have hs := h.perm.1
  refine ⟨permIn_trans _ _ _ _ _ (permIn_mono _ _ (k + 1) (m + 1) k (m + 1) (by omega) (by omega) (by omega) h.perm) (swp_permIn _ _ _ _ _ (by omega) (by omega) (by omega) (by omega) (by omega)), fun x hx => ?_⟩
  rw [swp_get d' (by omega) (by omega)]
  by_cases h1 : x = k
  · rw [if_pos h1, h.get _ (by omega)]
    congr 1; subst h1; unfold rotI; (repeat' split) <;> omega
  · rw [if_neg h1]
    by_cases h2 : x = k + 1
    · rw [if_pos h2, h.get _ (by omega)]
      congr 1; subst h2; unfold rotI; (repeat' split) <;> omega
    · rw [if_neg h2, h.get _ hx]
      congr 1; unfold rotI; (repeat' split) <;> omega
theorem Rot.none {s m e : Nat} {d : Array α} (h : ¬ (s < m ∧ m < e)) (hs : s ≤ m) (he : m ≤ e) : Rot s m e d d := ⟨permIn_refl _ _ _, fun x hx => by
  have : rotI s m e x = x := by unfold rotI; (repeat' split) <;> omega
  rw [this]⟩
def Mono (q : Nat → Bool) (lo hi : Nat) : Prop := ∀ x y, lo ≤ x → x ≤ y → y < hi → q y = true → q x = true
structure BS (q : Nat → Bool) (lo hi i j : Nat) : Prop where
  h1 : lo ≤ i
  h2 : i ≤ j
  h3 : j ≤ hi
  low : ∀ x, lo ≤ x → x < i → q x = true
  high : ∀ x, j ≤ x → x < hi → q x = false
theorem BS.up {q : Nat → Bool} {lo hi i j h : Nat} (hM : Mono q lo hi) (H : BS q lo hi i j) (h1 : i ≤ h) (h2 : h < j) (hq : q h = true) : BS q lo hi (h + 1) j :=
  have := H.h1; have := H.h3
  ⟨by omega, by omega, H.h3, fun x hx hl => hM x h hx (by omega) (by omega) hq, H.high⟩
variable (key : α → Int) (tg : α → Nat)
def ltK (x y : α) : Bool := decide (key x < key y)
def ltT (x y : α) : Bool := decide (key x < key y ∨ key x = key y ∧ tg x < tg y)
theorem swoT : SWO (ltT key tg) := by
  constructor
  · intro x; simp [ltT]
  · intro x y z h1 h2; simp only [ltT, decide_eq_true_eq] at *; omega
  · intro x y z h1 h2; simp only [ltT, decide_eq_false_iff_not] at *; omega
theorem ltK_T {x y : α} (h : tg y < tg x) : ltK key x y = ltT key tg x y := by
  unfold ltK ltT; congr 1; rw [eq_iff_iff]; omega
theorem insInner_T (a : Nat) : ∀ (j : Nat) (d : Array α), j < d.size → (∀ x, a ≤ x → x < j → tg d[x]! < tg d[j]!) → insInner (ltK key) a j d = insInner (ltT key tg) a j d
  | 0, d, _, _ => rfl
  | j + 1, d, hj, h => by
    unfold insInner
    by_cases haj : a ≤ j
    · rw [ltK_T key tg (h j haj (by omega))]
      split
      · refine insInner_T a j _ (by rw [swp_size]; omega) (fun x hx hl => ?_)
        rw [swp_get d hj (by omega), swp_get d hj (by omega), if_neg (by omega), if_neg (by omega), if_pos rfl]
        exact h x hx (by omega)
      · rfl
    · simp [show ¬ (j + 1 > a) by omega]
theorem insInner_perm (lt : α → α → Bool) (a b : Nat) : ∀ (j : Nat) (d : Array α), a ≤ j → j < b → b ≤ d.size → PermIn a b d (insInner lt a j d)
  | 0, d, _, _, _ => permIn_refl _ _ _
  | j + 1, d, haj, hjb, hb => by
    unfold insInner
    split
    · rename_i hc
      simp only [Bool.and_eq_true, decide_eq_true_eq] at hc
      exact permIn_trans _ _ _ _ _ (swp_permIn d a b (j + 1) j haj (by omega) (by omega) (by omega) hb) (insInner_perm lt a b j _ (by omega) (by omega) (by rw [swp_size]; exact hb))
    · exact permIn_refl _ _ _
theorem insOuter_T (a b : Nat) : ∀ (n i : Nat) (d : Array α), b - i = n → a < i → b ≤ d.size → (∀ x y, a ≤ x → x < y → i ≤ y → y < b → tg d[x]! < tg d[y]!) → insOuter (ltK key) a b i d = insOuter (ltT key tg) a b i d
  | 0, i, d, hn, _, _, _ => by
    have e : ∀ lt : α → α → Bool, insOuter lt a b i d = d := fun lt => by rw [insOuter, if_neg (by omega)]
    rw [e, e]
  | n + 1, i, d, hn, hai, hb, h => by
    have hlt : i < b := by omega
    have e : ∀ lt : α → α → Bool, insOuter lt a b i d = insOuter lt a b (i + 1) (insInner lt a i d) := fun lt => by conv => lhs; rw [insOuter, if_pos hlt]
    rw [e, e, insInner_T key tg a i d (by omega) (fun x hx hl => h x i hx hl (Nat.le_refl _) hlt)]
    have hP := insInner_perm (ltT key tg) a (i + 1) i d (by omega) (by omega) (by omega)
    refine insOuter_T a b n (i + 1) _ (by omega) (by omega) (by rw [hP.1]; exact hb) (fun x y hx hxy hy hyb => ?_)
    rw [hP.2.1 y (by omega)]
    by_cases hxi : x < i + 1
    · exact permIn_all _ _ a (i + 1) (fun z => tg z < tg d[y]!) (by omega) hP (fun z hz hzi => h z y hz (by omega) (by omega) hyb) x hx hxi
    · rw [hP.2.1 x (by omega)]; exact h x y hx hxy (by omega) hyb
theorem insertion_T (a b : Nat) (d : Array α) (hab : a ≤ b) (hb : b ≤ d.size) (h : ∀ x y, a ≤ x → x < y → y < b → tg d[x]! < tg d[y]!) :
    PermIn a b d (insertionSort (ltK key) d a b) ∧ SortedIn (ltT key tg) a b (insertionSort (ltK key) d a b) := by
  have e : insertionSort (ltK key) d a b = insertionSort (ltT key tg) d a b := by
    unfold insertionSort; exact insOuter_T key tg a b _ _ d rfl (by omega) hb (fun x y hx hxy _ hy => h x y hx hxy hy)
  rw [e]; exact insertionSort_holds (swoT key tg) d a b hab hb
structure Pre (a m b : Nat) (d : Array α) : Prop where
  left : SortedIn (ltT key tg) a m d
  right : SortedIn (ltT key tg) m b d
  cross : ∀ i j, a ≤ i → i < m → m ≤ j → j < b → ltK key d[j]! d[i]! = ltT key tg d[j]! d[i]!
variable {key tg}
theorem sin_le {a b : Nat} {d : Array α} (h : SortedIn (ltT key tg) a b d) {x y : Nat} (h1 : a ≤ x) (h2 : x ≤ y) (h3 : y < b) : ltT key tg d[y]! d[x]! = false := by
  rcases Nat.lt_or_ge x y with h4 | h4
  · exact h x y h1 h4 h3
  · obtain rfl : x = y := by omega
    exact (swoT key tg).irrefl _
/-- Where the two rows are cut: nothing behind s on the left is behind e on the right, and what stands between goes ahead. -/
structure Cut (key : α → Int) (tg : α → Nat) (a m b s e : Nat) (d : Array α) : Prop where
  pre : Pre key tg a m b d
  has : a ≤ s
  hsm : s ≤ m
  hme : m ≤ e
  heb : e ≤ b
  up : ∀ i j, a ≤ i → i < s → e ≤ j → j < b → ltT key tg d[j]! d[i]! = false
  dn : ∀ i j, s ≤ i → i < m → m ≤ j → j < e → ltT key tg d[i]! d[j]! = false
/-- Behind the rotation: two smaller tasks, all of the first ahead of all of the second. -/
structure Split (key : α → Int) (tg : α → Nat) (a s mid e b : Nat) (d : Array α) : Prop where
  one : Pre key tg a s mid d
  two : Pre key tg mid e b d
  le : ∀ i j, a ≤ i → i < mid → mid ≤ j → j < b → ltT key tg d[j]! d[i]! = false
theorem rotI_a {s m e x : Nat} (h : x < s) : rotI s m e x = x := by unfold rotI; (repeat' split) <;> omega
theorem rotI_b {s m e x : Nat} (h1 : s ≤ x) (h2 : x < s + (e - m)) : rotI s m e x = x + (m - s) := by unfold rotI; (repeat' split) <;> omega
theorem rotI_c {s m e x : Nat} (h1 : s + (e - m) ≤ x) (h2 : x < e) : rotI s m e x = x - (e - m) := by unfold rotI; (repeat' split) <;> omega
theorem rotI_d {s m e x : Nat} (hs : s ≤ m) (hm : m ≤ e) (h1 : e ≤ x) : rotI s m e x = x := by unfold rotI; (repeat' split) <;> omega
theorem Cut.split {a m b s e : Nat} {d d' : Array α} (h : Cut key tg a m b s e d) (hb : b ≤ d.size) (hr : Rot s m e d d') : Split key tg a s (s + (e - m)) e b d' := by
  have h1 := h.has; have h2 := h.hsm; have h3 := h.hme; have h4 := h.heb
  have gA : ∀ x, a ≤ x → x < s → d'[x]! = d[x]! := fun x _ hx => by rw [hr.get x (by omega), rotI_a hx]
  have gB : ∀ x, s ≤ x → x < s + (e - m) → d'[x]! = d[x + (m - s)]! := fun x hx hy => by rw [hr.get x (by omega), rotI_b hx hy]
  have gC : ∀ x, s + (e - m) ≤ x → x < e → d'[x]! = d[x - (e - m)]! := fun x hx hy => by rw [hr.get x (by omega), rotI_c hx hy]
  have gD : ∀ x, e ≤ x → x < b → d'[x]! = d[x]! := fun x hx hy => by rw [hr.get x (by omega), rotI_d h2 h3 hx]
  have asym : ∀ {x y : α}, ltT key tg x y = true → ltT key tg y x = false := fun h => (swoT key tg).asymmA h
  refine ⟨⟨fun i j hi hij hj => ?_, fun i j hi hij hj => ?_, fun i j hi hi2 hj hj2 => ?_⟩, ⟨fun i j hi hij hj => ?_, fun i j hi hij hj => ?_, fun i j hi hi2 hj hj2 => ?_⟩, fun i j hi hi2 hj hj2 => ?_⟩
  · rw [gA i hi (by omega), gA j (by omega) hj]; exact h.pre.left i j hi hij (by omega)
  · rw [gB i hi (by omega), gB j (by omega) hj]; exact h.pre.right _ _ (by omega) (by omega) (by omega)
  · rw [gA i hi hi2, gB j hj hj2]; exact h.pre.cross _ _ hi (by omega) (by omega) (by omega)
  · rw [gC i hi (by omega), gC j (by omega) hj]; exact h.pre.left _ _ (by omega) (by omega) (by omega)
  · rw [gD i hi (by omega), gD j (by omega) hj]; exact h.pre.right i j (by omega) hij hj
  · rw [gC i hi hi2, gD j hj hj2]; exact h.pre.cross _ _ (by omega) (by omega) (by omega) hj2
  · by_cases c1 : i < s
    · rw [gA i hi c1]
      by_cases c2 : j < e
      · rw [gC j hj c2]; exact sin_le h.pre.left hi (by omega) (by omega)
      · rw [gD j (by omega) hj2]; exact h.up i j hi c1 (by omega) hj2
    · rw [gB i (by omega) hi2]
      by_cases c2 : j < e
      · rw [gC j hj c2]; exact h.dn _ _ (by omega) (by omega) (by omega) (by omega)
      · rw [gD j (by omega) hj2]; exact sin_le h.pre.right (by omega) (by omega) hj2
/-- What a merge gives. -/
structure Merged (key : α → Int) (tg : α → Nat) (a b : Nat) (d d' : Array α) : Prop where
  perm : PermIn a b d d'
  sorted : SortedIn (ltT key tg) a b d'
theorem Pre.done {a m b : Nat} {d : Array α} (h : Pre key tg a m b d) (hd : ¬ (a < m ∧ m < b)) (h1 : a ≤ m) (h2 : m ≤ b) : Merged key tg a b d d := by
  refine ⟨permIn_refl _ _ _, ?_⟩
  by_cases c : a < m
  · obtain rfl : m = b := by omega
    exact h.left
  · obtain rfl : a = m := by omega
    exact h.right
structure Blk (key : α → Int) (tg : α → Nat) (lo hi : Nat) (d : Array α) : Prop where
  sorted : SortedIn (ltT key tg) lo hi d
  inr : ∀ x, lo ≤ x → x < hi → lo ≤ tg d[x]! ∧ tg d[x]! < hi
theorem Blk.keep {lo hi a b : Nat} {d d' : Array α} (h : Blk key tg lo hi d) (hP : PermIn a b d d') (ho : hi ≤ a ∨ b ≤ lo) : Blk key tg lo hi d' := by
  have g : ∀ x, lo ≤ x → x < hi → d'[x]! = d[x]! := fun x h1 h2 => hP.2.1 x (by omega)
  exact ⟨fun i j h1 h2 h3 => by rw [g i h1 (by omega), g j (by omega) h3]; exact h.sorted i j h1 h2 h3, fun x h1 h2 => by rw [g x h1 h2]; exact h.inr x h1 h2⟩
theorem Blk.pre {a m b : Nat} {d : Array α} (h1 : Blk key tg a m d) (h2 : Blk key tg m b d) : Pre key tg a m b d :=
  ⟨h1.sorted, h2.sorted, fun i j hi him hj hjb => ltK_T key tg (by have := h1.inr i hi him; have := h2.inr j hj hjb; omega)⟩
/-- Blocks of twenty, the first t of which are in order. -/
structure StA (key : α → Int) (tg : α → Nat) (t n : Nat) (d0 d : Array α) : Prop where
  perm : PermIn 0 n d0 d
  rest : ∀ x, 20 * t ≤ x → x < n → d[x]! = d0[x]!
  blk : ∀ q, q < t → Blk key tg (20 * q) (20 * q + 20) d
theorem StA.blkOf {t n b : Nat} {d0 d : Array α} (h : StA key tg t n d0 d) (hn : n = d0.size) (h0 : ∀ x, x < n → tg d0[x]! = x) (h1 : 20 * t ≤ b) (h2 : b ≤ n) : PermIn (20 * t) b d (insertionSort (ltK key) d (20 * t) b) ∧ Blk key tg (20 * t) b (insertionSort (ltK key) d (20 * t) b) := by
  have hs := h.perm.1
  have g : ∀ x, 20 * t ≤ x → x < b → tg d[x]! = x := fun x hx hxb => by rw [h.rest x hx (by omega), h0 x (by omega)]
  have hI := insertion_T key tg (20 * t) b d h1 (by omega) (fun x y hx hxy hy => by rw [g x hx (by omega), g y (by omega) hy]; exact hxy)
  exact ⟨hI.1, hI.2, fun x hx hxb => permIn_all d _ (20 * t) b (fun z => 20 * t ≤ tg z ∧ tg z < b) (by omega) hI.1 (fun y hy hyb => by rw [g y hy hyb]; omega) x hx hxb⟩
theorem StA.step {t n : Nat} {d0 d : Array α} (h : StA key tg t n d0 d) (hn : n = d0.size) (h0 : ∀ x, x < n → tg d0[x]! = x) (h2 : 20 * t + 20 ≤ n) : StA key tg (t + 1) n d0 (insertionSort (ltK key) d (20 * t) (20 * t + 20)) := by
  have hs := h.perm.1
  have hB := h.blkOf hn h0 (b := 20 * t + 20) (by omega) h2
  refine ⟨permIn_trans _ _ _ _ _ h.perm (permIn_mono _ _ (20 * t) (20 * t + 20) 0 n (by omega) h2 (by omega) hB.1), fun x hx hxn => ?_, fun q hq => ?_⟩
  · rw [hB.1.2.1 x (by omega)]; exact h.rest x (by omega) hxn
  · by_cases c : q = t
    · subst c; exact hB.2
    · exact (h.blk q (by omega)).keep hB.1 (.inl (by omega))
/-- All blocks of s in order, s = 20 or 40; at most fifty elements. -/
structure StB (key : α → Int) (tg : α → Nat) (n : Nat) (d0 d : Array α) : Prop where
  perm : PermIn 0 n d0 d
  one : Blk key tg 0 (min 20 n) d
  two : Blk key tg (min 20 n) (min 40 n) d
  three : Blk key tg (min 40 n) n d
structure StC (key : α → Int) (tg : α → Nat) (n : Nat) (d0 d : Array α) : Prop where
  perm : PermIn 0 n d0 d
  one : Blk key tg 0 (min 40 n) d
  two : Blk key tg (min 40 n) n d
structure StD (key : α → Int) (tg : α → Nat) (n : Nat) (d0 d : Array α) : Prop where
  perm : PermIn 0 n d0 d
  one : Blk key tg 0 n d
theorem StB.pre {n : Nat} {d0 d : Array α} (h : StB key tg n d0 d) : Pre key tg 0 (min 20 n) (min 40 n) d := h.one.pre h.two
theorem StB.end {n : Nat} {d0 d : Array α} (h : StB key tg n d0 d) (h1 : n ≤ 20) : StD key tg n d0 d := ⟨h.perm, by have := h.one; rwa [show min 20 n = n by omega] at this⟩
theorem StC.pre {n : Nat} {d0 d : Array α} (h : StC key tg n d0 d) : Pre key tg 0 (min 40 n) n d := h.one.pre h.two
theorem StC.end {n : Nat} {d0 d : Array α} (h : StC key tg n d0 d) (h1 : n ≤ 40) : StD key tg n d0 d := ⟨h.perm, by have := h.one; rwa [show min 40 n = n by omega] at this⟩
end Go.Proofs.Ytanokgpnmbbajaa.Stab
end
section
namespace Go.Proofs.Ytanokgpnmbbajaa.Stab
set_option linter.unusedVariables false
section
variable {β : Type} (key : β → Int)
variable {key}
/-- Behind all that are not greater. -/
def insB (key : β → Int) : List β → β → List β
  | [], x => [x]
  | y :: l, x => if key x < key y then x :: y :: l else y :: insB key l x
theorem length_insB (x : β) : ∀ (l : List β), (insB key l x).length = l.length + 1
  | [] => rfl
  | y :: l => by unfold insB; split <;> simp [length_insB x l]
end
end Go.Proofs.Ytanokgpnmbbajaa.Stab
end
