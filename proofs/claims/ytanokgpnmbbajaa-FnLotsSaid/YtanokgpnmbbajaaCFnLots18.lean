-- Gathered by this session's program wip/tool/shake.py out of its own texts and of what the kit's print and the session's patches of it wrote for this claim.
import Derived.Sort.LotA
section
namespace Go.Proofs.Ytanokgpnmbbajaa.Stab
open Go.Sort
variable {α : Type} [Inhabited α]
set_option linter.unusedVariables false
set_option linter.unusedSectionVars false
def rotI (a m b x : Nat) : Nat := if a ≤ x ∧ x < a + (b - m) then x + (m - a) else if a + (b - m) ≤ x ∧ x < b then x - (b - m) else x
def swI (a b n x : Nat) : Nat := if a ≤ x ∧ x < a + n then x - a + b else if b ≤ x ∧ x < b + n then x - b + a else x
structure Rot (a m b : Nat) (d d' : Array α) : Prop where
  perm : PermIn a b d d'
  get : ∀ x, x < d.size → d'[x]! = d[rotI a m b x]!
structure Swr (a b n : Nat) (d d' : Array α) : Prop where
  perm : PermIn a (b + n) d d'
  get : ∀ x, x < d.size → d'[x]! = d[swI a b n x]!
theorem Swr.start (a b : Nat) (d : Array α) (hb : b ≤ d.size) : Swr a b 0 d d := ⟨permIn_refl _ _ _, fun x hx => by
  have : swI a b 0 x = x := by unfold swI; rw [if_neg (by omega), if_neg (by omega)]
  rw [this]⟩
theorem Swr.step {a b n : Nat} {d d' : Array α} (h : Swr a b n d d') (hab : a + (n + 1) ≤ b) (hb : b + (n + 1) ≤ d.size) : Swr a b (n + 1) d (swp d' (a + n) (b + n)) := by
  have hs := h.perm.1
  refine ⟨permIn_trans _ _ _ _ _ (permIn_mono _ _ a (b + n) a (b + (n + 1)) (by omega) (by omega) (by omega) h.perm) (swp_permIn _ _ _ _ _ (by omega) (by omega) (by omega) (by omega) (by omega)), fun x hx => ?_⟩
  rw [swp_get d' (by omega) (by omega)]
  by_cases h1 : x = b + n
  · rw [if_pos h1, h.get _ (by omega)]
    congr 1
    unfold swI
    subst h1
    rw [if_neg (by omega), if_neg (by omega), if_neg (by omega), if_pos (by omega)]
    omega
  · rw [if_neg h1]
    by_cases h2 : x = a + n
    · rw [if_pos h2, h.get _ (by omega)]
      congr 1
      unfold swI
      subst h2
      rw [if_neg (by omega), if_neg (by omega), if_pos (by omega)]
      omega
    · rw [if_neg h2, h.get _ hx]
      congr 1
      unfold swI
      (repeat' split) <;> omega
theorem rotI_lt {a m b x n : Nat} (ham : a ≤ m) (hmb : m ≤ b) (hb : b ≤ n) (hx : x < n) : rotI a m b x < n := by
  unfold rotI; split
  · omega
  · split <;> omega
theorem rotI_more {m i j x : Nat} (hi : i ≤ m) (hij : j < i) : swI (m - i) m j (rotI (m - (i - j)) m (m + j) x) = rotI (m - i) m (m + j) x := by
  unfold rotI swI; (repeat' split) <;> omega
theorem rotI_less {m i j x : Nat} (hi : i ≤ m) (hij : i < j) : swI (m - i) (m + j - i) i (rotI (m - i) m (m + (j - i)) x) = rotI (m - i) m (m + j) x := by
  unfold rotI swI; (repeat' split) <;> omega
theorem rotI_same {m i x : Nat} (hi : i ≤ m) : swI (m - i) m i x = rotI (m - i) m (m + i) x := by
  unfold rotI swI; (repeat' split) <;> omega
/-- What stands on the way of the rotation by exchanges: [m - i, m) and [m, m + j) are still to be exchanged. -/
structure Rotting (a m b i j : Nat) (d d' : Array α) : Prop where
  perm : PermIn a b d d'
  hi : a ≤ m - i
  him : i ≤ m
  hj : m + j ≤ b
  i0 : 0 < i
  j0 : 0 < j
  get : ∀ x, x < d.size → d'[rotI (m - i) m (m + j) x]! = d[rotI a m b x]!
theorem Rotting.start {a m b : Nat} (d : Array α) (ham : a < m) (hmb : m < b) : Rotting a m b (m - a) (b - m) d d :=
  ⟨permIn_refl _ _ _, by omega, by omega, by omega, by omega, by omega, fun x hx => by rw [show m - (m - a) = a by omega, show m + (b - m) = b by omega]⟩
theorem Rotting.more {a m b i j : Nat} {d d1 d2 : Array α} (h : Rotting a m b i j d d1) (hij : j < i) (hb : b ≤ d.size) (hs : Swr (m - i) m j d1 d2) : Rotting a m b (i - j) j d d2 := by
  have h1 := h.perm.1; have := h.hi; have := h.him; have := h.hj; have := h.i0; have := h.j0
  refine ⟨permIn_trans _ _ _ _ _ h.perm (permIn_mono _ _ (m - i) (m + j) a b (by omega) (by omega) (by omega) hs.perm), by omega, by omega, by omega, by omega, by omega, fun x hx => ?_⟩
  rw [hs.get _ (by rw [h1]; exact rotI_lt (by omega) (by omega) (by omega) hx), rotI_more (by omega) hij, h.get x hx]
theorem Rotting.less {a m b i j : Nat} {d d1 d2 : Array α} (h : Rotting a m b i j d d1) (hij : i < j) (hb : b ≤ d.size) (hs : Swr (m - i) (m + j - i) i d1 d2) : Rotting a m b i (j - i) d d2 := by
  have h1 := h.perm.1; have := h.hi; have := h.him; have := h.hj; have := h.i0; have := h.j0
  refine ⟨permIn_trans _ _ _ _ _ h.perm (permIn_mono _ _ (m - i) (m + j - i + i) a b (by omega) (by omega) (by omega) hs.perm), by omega, by omega, by omega, by omega, by omega, fun x hx => ?_⟩
  rw [hs.get _ (by rw [h1]; exact rotI_lt (by omega) (by omega) (by omega) hx), rotI_less (by omega) hij, h.get x hx]
theorem Rotting.stop {a m b i : Nat} {d d1 d2 : Array α} (h : Rotting a m b i i d d1) (hb : b ≤ d.size) (hs : Swr (m - i) m i d1 d2) : Rot a m b d d2 := by
  have h1 := h.perm.1; have := h.hi; have := h.him; have := h.hj; have := h.i0; have := h.j0
  refine ⟨permIn_trans _ _ _ _ _ h.perm (permIn_mono _ _ (m - i) (m + i) a b (by omega) (by omega) (by omega) hs.perm), fun x hx => ?_⟩
  rw [hs.get _ (by rw [h1]; exact hx), rotI_same (by omega), h.get x hx]
/-- One element to the right, step by step. -/
theorem Rot.right0 (a : Nat) (d : Array α) : Rot a (a + 1) (a + 1) d d := ⟨permIn_refl _ _ _, fun x hx => by
  have : rotI a (a + 1) (a + 1) x = x := by unfold rotI; (repeat' split) <;> omega
  rw [this]⟩
theorem Rot.right {a k : Nat} {d d' : Array α} (h : Rot a (a + 1) (k + 1) d d') (hak : a ≤ k) (hk : k + 1 < d.size) : Rot a (a + 1) (k + 2) d (swp d' k (k + 1)) := by
  have hs := h.perm.1
  refine ⟨permIn_trans _ _ _ _ _ (permIn_mono _ _ a (k + 1) a (k + 2) (by omega) (by omega) (by omega) h.perm) (swp_permIn _ _ _ _ _ (by omega) (by omega) (by omega) (by omega) (by omega)), fun x hx => ?_⟩
  rw [swp_get d' (by omega) (by omega)]
  by_cases h1 : x = k + 1
  · rw [if_pos h1, h.get _ (by omega)]
    congr 1; subst h1; unfold rotI; (repeat' split) <;> omega
  · rw [if_neg h1]
    by_cases h2 : x = k
    · rw [if_pos h2, h.get _ (by omega)]
      congr 1; subst h2; unfold rotI; (repeat' split) <;> omega
    · rw [if_neg h2, h.get _ hx]
      congr 1; unfold rotI; (repeat' split) <;> omega
/-- One element to the left, step by step. -/
theorem Rot.left0 (m : Nat) (d : Array α) : Rot m m (m + 1) d d := ⟨permIn_refl _ _ _, fun x hx => by
  have : rotI m m (m + 1) x = x := by unfold rotI; (repeat' split) <;> omega
  rw [this]⟩
theorem Rot.left {k m : Nat} {d d' : Array α} (h : Rot (k + 1) m (m + 1) d d') (hkm : k + 1 ≤ m) (hm : m < d.size) : Rot k m (m + 1) d (swp d' (k + 1) k) := by
  have hs := h.perm.1
  refine ⟨permIn_trans _ _ _ _ _ (permIn_mono _ _ (k + 1) (m + 1) k (m + 1) (by omega) (by omega) (by omega) h.perm) (swp_permIn _ _ _ _ _ (by omega) (by omega) (by omega) (by omega) (by omega)), fun x hx => ?_⟩
  rw [swp_get d' (by omega) (by omega)]
  by_cases h1 : x = k
  · rw [if_pos h1, h.get _ (by omega)]
    congr 1; subst h1; unfold rotI; (repeat' split) <;> omega
  · rw [if_neg h1]
    by_cases h2 : x = k + 1
    · rw [if_pos h2, h.get _ (by omega)]
      congr 1; subst h2; unfold rotI; (repeat' split) <;> omega
    · rw [if_neg h2, h.get _ hx]
      congr 1; unfold rotI; (repeat' split) <;> omega
theorem Rot.none {s m e : Nat} {d : Array α} (h : ¬ (s < m ∧ m < e)) (hs : s ≤ m) (he : m ≤ e) : Rot s m e d d := ⟨permIn_refl _ _ _, fun x hx => by
  have : rotI s m e x = x := by unfold rotI; (repeat' split) <;> omega
  rw [this]⟩
def Mono (q : Nat → Bool) (lo hi : Nat) : Prop := ∀ x y, lo ≤ x → x ≤ y → y < hi → q y = true → q x = true
structure BS (q : Nat → Bool) (lo hi i j : Nat) : Prop where
  h1 : lo ≤ i
  h2 : i ≤ j
  h3 : j ≤ hi
  low : ∀ x, lo ≤ x → x < i → q x = true
  high : ∀ x, j ≤ x → x < hi → q x = false
theorem BS.start (q : Nat → Bool) {lo hi : Nat} (h : lo ≤ hi) : BS q lo hi lo hi := ⟨by omega, h, by omega, fun x _ _ => by omega, fun x _ _ => by omega⟩
theorem BS.up {q : Nat → Bool} {lo hi i j h : Nat} (hM : Mono q lo hi) (H : BS q lo hi i j) (h1 : i ≤ h) (h2 : h < j) (hq : q h = true) : BS q lo hi (h + 1) j :=
  have := H.h1; have := H.h3
  ⟨by omega, by omega, H.h3, fun x hx hl => hM x h hx (by omega) (by omega) hq, H.high⟩
theorem BS.down {q : Nat → Bool} {lo hi i j h : Nat} (hM : Mono q lo hi) (H : BS q lo hi i j) (h1 : i ≤ h) (h2 : h < j) (hq : q h = false) : BS q lo hi i h :=
  have := H.h1; have := H.h3
  ⟨H.h1, by omega, by omega, H.low, fun x hx hl => by
    cases hqx : q x with
    | false => rfl
    | true => rw [hM h x (by omega) hx hl hqx] at hq; cases hq⟩
variable (key : α → Int) (tg : α → Nat)
def cmpK (x y : α) : Int := if key x < key y then -1 else if key y < key x then 1 else 0
def ltK (x y : α) : Bool := decide (key x < key y)
def ltT (x y : α) : Bool := decide (key x < key y ∨ key x = key y ∧ tg x < tg y)
theorem cmpK_neg (x y : α) : decide (cmpK key x y < 0) = ltK key x y := by
  unfold cmpK ltK; by_cases h : key x < key y
  · rw [if_pos h]; simp [h]
  · rw [if_neg h]; split <;> simp [h]
theorem swoT : SWO (ltT key tg) := by
  constructor
  · intro x; simp [ltT]
  · intro x y z h1 h2; simp only [ltT, decide_eq_true_eq] at *; omega
  · intro x y z h1 h2; simp only [ltT, decide_eq_false_iff_not] at *; omega
theorem ltK_T {x y : α} (h : tg y < tg x) : ltK key x y = ltT key tg x y := by
  unfold ltK ltT; congr 1; rw [eq_iff_iff]; omega
theorem insInner_T (a : Nat) : ∀ (j : Nat) (d : Array α), j < d.size → (∀ x, a ≤ x → x < j → tg d[x]! < tg d[j]!) → insInner (ltK key) a j d = insInner (ltT key tg) a j d
  | 0, d, _, _ => rfl
  | j + 1, d, hj, h => by
    unfold insInner
    by_cases haj : a ≤ j
    · rw [ltK_T key tg (h j haj (by omega))]
      split
      · refine insInner_T a j _ (by rw [swp_size]; omega) (fun x hx hl => ?_)
        rw [swp_get d hj (by omega), swp_get d hj (by omega), if_neg (by omega), if_neg (by omega), if_pos rfl]
        exact h x hx (by omega)
      · rfl
    · simp [show ¬ (j + 1 > a) by omega]
theorem insInner_perm (lt : α → α → Bool) (a b : Nat) : ∀ (j : Nat) (d : Array α), a ≤ j → j < b → b ≤ d.size → PermIn a b d (insInner lt a j d)
  | 0, d, _, _, _ => permIn_refl _ _ _
  | j + 1, d, haj, hjb, hb => by
    unfold insInner
    split
    · rename_i hc
      simp only [Bool.and_eq_true, decide_eq_true_eq] at hc
      exact permIn_trans _ _ _ _ _ (swp_permIn d a b (j + 1) j haj (by omega) (by omega) (by omega) hb) (insInner_perm lt a b j _ (by omega) (by omega) (by rw [swp_size]; exact hb))
    · exact permIn_refl _ _ _
theorem insOuter_T (a b : Nat) : ∀ (n i : Nat) (d : Array α), b - i = n → a < i → b ≤ d.size → (∀ x y, a ≤ x → x < y → i ≤ y → y < b → tg d[x]! < tg d[y]!) → insOuter (ltK key) a b i d = insOuter (ltT key tg) a b i d
  | 0, i, d, hn, _, _, _ => by
    have e : ∀ lt : α → α → Bool, insOuter lt a b i d = d := fun lt => by rw [insOuter, if_neg (by omega)]
    rw [e, e]
  | n + 1, i, d, hn, hai, hb, h => by
    have hlt : i < b := by omega
    have e : ∀ lt : α → α → Bool, insOuter lt a b i d = insOuter lt a b (i + 1) (insInner lt a i d) := fun lt => by conv => lhs; rw [insOuter, if_pos hlt]
    rw [e, e, insInner_T key tg a i d (by omega) (fun x hx hl => h x i hx hl (Nat.le_refl _) hlt)]
    have hP := insInner_perm (ltT key tg) a (i + 1) i d (by omega) (by omega) (by omega)
    refine insOuter_T a b n (i + 1) _ (by omega) (by omega) (by rw [hP.1]; exact hb) (fun x y hx hxy hy hyb => ?_)
    rw [hP.2.1 y (by omega)]
    by_cases hxi : x < i + 1
    · exact permIn_all _ _ a (i + 1) (fun z => tg z < tg d[y]!) (by omega) hP (fun z hz hzi => h z y hz (by omega) (by omega) hyb) x hx hxi
    · rw [hP.2.1 x (by omega)]; exact h x y hx hxy (by omega) hyb
theorem insertion_T (a b : Nat) (d : Array α) (hab : a ≤ b) (hb : b ≤ d.size) (h : ∀ x y, a ≤ x → x < y → y < b → tg d[x]! < tg d[y]!) :
    PermIn a b d (insertionSort (ltK key) d a b) ∧ SortedIn (ltT key tg) a b (insertionSort (ltK key) d a b) := by
  have e : insertionSort (ltK key) d a b = insertionSort (ltT key tg) d a b := by
    unfold insertionSort; exact insOuter_T key tg a b _ _ d rfl (by omega) hb (fun x y hx hxy _ hy => h x y hx hxy hy)
  rw [e]; exact insertionSort_holds (swoT key tg) d a b hab hb
structure Pre (a m b : Nat) (d : Array α) : Prop where
  left : SortedIn (ltT key tg) a m d
  right : SortedIn (ltT key tg) m b d
  cross : ∀ i j, a ≤ i → i < m → m ≤ j → j < b → ltK key d[j]! d[i]! = ltT key tg d[j]! d[i]!
variable {key tg}
theorem sin_le {a b : Nat} {d : Array α} (h : SortedIn (ltT key tg) a b d) {x y : Nat} (h1 : a ≤ x) (h2 : x ≤ y) (h3 : y < b) : ltT key tg d[y]! d[x]! = false := by
  rcases Nat.lt_or_ge x y with h4 | h4
  · exact h x y h1 h4 h3
  · obtain rfl : x = y := by omega
    exact (swoT key tg).irrefl _
/-- The searches' tests go one way only. -/
theorem Pre.mono1 {a b : Nat} {d : Array α} (h : Pre key tg a (a + 1) b d) : Mono (fun x => ltK key d[x]! d[a]!) (a + 1) b := fun x y h1 h2 h3 hy => by
  replace hy : ltK key d[y]! d[a]! = true := hy
  show ltK key d[x]! d[a]! = true
  rw [h.cross a y (by omega) (by omega) (by omega) h3] at hy
  rw [h.cross a x (by omega) (by omega) (by omega) (by omega)]
  cases hx : ltT key tg d[x]! d[a]! with
  | true => rfl
  | false => rw [(swoT key tg).ntrans _ _ _ (sin_le h.right h1 h2 h3) hx] at hy; cases hy
theorem Pre.mono2 {a m : Nat} {d : Array α} (h : Pre key tg a m (m + 1) d) : Mono (fun x => !ltK key d[m]! d[x]!) a m := fun x y h1 h2 h3 hy => by
  replace hy : (!ltK key d[m]! d[y]!) = true := hy
  show (!ltK key d[m]! d[x]!) = true
  rw [Bool.not_eq_true'] at *
  rw [h.cross y m (by omega) h3 (by omega) (by omega)] at hy
  rw [h.cross x m h1 (by omega) (by omega) (by omega)]
  exact (swoT key tg).ntrans _ _ _ hy (sin_le h.left h1 h2 h3)
theorem Pre.mono3 {a m b p s0 r0 : Nat} {d : Array α} (h : Pre key tg a m b d) (h1 : a ≤ s0) (h2 : r0 ≤ m) (h3 : m + r0 ≤ p + 1) (h4 : p < b + s0) (h5 : r0 ≤ p + 1) : Mono (fun c => !ltK key d[p - c]! d[c]!) s0 r0 := fun x y hx hxy hy hq => by
  replace hq : (!ltK key d[p - y]! d[y]!) = true := hq
  show (!ltK key d[p - x]! d[x]!) = true
  rw [Bool.not_eq_true'] at *
  rw [h.cross y (p - y) (by omega) (by omega) (by omega) (by omega)] at hq
  rw [h.cross x (p - x) (by omega) (by omega) (by omega) (by omega)]
  have e1 : ltT key tg d[p - x]! d[p - y]! = false := sin_le h.right (by omega) (by omega) (by omega)
  have e2 : ltT key tg d[y]! d[x]! = false := sin_le h.left (by omega) hxy (by omega)
  exact (swoT key tg).ntrans _ _ _ ((swoT key tg).ntrans _ _ _ e1 hq) e2
/-- Where the two rows are cut: nothing behind s on the left is behind e on the right, and what stands between goes ahead. -/
structure Cut (key : α → Int) (tg : α → Nat) (a m b s e : Nat) (d : Array α) : Prop where
  pre : Pre key tg a m b d
  has : a ≤ s
  hsm : s ≤ m
  hme : m ≤ e
  heb : e ≤ b
  up : ∀ i j, a ≤ i → i < s → e ≤ j → j < b → ltT key tg d[j]! d[i]! = false
  dn : ∀ i j, s ≤ i → i < m → m ≤ j → j < e → ltT key tg d[i]! d[j]! = false
/-- Behind the rotation: two smaller tasks, all of the first ahead of all of the second. -/
structure Split (key : α → Int) (tg : α → Nat) (a s mid e b : Nat) (d : Array α) : Prop where
  one : Pre key tg a s mid d
  two : Pre key tg mid e b d
  le : ∀ i j, a ≤ i → i < mid → mid ≤ j → j < b → ltT key tg d[j]! d[i]! = false
theorem rotI_a {s m e x : Nat} (h : x < s) : rotI s m e x = x := by unfold rotI; (repeat' split) <;> omega
theorem rotI_b {s m e x : Nat} (h1 : s ≤ x) (h2 : x < s + (e - m)) : rotI s m e x = x + (m - s) := by unfold rotI; (repeat' split) <;> omega
theorem rotI_c {s m e x : Nat} (h1 : s + (e - m) ≤ x) (h2 : x < e) : rotI s m e x = x - (e - m) := by unfold rotI; (repeat' split) <;> omega
theorem rotI_d {s m e x : Nat} (hs : s ≤ m) (hm : m ≤ e) (h1 : e ≤ x) : rotI s m e x = x := by unfold rotI; (repeat' split) <;> omega
theorem Cut.split {a m b s e : Nat} {d d' : Array α} (h : Cut key tg a m b s e d) (hb : b ≤ d.size) (hr : Rot s m e d d') : Split key tg a s (s + (e - m)) e b d' := by
  have h1 := h.has; have h2 := h.hsm; have h3 := h.hme; have h4 := h.heb
  have gA : ∀ x, a ≤ x → x < s → d'[x]! = d[x]! := fun x _ hx => by rw [hr.get x (by omega), rotI_a hx]
  have gB : ∀ x, s ≤ x → x < s + (e - m) → d'[x]! = d[x + (m - s)]! := fun x hx hy => by rw [hr.get x (by omega), rotI_b hx hy]
  have gC : ∀ x, s + (e - m) ≤ x → x < e → d'[x]! = d[x - (e - m)]! := fun x hx hy => by rw [hr.get x (by omega), rotI_c hx hy]
  have gD : ∀ x, e ≤ x → x < b → d'[x]! = d[x]! := fun x hx hy => by rw [hr.get x (by omega), rotI_d h2 h3 hx]
  have asym : ∀ {x y : α}, ltT key tg x y = true → ltT key tg y x = false := fun h => (swoT key tg).asymmA h
  refine ⟨⟨fun i j hi hij hj => ?_, fun i j hi hij hj => ?_, fun i j hi hi2 hj hj2 => ?_⟩, ⟨fun i j hi hij hj => ?_, fun i j hi hij hj => ?_, fun i j hi hi2 hj hj2 => ?_⟩, fun i j hi hi2 hj hj2 => ?_⟩
  · rw [gA i hi (by omega), gA j (by omega) hj]; exact h.pre.left i j hi hij (by omega)
  · rw [gB i hi (by omega), gB j (by omega) hj]; exact h.pre.right _ _ (by omega) (by omega) (by omega)
  · rw [gA i hi hi2, gB j hj hj2]; exact h.pre.cross _ _ hi (by omega) (by omega) (by omega)
  · rw [gC i hi (by omega), gC j (by omega) hj]; exact h.pre.left _ _ (by omega) (by omega) (by omega)
  · rw [gD i hi (by omega), gD j (by omega) hj]; exact h.pre.right i j (by omega) hij hj
  · rw [gC i hi hi2, gD j hj hj2]; exact h.pre.cross _ _ (by omega) (by omega) (by omega) hj2
  · by_cases c1 : i < s
    · rw [gA i hi c1]
      by_cases c2 : j < e
      · rw [gC j hj c2]; exact sin_le h.pre.left hi (by omega) (by omega)
      · rw [gD j (by omega) hj2]; exact h.up i j hi c1 (by omega) hj2
    · rw [gB i (by omega) hi2]
      by_cases c2 : j < e
      · rw [gC j hj c2]; exact h.dn _ _ (by omega) (by omega) (by omega) (by omega)
      · rw [gD j (by omega) hj2]; exact sin_le h.pre.right (by omega) (by omega) hj2
/-- What a merge gives. -/
structure Merged (key : α → Int) (tg : α → Nat) (a b : Nat) (d d' : Array α) : Prop where
  perm : PermIn a b d d'
  sorted : SortedIn (ltT key tg) a b d'
theorem Pre.done {a m b : Nat} {d : Array α} (h : Pre key tg a m b d) (hd : ¬ (a < m ∧ m < b)) (h1 : a ≤ m) (h2 : m ≤ b) : Merged key tg a b d d := by
  refine ⟨permIn_refl _ _ _, ?_⟩
  by_cases c : a < m
  · obtain rfl : m = b := by omega
    exact h.left
  · obtain rfl : a = m := by omega
    exact h.right
theorem pre_perm {a m b lo hi : Nat} {d d' : Array α} (h : Pre key tg a m b d) (hP : PermIn lo hi d d') (ho : hi ≤ a ∨ b ≤ lo) (h1 : a ≤ m) (h2 : m ≤ b) : Pre key tg a m b d' := by
  have g : ∀ x, a ≤ x → x < b → d'[x]! = d[x]! := fun x h1 h2 => hP.2.1 x (by omega)
  exact ⟨fun i j h1 h2 h3 => by rw [g i h1 (by omega), g j (by omega) (by omega)]; exact h.left i j h1 h2 h3,
    fun i j h1 h2 h3 => by rw [g i (by omega) (by omega), g j (by omega) h3]; exact h.right i j h1 h2 h3,
    fun i j h1 h2 h3 h4 => by rw [g i h1 (by omega), g j (by omega) h4]; exact h.cross i j h1 h2 h3 h4⟩
/-- The two halves, each merged: the whole. -/
theorem Split.join {a s mid e b : Nat} {d d1 d2 : Array α} (h : Split key tg a s mid e b d) (h1 : a ≤ mid) (h2 : mid ≤ b) (hb : b ≤ d.size) (m1 : Merged key tg a mid d d1) (m2 : Merged key tg mid b d1 d2) : Merged key tg a b d d2 := by
  have s1 := m1.perm.1
  refine ⟨permIn_trans _ _ _ _ _ (permIn_mono _ _ a mid a b (by omega) h2 hb m1.perm) (permIn_mono _ _ mid b a b h1 (by omega) (by omega) m2.perm), fun i j hi hij hj => ?_⟩
  by_cases c1 : j < mid
  · rw [m2.perm.2.1 i (by omega), m2.perm.2.1 j (by omega)]; exact m1.sorted i j hi hij c1
  · by_cases c2 : mid ≤ i
    · exact m2.sorted i j c2 hij hj
    · rw [m2.perm.2.1 i (by omega)]
      refine permIn_all d1 d2 mid b (fun z => ltT key tg z d1[i]! = false) (by omega) m2.perm (fun y hy hyb => ?_) j (by omega) hj
      rw [m1.perm.2.1 y (by omega)]
      exact permIn_all d d1 a mid (fun z => ltT key tg d[y]! z = false) (by omega) m1.perm (fun x hx hxm => h.le x y hx hxm hy hyb) i hi (by omega)
/-- The first half merged: the second is still to be merged. -/
theorem Split.two' {a s mid e b : Nat} {d d1 : Array α} (h : Split key tg a s mid e b d) (m1 : Merged key tg a mid d d1) (h1 : mid ≤ e) (h2 : e ≤ b) : Pre key tg mid e b d1 := pre_perm h.two m1.perm (.inl (Nat.le_refl _)) h1 h2
theorem Merged.of_rot {a b s m e : Nat} {d d1 d2 : Array α} (hr : Rot s m e d d1) (hm : Merged key tg a b d1 d2) (h1 : a ≤ s) (h2 : e ≤ b) (hb : b ≤ d.size) : Merged key tg a b d d2 :=
  ⟨permIn_trans _ _ _ _ _ (permIn_mono _ _ s e a b h1 h2 hb hr.perm) hm.perm, hm.sorted⟩
theorem cut1 {a b i : Nat} {d : Array α} (h : Pre key tg a (a + 1) b d) (hB : BS (fun x => ltK key d[x]! d[a]!) (a + 1) b i i) : Cut key tg a (a + 1) b a i d :=
  have h1 := hB.h1; have h3 := hB.h3
  ⟨h, by omega, by omega, h1, h3, fun x y hx hy => by omega, fun x y hx hx2 hy hy2 => by
    have hxa : x = a := by omega
    rw [hxa]
    have this : ltK key d[y]! d[a]! = true := hB.low y hy hy2
    rw [h.cross a y (by omega) (by omega) hy (by omega)] at this
    exact (swoT key tg).asymmA this⟩
theorem fin1 {a b i : Nat} {d d' : Array α} (h : Pre key tg a (a + 1) b d) (hB : BS (fun x => ltK key d[x]! d[a]!) (a + 1) b i i) (hb : b ≤ d.size) (hr : Rot a (a + 1) i d d') : Merged key tg a b d d' := by
  have h1 := hB.h1; have h3 := hB.h3
  have hS := (cut1 h hB).split hb hr
  have hs := hr.perm.1
  have m1 : Merged key tg a (a + (i - (a + 1))) d' d' := hS.one.done (by omega) (by omega) (by omega)
  have m2 : Merged key tg (a + (i - (a + 1))) b d' d' := by
    refine ⟨permIn_refl _ _ _, fun x y hx hxy hy => ?_⟩
    by_cases c : x < i
    · rw [hr.get x (by omega), rotI_c hx c, hr.get y (by omega), rotI_d (by omega) (by omega) (by omega), show x - (i - (a + 1)) = a by omega]
      have this : ltK key d[y]! d[a]! = false := hB.high y (by omega) hy
      rw [h.cross a y (by omega) (by omega) (by omega) hy] at this
      exact this
    · rw [hr.get x (by omega), rotI_d (by omega) (by omega) (by omega), hr.get y (by omega), rotI_d (by omega) (by omega) (by omega)]
      exact h.right x y (by omega) hxy hy
  exact (hS.join (by omega) (by omega) (by omega) m1 m2).of_rot hr (by omega) (by omega) hb
theorem fin2 {a m i : Nat} {d d' : Array α} (h : Pre key tg a m (m + 1) d) (hB : BS (fun x => !ltK key d[m]! d[x]!) a m i i) (hb : m + 1 ≤ d.size) (hr : Rot i m (m + 1) d d') : Merged key tg a (m + 1) d d' := by
  have h1 := hB.h1; have h3 := hB.h3
  have hs := hr.perm.1
  have hC : Cut key tg a m (m + 1) i (m + 1) d := ⟨h, h1, h3, by omega, by omega, fun x y _ _ hy hy2 => by omega, fun x y hx hx2 hy hy2 => by
    obtain rfl : y = m := by omega
    have this : (!ltK key d[y]! d[x]!) = false := hB.high x hx hx2
    rw [Bool.not_eq_false'] at this
    rw [h.cross x y (by omega) hx2 (by omega) (by omega)] at this
    exact (swoT key tg).asymmA this⟩
  have hS := hC.split hb hr
  rw [show i + (m + 1 - m) = i + 1 by omega] at hS
  have m1 : Merged key tg a (i + 1) d' d' := by
    refine ⟨permIn_refl _ _ _, fun x y hx hxy hy => ?_⟩
    by_cases c : y < i
    · rw [hr.get x (by omega), rotI_a (by omega), hr.get y (by omega), rotI_a c]; exact h.left x y hx hxy (by omega)
    · obtain rfl : y = i := by omega
      rw [hr.get x (by omega), rotI_a (by omega), hr.get y (by omega), rotI_b (by omega) (by omega), show y + (m - y) = m by omega]
      have this : (!ltK key d[m]! d[x]!) = true := hB.low x hx hxy
      rw [Bool.not_eq_true'] at this
      rw [h.cross x m (by omega) (by omega) (by omega) (by omega)] at this
      exact this
  have m2 : Merged key tg (i + 1) (m + 1) d' d' := hS.two.done (by omega) (by omega) (by omega)
  exact (hS.join (by omega) (by omega) (by omega) m1 m2).of_rot hr (by omega) (by omega) hb
theorem cut3 {a m b n s s0 r0 : Nat} {d : Array α} (h : Pre key tg a m b d) (hB : BS (fun c => !ltK key d[n - 1 - c]! d[c]!) s0 r0 s s) (ha : a ≤ s0) (hr : r0 ≤ m) (hn : m + r0 ≤ n) (hb : n ≤ b + s0)
    (hs0 : s0 = a ∨ n - s0 = b) (hr0 : r0 = m ∨ n - r0 = m) (h0 : s0 ≤ n) : Cut key tg a m b s (n - s) d := by
  have h1 := hB.h1; have h2 := hB.h2; have h3 := hB.h3
  refine ⟨h, by omega, by omega, by omega, by omega, fun i j hi his hj hjb => ?_, fun i j hi him hj hje => ?_⟩
  · have hs : s0 < s := by omega
    have this : (!ltK key d[n - 1 - (s - 1)]! d[s - 1]!) = true := hB.low (s - 1) (by omega) (by omega)
    rw [Bool.not_eq_true'] at this
    rw [h.cross (s - 1) (n - 1 - (s - 1)) (by omega) (by omega) (by omega) (by omega)] at this
    have e1 : ltT key tg d[s - 1]! d[i]! = false := sin_le h.left hi (by omega) (by omega)
    have e2 : ltT key tg d[j]! d[n - 1 - (s - 1)]! = false := sin_le h.right (by omega) (by omega) hjb
    exact (swoT key tg).ntrans _ _ _ ((swoT key tg).ntrans _ _ _ e2 this) e1
  · have hs : s < r0 := by omega
    have this : (!ltK key d[n - 1 - s]! d[s]!) = false := hB.high s (by omega) hs
    rw [Bool.not_eq_false'] at this
    rw [h.cross s (n - 1 - s) (by omega) (by omega) (by omega) (by omega)] at this
    have t1 := (swoT key tg).asymmA this
    have e1 : ltT key tg d[i]! d[s]! = false := sin_le h.left (by omega) hi him
    have e2 : ltT key tg d[n - 1 - s]! d[j]! = false := sin_le h.right hj (by omega) (by omega)
    exact (swoT key tg).ntrans _ _ _ ((swoT key tg).ntrans _ _ _ e1 t1) e2
structure Blk (key : α → Int) (tg : α → Nat) (lo hi : Nat) (d : Array α) : Prop where
  sorted : SortedIn (ltT key tg) lo hi d
  inr : ∀ x, lo ≤ x → x < hi → lo ≤ tg d[x]! ∧ tg d[x]! < hi
theorem Blk.empty {lo : Nat} {d : Array α} : Blk key tg lo lo d := ⟨fun i j _ _ _ => by omega, fun x _ _ => by omega⟩
theorem Blk.keep {lo hi a b : Nat} {d d' : Array α} (h : Blk key tg lo hi d) (hP : PermIn a b d d') (ho : hi ≤ a ∨ b ≤ lo) : Blk key tg lo hi d' := by
  have g : ∀ x, lo ≤ x → x < hi → d'[x]! = d[x]! := fun x h1 h2 => hP.2.1 x (by omega)
  exact ⟨fun i j h1 h2 h3 => by rw [g i h1 (by omega), g j (by omega) h3]; exact h.sorted i j h1 h2 h3, fun x h1 h2 => by rw [g x h1 h2]; exact h.inr x h1 h2⟩
theorem Blk.pre {a m b : Nat} {d : Array α} (h1 : Blk key tg a m d) (h2 : Blk key tg m b d) : Pre key tg a m b d :=
  ⟨h1.sorted, h2.sorted, fun i j hi him hj hjb => ltK_T key tg (by have := h1.inr i hi him; have := h2.inr j hj hjb; omega)⟩
theorem Blk.join {a m b : Nat} {d d' : Array α} (h1 : Blk key tg a m d) (h2 : Blk key tg m b d) (ham : a ≤ m) (hmb : m ≤ b) (hb : b ≤ d.size) (hm : Merged key tg a b d d') : Blk key tg a b d' :=
  ⟨hm.sorted, fun x hx hxb => permIn_all d d' a b (fun z => a ≤ tg z ∧ tg z < b) hb hm.perm (fun y hy hyb => by
    by_cases c : y < m
    · have := h1.inr y hy c; omega
    · have := h2.inr y (by omega) hyb; omega) x hx hxb⟩
/-- Blocks of twenty, the first t of which are in order. -/
structure StA (key : α → Int) (tg : α → Nat) (t n : Nat) (d0 d : Array α) : Prop where
  perm : PermIn 0 n d0 d
  rest : ∀ x, 20 * t ≤ x → x < n → d[x]! = d0[x]!
  blk : ∀ q, q < t → Blk key tg (20 * q) (20 * q + 20) d
theorem StA.start (n : Nat) (d0 : Array α) : StA key tg 0 n d0 d0 := ⟨permIn_refl _ _ _, fun _ _ _ => rfl, fun q hq => by omega⟩
theorem StA.blkOf {t n b : Nat} {d0 d : Array α} (h : StA key tg t n d0 d) (hn : n = d0.size) (h0 : ∀ x, x < n → tg d0[x]! = x) (h1 : 20 * t ≤ b) (h2 : b ≤ n) : PermIn (20 * t) b d (insertionSort (ltK key) d (20 * t) b) ∧ Blk key tg (20 * t) b (insertionSort (ltK key) d (20 * t) b) := by
  have hs := h.perm.1
  have g : ∀ x, 20 * t ≤ x → x < b → tg d[x]! = x := fun x hx hxb => by rw [h.rest x hx (by omega), h0 x (by omega)]
  have hI := insertion_T key tg (20 * t) b d h1 (by omega) (fun x y hx hxy hy => by rw [g x hx (by omega), g y (by omega) hy]; exact hxy)
  exact ⟨hI.1, hI.2, fun x hx hxb => permIn_all d _ (20 * t) b (fun z => 20 * t ≤ tg z ∧ tg z < b) (by omega) hI.1 (fun y hy hyb => by rw [g y hy hyb]; omega) x hx hxb⟩
theorem StA.step {t n : Nat} {d0 d : Array α} (h : StA key tg t n d0 d) (hn : n = d0.size) (h0 : ∀ x, x < n → tg d0[x]! = x) (h2 : 20 * t + 20 ≤ n) : StA key tg (t + 1) n d0 (insertionSort (ltK key) d (20 * t) (20 * t + 20)) := by
  have hs := h.perm.1
  have hB := h.blkOf hn h0 (b := 20 * t + 20) (by omega) h2
  refine ⟨permIn_trans _ _ _ _ _ h.perm (permIn_mono _ _ (20 * t) (20 * t + 20) 0 n (by omega) h2 (by omega) hB.1), fun x hx hxn => ?_, fun q hq => ?_⟩
  · rw [hB.1.2.1 x (by omega)]; exact h.rest x (by omega) hxn
  · by_cases c : q = t
    · subst c; exact hB.2
    · exact (h.blk q (by omega)).keep hB.1 (.inl (by omega))
/-- All blocks of s in order, s = 20 or 40; at most fifty elements. -/
structure StB (key : α → Int) (tg : α → Nat) (n : Nat) (d0 d : Array α) : Prop where
  perm : PermIn 0 n d0 d
  one : Blk key tg 0 (min 20 n) d
  two : Blk key tg (min 20 n) (min 40 n) d
  three : Blk key tg (min 40 n) n d
structure StC (key : α → Int) (tg : α → Nat) (n : Nat) (d0 d : Array α) : Prop where
  perm : PermIn 0 n d0 d
  one : Blk key tg 0 (min 40 n) d
  two : Blk key tg (min 40 n) n d
structure StD (key : α → Int) (tg : α → Nat) (n : Nat) (d0 d : Array α) : Prop where
  perm : PermIn 0 n d0 d
  one : Blk key tg 0 n d
theorem StA.last {t n : Nat} {d0 d : Array α} (h : StA key tg t n d0 d) (hn : n = d0.size) (h0 : ∀ x, x < n → tg d0[x]! = x) (h1 : 20 * t ≤ n) (h2 : n < 20 * t + 20) (h3 : n < 60) : StB key tg n d0 (insertionSort (ltK key) d (20 * t) n) := by
  have hs := h.perm.1
  have hB := h.blkOf hn h0 (b := n) h1 (Nat.le_refl _)
  have hP := permIn_trans _ _ _ _ _ h.perm (permIn_mono _ _ (20 * t) n 0 n (by omega) (Nat.le_refl _) (by omega) hB.1)
  have hk : ∀ q, q < t → Blk key tg (20 * q) (20 * q + 20) (insertionSort (ltK key) d (20 * t) n) := fun q hq => (h.blk q hq).keep hB.1 (.inl (by omega))
  have hE : ∀ q, n ≤ q → min q n = n := fun q hq => by omega
  have hL : ∀ q, q ≤ n → min q n = q := fun q hq => by omega
  obtain rfl | rfl | rfl : t = 0 ∨ t = 1 ∨ t = 2 := by omega
  · exact ⟨hP, by rw [hE 20 (by omega)]; exact hB.2, by rw [hE 20 (by omega), hE 40 (by omega)]; exact Blk.empty, by rw [hE 40 (by omega)]; exact Blk.empty⟩
  · exact ⟨hP, by rw [hL 20 (by omega)]; exact hk 0 (by omega), by rw [hL 20 (by omega), hE 40 (by omega)]; exact hB.2, by rw [hE 40 (by omega)]; exact Blk.empty⟩
  · exact ⟨hP, by rw [hL 20 (by omega)]; exact hk 0 (by omega), by rw [hL 20 (by omega), hL 40 (by omega)]; exact hk 1 (by omega), by rw [hL 40 (by omega)]; exact hB.2⟩
theorem StB.pre {n : Nat} {d0 d : Array α} (h : StB key tg n d0 d) : Pre key tg 0 (min 20 n) (min 40 n) d := h.one.pre h.two
theorem StB.next {n : Nat} {d0 d d' : Array α} (h : StB key tg n d0 d) (hn : n = d0.size) (hm : Merged key tg 0 (min 40 n) d d') : StC key tg n d0 d' := by
  have hs := h.perm.1
  exact ⟨permIn_trans _ _ _ _ _ h.perm (permIn_mono _ _ 0 (min 40 n) 0 n (by omega) (by omega) (by omega) hm.perm), h.one.join h.two (by omega) (by omega) (by omega) hm, h.three.keep hm.perm (.inr (Nat.le_refl _))⟩
theorem StB.end {n : Nat} {d0 d : Array α} (h : StB key tg n d0 d) (h1 : n ≤ 20) : StD key tg n d0 d := ⟨h.perm, by have := h.one; rwa [show min 20 n = n by omega] at this⟩
theorem StC.pre {n : Nat} {d0 d : Array α} (h : StC key tg n d0 d) : Pre key tg 0 (min 40 n) n d := h.one.pre h.two
theorem StC.next {n : Nat} {d0 d d' : Array α} (h : StC key tg n d0 d) (hn : n = d0.size) (hm : Merged key tg 0 n d d') : StD key tg n d0 d' := by
  have hs := h.perm.1
  exact ⟨permIn_trans _ _ _ _ _ h.perm hm.perm, h.one.join h.two (by omega) (by omega) (by omega) hm⟩
theorem StC.end {n : Nat} {d0 d : Array α} (h : StC key tg n d0 d) (h1 : n ≤ 40) : StD key tg n d0 d := ⟨h.perm, by have := h.one; rwa [show min 40 n = n by omega] at this⟩
/-- The places' tags: every element with its place. -/
def tagged {β : Type} (l : List β) : Array (β × Nat) := l.zipIdx.toArray
theorem tagged_size {β : Type} (l : List β) : (tagged l).size = l.length := by simp [tagged]
theorem tagged_get {β : Type} [Inhabited β] (l : List β) (x : Nat) (h : x < l.length) : (tagged l)[x]! = (l[x]!, x) := by
  rw [getElem!_pos (tagged l) x (by rw [tagged_size]; exact h), getElem!_pos l x h]
  simp [tagged]
def byKey {β : Type} (key : β → Int) (x y : β) : Bool := decide (key x ≤ key y)
theorem stable_list {β : Type} [Inhabited β] (key : β → Int) (l : List β) (d' : Array (β × Nat)) (h : StD (fun p : β × Nat => key p.1) (fun p => p.2) l.length (tagged l) d') :
    d'.toList.map (fun p => p.1) = l.mergeSort (byKey key) := by
  rw [← List.mergeSort_zipIdx]
  congr 1
  obtain ⟨hsz, _, hperm⟩ := h.perm
  have hlen : d'.size = l.length := by rw [hsz, tagged_size]
  rw [show d'.extract 0 l.length = d' by rw [← hlen]; exact Array.extract_size, show (tagged l).extract 0 l.length = tagged l by rw [← tagged_size l]; exact Array.extract_size] at hperm
  have hp : d'.toList.Perm l.zipIdx := by simpa [tagged] using hperm
  refine List.Perm.eq_of_pairwise (le := fun x y => List.zipIdxLE (byKey key) x y = true) ?_ ?_ ?_ (hp.trans (List.mergeSort_perm _ _).symm)
  · rintro ⟨a, i⟩ ⟨b, j⟩ ha hb h1 h2
    have ha' := hp.mem_iff.1 ha
    have hb' := List.mem_mergeSort.1 hb
    rw [List.mk_mem_zipIdx_iff_getElem?] at ha' hb'
    have hij : i = j := by
      simp only [List.zipIdxLE, byKey, decide_eq_true_eq] at h1 h2
      by_cases c1 : key a ≤ key b
      · by_cases c2 : key b ≤ key a
        · rw [if_pos c1, if_pos c2, decide_eq_true_eq] at h1
          rw [if_pos c2, if_pos c1, decide_eq_true_eq] at h2
          omega
        · rw [if_neg c2] at h2; cases h2
      · rw [if_neg c1] at h1; cases h1
    subst hij
    rw [ha'] at hb'
    injection hb' with e
    rw [e]
  · rw [List.pairwise_iff_getElem]
    intro i j hi hj hij
    have hi' : i < d'.size := by simpa using hi
    have hj' : j < d'.size := by simpa using hj
    have := h.one.sorted i j (Nat.zero_le _) hij (by omega)
    rw [getElem!_pos d' j hj', getElem!_pos d' i hi'] at this
    simp only [ltT, decide_eq_false_iff_not] at this
    simp only [Array.getElem_toList, List.zipIdxLE, byKey, decide_eq_true_eq]
    split
    · split
      · simp only [decide_eq_true_eq]; omega
      · rfl
    · omega
  · exact List.pairwise_mergeSort (List.zipIdxLE_trans (fun a b c h1 h2 => by simp only [byKey, decide_eq_true_eq] at *; omega)) (List.zipIdxLE_total (fun a b => by simp only [byKey, Bool.or_eq_true, decide_eq_true_eq]; omega)) _
end Go.Proofs.Ytanokgpnmbbajaa.Stab
end
