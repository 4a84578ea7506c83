import Derived.Test.YtokpepaoneiepaaGreatDoorCFnSides33
set_option linter.unusedVariables false
set_option linter.unusedSimpArgs false
section
namespace Go.Proofs.YtokpepaoneiepaaGreatDoor.PL
open Go.RowKit Go.Proofs.YtokpepaoneiepaaGreatDoorW.PrintWords Go.Proofs.YtokpepaoneiepaaGreatDoorB
def Src (c : List Int) (at_ seed : Int) : Prop := (∀ y ∈ c, 0 ≤ y ∧ y ≤ 255) ∧ c.length ≤ 1048576 ∧ 0 ≤ at_ ∧ at_ ≤ (c.length : Int) ∧ 0 ≤ seed ∧ seed < 2147483647
theorem tmod_pos {a n : Int} (h : 0 ≤ a) (hn : 0 < n) : 0 ≤ Int.tmod a n ∧ Int.tmod a n < n := ⟨Int.tmod_nonneg n h, Int.tmod_lt_of_pos a hn⟩
theorem byte_at {c : List Int} (h : ∀ y ∈ c, 0 ≤ y ∧ y ≤ 255) (i : Int) : 0 ≤ rd c i ∧ rd c i ≤ 255 := by
 unfold rd
 by_cases hi : i.toNat < c.length
 ·exact h _ (getD_mem c 0 _ hi)
 ·have e : c.getD i.toNat 0 = 0 := by simp [List.getD, List.getElem?_eq_none (show c.length ≤ i.toNat by omega)]
  rw [e]; omega
theorem spec_l01From_ev {c : List Int} (hc : ∀ y ∈ c, 0 ≤ y ∧ y ≤ 255) (hl : c.length ≤ 1048576) : ∃ seed, Ev (fun k => spec_l01From.f k c) (c, 0, seed) ∧ Src c 0 seed := by
  have key : ∀ d i : Nat, i + d = c.length → ∀ seed : Int, 0 ≤ seed → seed < 2147483647 → ∃ s, Ev (fun k => spec_l01From.l0 k c (i : Int) c 0 seed) (c, 0, s) ∧ 0 ≤ s ∧ s < 2147483647 := by
    intro d
    induction d with
    | zero =>
      intro i hi seed h0 h1
      refine ⟨seed, Ev.succ ?_, h0, h1⟩
      simp only [spec_l01From.l0]
      exact Ev.neg (by omega) (Ev.eq rfl)
    | succ d ih =>
      intro i hi seed h0 h1
      have hb := byte_at hc (i : Int)
      have e1 : wrap64 ((i : Int) + 1) = ((i + 1 : Nat) : Int) := by rw [w64 (by omega) (by omega)]; omega
      have e2 : wrap64 (wrap64 (seed * 71) + wrap64 (rd c (i : Int))) = seed * 71 + rd c (i : Int) := by
        rw [w64 (x := seed * 71) (by omega) (by omega), w64 (x := rd c (i : Int)) (by omega) (by omega), w64 (by omega) (by omega)]
      have ht := tmod_pos (a := seed * 71 + rd c (i : Int)) (n := 2147483647) (by omega) (by omega)
      obtain ⟨s, hs, hs2⟩ := ih (i + 1) (by omega) _ ht.1 ht.2
      by_cases h64 : (i : Int) < 64
      · refine ⟨s, Ev.succ ?_, hs2⟩
        simp only [spec_l01From.l0, e1, e2]
        exact Ev.pos (by omega) (Ev.pos h64 (Ev.pos (by omega) hs))
      · refine ⟨seed, Ev.succ ?_, h0, h1⟩
        simp only [spec_l01From.l0]
        exact Ev.pos (by omega) (Ev.neg h64 (Ev.eq rfl))
  obtain ⟨s, hs, h1, h2⟩ := key c.length 0 (by omega) 88007 (by omega) (by omega)
  refine ⟨s, ?_, hc, hl, by omega, by omega, h1, h2⟩
  unfold spec_l01From.f
  exact hs
theorem spec_l01Next_ok {c : List Int} {p s : Int} (h : Src c p s) (n : Int) : ∃ r p' s', spec_l01Next.f c p s n = some (r, p', s') ∧ Src c p' s' ∧ 0 ≤ r ∧ (r = 0 ∨ r < n) := by
 obtain ⟨hc, hl, h0, h1, hs0, hs1⟩ := h
 unfold spec_l01Next.f
 by_cases hn : n ≤ 1
 ·rw [if_pos hn]
  exact ⟨0, p, s, rfl, ⟨hc, hl, h0, h1, hs0, hs1⟩, Int.le_refl 0, .inl rfl⟩
 rw [if_neg hn]
 have es : wrap64 (wrap64 (s * 48271) + 61) = s * 48271 + 61 := by
  rw [w64 (x := s * 48271) (by omega) (by omega), w64 (by omega) (by omega)]
 have ht := tmod_pos (a := s * 48271 + 61) (n := 2147483647) (by omega) (by omega)
 rw [es]
 generalize Int.tmod (s * 48271 + 61) 2147483647 = s' at ht ⊢
 have ex : Int.tdiv s' 31 = s' / 31 := Int.tdiv_eq_ediv_of_nonneg ht.1
 have ew : wrap64 (Int.tdiv s' 31) = s' / 31 := by rw [ex, w64 (by omega) (by omega)]
 rw [ew]
 have hb := byte_at hc p
 have eb : wrap64 (rd c p) = rd c p := w64 (by omega) (by omega)
 have eq : wrap64 (s' / 31 + wrap64 (rd c p)) = s' / 31 + rd c p := by rw [eb, w64 (by omega) (by omega)]
 have ep : wrap64 (p + 1) = p + 1 := w64 (by omega) (by omega)
 have ep2 : wrap64 (p + 1 - 1) = p := by rw [w64 (by omega) (by omega)]; omega
 have t1 := tmod_pos (a := rd c p) (n := n) hb.1 (by omega)
 have t2 := tmod_pos (a := s' / 31 + rd c p) (n := n) (by omega) (by omega)
 have t3 := tmod_pos (a := s' / 31) (n := n) (by omega) (by omega)
 have n0 : ¬ n = 0 := by omega
 by_cases hp : p < (c.length : Int)
 ·rw [if_pos hp, if_pos h0, ep, ep2, if_pos h0, if_pos hp, if_neg n0, if_neg n0, eq, eb]
  have hS : Src c (p + 1) s' := ⟨hc, hl, by omega, by omega, ht⟩
  split
  ·split
   ·exact ⟨_, _, _, rfl, hS, t1.1, .inr t1.2⟩
   ·exact ⟨_, _, _, rfl, hS, t2.1, .inr t2.2⟩
  ·exact ⟨_, _, _, rfl, hS, t2.1, .inr t2.2⟩
 ·rw [if_neg hp, if_neg n0]
  exact ⟨_, _, _, rfl, ⟨hc, hl, h0, h1, ht⟩, t3.1, .inr t3.2⟩
theorem spec_l01Pick_ok {c : List Int} {p s : Int} (h : Src c p s) (l : List Int) (h0 : 1 ≤ l.length) (hl : l.length ≤ 1048576) : ∃ r p' s', spec_l01Pick.f c p s l = some (r, p', s') ∧ Src c p' s' ∧ r ∈ l := by
 obtain ⟨r, p', s', h1, h2, h3, h4⟩ := spec_l01Next_ok h (l.length : Int)
 have hr : r < (l.length : Int) := by omega
 refine ⟨rd l r, p', s', ?_, h2, getD_mem l 0 r.toNat (by omega)⟩
 unfold spec_l01Pick.f
 rw [h1, Option.bind_some]
 simp only
 rw [if_pos h3, if_pos hr]
theorem spec_l04DrawSide_ok {c : List Int} {p s : Int} (h : Src c p s) : ∃ r p' s', spec_l04DrawSide.f c p s = some (r, p', s') ∧ Src c p' s' := by
 obtain ⟨r, p1, s1, h1, h2, _⟩ := spec_l01Next_ok h 40
 unfold spec_l04DrawSide.f
 rw [h1, Option.bind_some]
 simp only
 split
 ·obtain ⟨r2, p2, s2, g1, g2, _⟩ := spec_l01Pick_ok h2 [0, 3, -1, 16] (by simp) (by simp)
  rw [g1, Option.bind_some]; exact ⟨_, _, _, rfl, g2⟩
 ·obtain ⟨r2, p2, s2, g1, g2, _⟩ := spec_l01Pick_ok h2 [1, 2, 2, 4, 4, 8] (by simp) (by simp)
  rw [g1, Option.bind_some]; exact ⟨_, _, _, rfl, g2⟩
def pow2 (a : Int) : Nat := if a = 2 then 1 else if a = 4 then 2 else if a = 8 then 3 else 0
theorem spec_l04Power_b (a : Int) : spec_l04Power.f a = some ((pow2 a : Int), sideLen a) ∧ pow2 a ≤ 3 ∧ (sideLen a = true → a = ((2 ^ pow2 a : Nat) : Int)) := by
 unfold spec_l04Power.f pow2 sideLen
 by_cases h1 : a = 1
 ·subst h1; exact ⟨rfl, by decide, fun _ => rfl⟩
 by_cases h2 : a = 2
 ·subst h2; exact ⟨rfl, by decide, fun _ => rfl⟩
 by_cases h4 : a = 4
 ·subst h4; exact ⟨rfl, by decide, fun _ => rfl⟩
 by_cases h8 : a = 8
 ·subst h8; exact ⟨rfl, by decide, fun _ => rfl⟩
 rw [if_neg h1, if_neg h2, if_neg h4, if_neg h8]
 refine ⟨?_, ?_, fun h => absurd h ?_⟩
 ·simp [h1, h2, h4, h8]
 ·simp [h2, h4, h8]
 ·simp [h1, h2, h4, h8]
theorem spec_l04Draw_l0 {c : List Int} (a b : Int) : ∀ d : Nat, ∀ x y : Int, 0 ≤ x → 0 ≤ y → x + y = (d : Int) → d ≤ 6 → ∀ out : List Int, out.length + d ≤ 6 → ∀ p s, Src c p s →
    ∃ sch p' s', Ev (fun k => spec_l04Draw.l0 k a b x y out c p s) (a, b, sch, p', s') ∧ sch.size ≤ 7 ∧ Src c p' s' := by
  intro d
  induction d with
  | zero =>
    intro x y hx hy hd _ out ho p s h
    obtain ⟨r, p1, s1, h1, h2, _⟩ := spec_l01Next_ok h 40
    have e0 : wrap64 (x + y) = 0 := by rw [hd, w64 (by omega) (by omega)]; rfl
    have hsz := strOfNums_size out
    by_cases c0 : r = 0
    · refine ⟨strOfNums out ++ (⟨#[76]⟩ : ByteArray), p1, s1, Ev.succ ?_, ?_, h2⟩
      · simp only [spec_l04Draw.l0, e0]
        refine Ev.neg (by omega) (Ev.bind (Ev.eq h1) (Ev.pos c0 (Ev.pos (by omega) (Ev.eq rfl))))
      · rw [ByteArray.size_append, hsz]; show out.length + 1 ≤ 7; omega
    by_cases c1 : r = 1
    · refine ⟨(⟨#[120]⟩ : ByteArray), p1, s1, Ev.succ ?_, ?_, h2⟩
      · simp only [spec_l04Draw.l0, e0]
        refine Ev.neg (by omega) (Ev.bind (Ev.eq h1) (Ev.neg c0 (Ev.pos c1 (Ev.eq rfl))))
      · show 1 ≤ 7; omega
    · refine ⟨strOfNums out, p1, s1, Ev.succ ?_, ?_, h2⟩
      · simp only [spec_l04Draw.l0, e0]
        refine Ev.neg (by omega) (Ev.bind (Ev.eq h1) (Ev.neg c0 (Ev.neg c1 (Ev.eq rfl))))
      · rw [hsz]; omega
  | succ d ih =>
    intro x y hx hy hd h6 out ho p s h
    have e0 : wrap64 (x + y) = x + y := w64 (by omega) (by omega)
    obtain ⟨r, p1, s1, h1, h2, hr0, hr1⟩ := spec_l01Next_ok h (x + y)
    obtain ⟨q, p2, s2, g1, g2, hq0, hq1⟩ := spec_l01Next_ok h2 2
    by_cases cr : r < x
    · obtain ⟨sch, p', s', k1, k2, k3⟩ := ih (x - 1) y (by omega) hy (by omega) (by omega) (out ++ [bt (⟨#[76, 82]⟩ : ByteArray) q]) (by rw [List.length_append, List.length_singleton]; omega) p2 s2 g2
      refine ⟨sch, p', s', Ev.succ ?_, k2, k3⟩
      simp only [spec_l04Draw.l0, e0]
      refine Ev.pos (by omega) (Ev.bind (Ev.eq h1) (Ev.pos cr (Ev.bind (Ev.eq g1) (Ev.pos hq0 (Ev.pos (by simp only; omega) (Ev.pos (by omega) ?_))))))
      rw [show wrap64 (x - 1) = x - 1 from w64 (by omega) (by omega)]
      exact k1
    · obtain ⟨sch, p', s', k1, k2, k3⟩ := ih x (y - 1) hx (by omega) (by omega) (by omega) (out ++ [bt (⟨#[84, 66]⟩ : ByteArray) q]) (by rw [List.length_append, List.length_singleton]; omega) p2 s2 g2
      refine ⟨sch, p', s', Ev.succ ?_, k2, k3⟩
      simp only [spec_l04Draw.l0, e0]
      refine Ev.pos (by omega) (Ev.bind (Ev.eq h1) (Ev.neg cr (Ev.bind (Ev.eq g1) (Ev.pos hq0 (Ev.pos (by simp only; omega) (Ev.pos (by omega) ?_))))))
      rw [show wrap64 (y - 1) = y - 1 from w64 (by omega) (by omega)]
      exact k1
theorem spec_l04Draw_ok {c : List Int} {p s : Int} (h : Src c p s) : ∃ a b sch p' s', Ev (fun k => spec_l04Draw.f k c p s) (a, b, sch, p', s') ∧ sch.size ≤ 7 ∧ Src c p' s' := by
 obtain ⟨a, p1, s1, h1, h2⟩ := spec_l04DrawSide_ok h
 obtain ⟨b, p2, s2, g1, g2⟩ := spec_l04DrawSide_ok h2
 obtain ⟨ea, la, _⟩ := spec_l04Power_b a
 obtain ⟨eb, lb, _⟩ := spec_l04Power_b b
 obtain ⟨sch, p', s', k1, k2, k3⟩ := spec_l04Draw_l0 (c := c) a b (pow2 a + pow2 b) (pow2 a) (pow2 b) (by omega) (by omega) (by omega) (by omega) [] (by simp; omega) p2 s2 g2
 refine ⟨a, b, sch, p', s', ?_, k2, k3⟩
 unfold spec_l04Draw.f
 exact Ev.bind (Ev.eq h1) (Ev.bind (Ev.eq g1) (Ev.bind (Ev.eq ea) (Ev.bind (Ev.eq eb) k1)))
def schemeOk : List UInt8 → Int → Int → Bool
 | [], a, b => decide (a = 0 ∧ b = 0)
 | x :: l, a, b => if x = 76 ∨ x = 82 then schemeOk l (a - 1) b else if x = 84 ∨ x = 66 then schemeOk l a (b - 1) else false
theorem schemeOk_ge : ∀ (l : List UInt8) (a b : Int), schemeOk l a b = true → 0 ≤ a ∧ 0 ≤ b
  | [], a, b, h => by simp [schemeOk] at h; omega
  | x :: l, a, b, h => by
    rw [schemeOk] at h
    split at h
    · have := schemeOk_ge l _ _ h; omega
    · split at h
      · have := schemeOk_ge l _ _ h; omega
      · simp at h
theorem bt_get {s : ByteArray} {i : Nat} (h : i < s.size) : bt s (i : Int) = ((s.data.toList.getD i 0).toNat : Int) := by
 unfold bt
 rw [dif_pos (by simpa using h)]
 have h2 : i < s.data.toList.length := by rw [data_length]; exact h
 simp only [List.getD, List.getElem?_eq_getElem h2, Option.getD_some, Int.toNat_natCast]
 rfl
theorem u8_eq (x : UInt8) (n : Nat) (hn : n < 256) : ((x.toNat : Int) = (n : Int)) ↔ x = UInt8.ofNat n := by
 constructor
 ·intro h
  apply UInt8.toNat_inj.mp
  rw [UInt8.toNat_ofNat']
  omega
 ·rintro rfl
  rw [UInt8.toNat_ofNat']
  omega
theorem letter_eq (x : UInt8) : (((x.toNat : Int) = 76 ∨ (x.toNat : Int) = 82) ↔ (x = 76 ∨ x = 82)) ∧ ((x.toNat : Int) = 84 ↔ x = 84) ∧ ((x.toNat : Int) = 66 ↔ x = 66) ∧ ((x.toNat : Int) = 76 ↔ x = 76) ∧ ((x.toNat : Int) = 82 ↔ x = 82) :=
 ⟨or_congr (u8_eq x 76 (by omega)) (u8_eq x 82 (by omega)), u8_eq x 84 (by omega), u8_eq x 66 (by omega), u8_eq x 76 (by omega), u8_eq x 82 (by omega)⟩
theorem spec_IsScheme_l0 {sch : ByteArray} (hs : sch.size ≤ 1048576) (ta tb : Bool) : ∀ d i : Nat, i + d = sch.size → ∀ a b : Int, a ≤ 8 → b ≤ 8 → (-1048600 - (i : Int) ≤ a) → (-1048600 - (i : Int) ≤ b) →
    Ev (fun k => spec_IsScheme.l0 k sch a ta b tb (i : Int)) (ta && tb && schemeOk (sch.data.toList.drop i) a b) := by
  intro d
  induction d with
  | zero =>
    intro i hi a b _ _ _ _
    have e : sch.data.toList.drop i = [] := List.drop_eq_nil_of_le (by rw [data_length]; omega)
    rw [e]
    refine Ev.succ ?_
    simp only [spec_IsScheme.l0, schemeOk]
    refine Ev.neg (by omega) ?_
    cases ta <;> cases tb <;> simp only [Bool.false_and, Bool.and_false, Bool.true_and]
    · exact Ev.neg (by simp) (Ev.eq rfl)
    · exact Ev.neg (by simp) (Ev.eq rfl)
    · exact Ev.pos (by trivial) (Ev.neg (by simp) (Ev.eq rfl))
    · refine Ev.pos (by trivial) (Ev.pos (by trivial) (Ev.ite (fun h => Ev.eq ?_) (fun h => Ev.eq ?_)))
      · rw [Option.some.injEq, Bool.eq_iff_iff]; simp [h]
      · simp [h]
  | succ d ih =>
    intro i hi a b ha2 hb2 ha3 hb3
    have hlt : i < sch.size := by omega
    have ex := bt_get hlt
    have ed := getD_drop sch.data.toList 0 i (by rw [data_length]; exact hlt)
    obtain ⟨l1, l2, l3, l4, l5⟩ := letter_eq (sch.data.toList.getD i 0)
    have ew : wrap64 ((i : Int) + 1) = ((i + 1 : Nat) : Int) := by rw [w64 (by omega) (by omega)]; omega
    have wa : wrap64 (a - 1) = a - 1 := w64 (by omega) (by omega)
    have wb : wrap64 (b - 1) = b - 1 := w64 (by omega) (by omega)
    rw [ed, schemeOk]
    generalize sch.data.toList.getD i 0 = x at ex l1 l2 l3 l4 l5 ⊢
    have step : ∀ t : Bool, (t = true ↔ (x = 76 ∨ x = 82)) → Ev (fun k => spec_IsScheme.j1 k sch a ta b tb (i : Int) (bt sch (i : Int)) t) (ta && tb && (if x = 76 ∨ x = 82 then schemeOk (sch.data.toList.drop (i + 1)) (a - 1) b else if x = 84 ∨ x = 66 then schemeOk (sch.data.toList.drop (i + 1)) a (b - 1) else false)) := by
      intro t ht
      refine Ev.succ ?_
      simp only [spec_IsScheme.j1, ew, wa, wb]
      refine Ev.ite (fun c => ?_) (fun c => ?_)
      · rw [if_pos (ht.mp c)]
        exact ih (i + 1) (by omega) (a - 1) b (by omega) (by omega) (by omega) (by omega)
      · rw [if_neg (fun h => c (ht.mpr h)), ex]
        refine Ev.ite (fun c4 => ?_) (fun c4 => Ev.ite (fun c6 => ?_) (fun c6 => Ev.eq ?_))
        · rw [if_pos (.inl (l2.mp c4))]
          exact ih (i + 1) (by omega) a (b - 1) (by omega) (by omega) (by omega) (by omega)
        · rw [if_pos (.inr (l3.mp c6))]
          exact ih (i + 1) (by omega) a (b - 1) (by omega) (by omega) (by omega) (by omega)
        · rw [if_neg (fun h => h.elim (fun q => c4 (l2.mpr q)) (fun q => c6 (l3.mpr q))), Bool.and_false]
    refine Ev.succ ?_
    simp only [spec_IsScheme.l0]
    refine Ev.pos (by omega) (Ev.pos (by omega) (Ev.ite (fun c => ?_) (fun c => ?_)))
    · refine step _ ?_
      rw [c]; rw [ex] at c
      exact ⟨fun _ => .inl (l4.mp c), fun _ => rfl⟩
    · refine step _ ?_
      rw [ex] at c ⊢
      constructor
      · intro h; exact .inr (l5.mp (by simpa using h))
      · rintro (h | h)
        · exact absurd (l4.mpr h) c
        · simpa using l5.mpr h
theorem spec_IsScheme_ev {sch : ByteArray} (hs : sch.size ≤ 1048576) (a b : Int) : Ev (fun k => spec_IsScheme.f k a b sch) (sideLen a && sideLen b && schemeOk sch.data.toList (pow2 a) (pow2 b)) := by
 obtain ⟨ea, la, _⟩ := spec_l04Power_b a
 obtain ⟨eb, lb, _⟩ := spec_l04Power_b b
 unfold spec_IsScheme.f
 refine Ev.bind (Ev.eq ea) (Ev.bind (Ev.eq eb) ?_)
 have h := spec_IsScheme_l0 (sch := sch) (by omega) (sideLen a) (sideLen b) sch.size 0 (by omega) (pow2 a) (pow2 b) (by omega) (by omega) (by omega) (by omega)
 rw [List.drop_zero] at h
 exact h
def StackOk (w h : Int) (n : Nat) (l : List S133) : Prop := l.length = n ∧ ∀ x ∈ l, (0 ≤ x.f0 ∧ x.f0 < w) ∧ (0 ≤ x.f1 ∧ x.f1 < h)
def RowOk (w h : Int) (m n : Nat) (r : List (List S133)) : Prop := r.length = m ∧ ∀ x ∈ r, StackOk w h n x
def RowsOk (w h : Int) (q m n : Nat) (t : List (List (List S133))) : Prop := t.length = q ∧ ∀ x ∈ t, RowOk w h m n x
theorem rd_st {r : List (List S133)} {w h : Int} {m n : Nat} (hr : RowOk w h m n r) (i : Nat) (hi : i < m) : StackOk w h n (rd_L4 r (i : Int)) := by
 unfold rd_L4
 rw [Int.toNat_natCast]
 exact hr.2 _ (getD_mem r [] i (by rw [hr.1]; exact hi))
theorem rd_row {t : List (List (List S133))} {w h : Int} {q m n : Nat} (ht : RowsOk w h q m n t) (i : Nat) (hi : i < q) : RowOk w h m n (rd_L5 t (i : Int)) := by
 unfold rd_L5
 rw [Int.toNat_natCast]
 exact ht.2 _ (getD_mem t [] i (by rw [ht.1]; exact hi))
theorem rd_leaf {l : List S133} {w h : Int} {n : Nat} (hl : StackOk w h n l) (i : Nat) (hi : i < n) : (0 ≤ (rd_T133 l (i : Int)).f0 ∧ (rd_T133 l (i : Int)).f0 < w) ∧ (0 ≤ (rd_T133 l (i : Int)).f1 ∧ (rd_T133 l (i : Int)).f1 < h) := by
 unfold rd_T133
 rw [Int.toNat_natCast]
 exact hl.2 _ (getD_mem l z133 i (by rw [hl.1]; exact hi))
theorem StackOk.snoc {w h : Int} {n : Nat} {l : List S133} (hl : StackOk w h n l) {x : S133} (hx : (0 ≤ x.f0 ∧ x.f0 < w) ∧ (0 ≤ x.f1 ∧ x.f1 < h)) : StackOk w h (n + 1) (l ++ [x]) :=
 ⟨by rw [List.length_append, hl.1]; rfl, fun y hy => by
  rcases List.mem_append.mp hy with hy | hy
  ·exact hl.2 y hy
  ·rw [List.mem_singleton.mp hy]; exact hx⟩
theorem RowOk.snoc {w h : Int} {m n : Nat} {r : List (List S133)} (hr : RowOk w h m n r) {x : List S133} (hx : StackOk w h n x) : RowOk w h (m + 1) n (r ++ [x]) :=
 ⟨by rw [List.length_append, hr.1]; rfl, fun y hy => by
  rcases List.mem_append.mp hy with hy | hy
  ·exact hr.2 y hy
  ·rw [List.mem_singleton.mp hy]; exact hx⟩
theorem RowsOk.snoc {w h : Int} {q m n : Nat} {t : List (List (List S133))} (ht : RowsOk w h q m n t) {x : List (List S133)} (hx : RowOk w h m n x) : RowsOk w h (q + 1) m n (t ++ [x]) :=
 ⟨by rw [List.length_append, ht.1]; rfl, fun y hy => by
  rcases List.mem_append.mp hy with hy | hy
  ·exact ht.2 y hy
  ·rw [List.mem_singleton.mp hy]; exact hx⟩
theorem StackOk.append {w h : Int} {n m : Nat} {a b : List S133} (ha : StackOk w h n a) (hb : StackOk w h m b) : StackOk w h (n + m) (a ++ b) :=
 ⟨by rw [List.length_append, ha.1, hb.1], fun y hy => (List.mem_append.mp hy).elim (ha.2 y) (hb.2 y)⟩
theorem spec_l04Turn_ev {w h : Int} {n : Nat} {l : List S133} (hl : StackOk w h n l) (hn : n ≤ 1000) (al : Bool) : ∃ r, Ev (fun k => spec_l04Turn.f k l al) r ∧ StackOk w h n r := by
  have key : ∀ i : Nat, i ≤ n → ∀ out : List S133, StackOk w h (n - i) out → ∃ r, Ev (fun k => spec_l04Turn.l0 k l al out ((i : Int) - 1)) r ∧ StackOk w h n r := by
    intro i
    induction i with
    | zero =>
      intro _ out ho
      refine ⟨out, Ev.succ ?_, ho⟩
      simp only [spec_l04Turn.l0]
      exact Ev.neg (by omega) (Ev.eq rfl)
    | succ i ih =>
      intro hi out ho
      have e1 : ((i + 1 : Nat) : Int) - 1 = (i : Int) := by omega
      have e2 : wrap64 ((i : Int) - 1) = (i : Int) - 1 := w64 (by omega) (by omega)
      have hx := rd_leaf hl i (by omega)
      have hol := ho.1
      have e3 : n - (i + 1) + 1 = n - i := by omega
      rw [e1]
      cases al with
      | true =>
        have hs := ho.snoc (x := ⟨(rd_T133 l (i : Int)).f0, (rd_T133 l (i : Int)).f1, !((rd_T133 l (i : Int)).f2), (rd_T133 l (i : Int)).f3⟩) hx
        rw [e3] at hs
        obtain ⟨r, h1, h2⟩ := ih (by omega) _ hs
        refine ⟨r, Ev.succ ?_, h2⟩
        simp only [spec_l04Turn.l0, e2]
        exact Ev.pos (by omega) (Ev.pos (by omega) (Ev.pos (by rw [hl.1]; omega) (Ev.pos (by trivial) (Ev.pos (by omega) h1))))
      | false =>
        have hs := ho.snoc (x := ⟨(rd_T133 l (i : Int)).f0, (rd_T133 l (i : Int)).f1, (rd_T133 l (i : Int)).f2, !((rd_T133 l (i : Int)).f3)⟩) hx
        rw [e3] at hs
        obtain ⟨r, h1, h2⟩ := ih (by omega) _ hs
        refine ⟨r, Ev.succ ?_, h2⟩
        simp only [spec_l04Turn.l0, e2]
        exact Ev.pos (by omega) (Ev.pos (by omega) (Ev.pos (by rw [hl.1]; omega) (Ev.neg (by simp) (Ev.pos (by omega) h1))))
  obtain ⟨r, h1, h2⟩ := key n (Nat.le_refl _) [] ⟨by simp, fun x hx => by cases hx⟩
  refine ⟨r, ?_, h2⟩
  unfold spec_l04Turn.f
  rw [hl.1, w64 (by omega) (by omega)]
  exact h1
theorem spec_l04Start_ev {w h : Nat} (hw : w ≤ 1000) (hh : h ≤ 1000) : ∃ t, Ev (fun k => spec_l04Start.f k (w : Int) (h : Int)) t ∧ RowsOk (w : Int) (h : Int) h w 1 t := by
  have inner : ∀ y : Nat, y < h → ∀ out : List (List (List S133)), out.length ≤ 1000 → ∀ d x : Nat, x + d = w → ∀ row : List (List S133), RowOk (w : Int) (h : Int) x 1 row → ∀ R : List (List S133) → List (List (List S133)), (∀ row, RowOk (w : Int) (h : Int) w 1 row → Ev (fun k => spec_l04Start.l0 k (w : Int) (h : Int) (out ++ [row]) ((y + 1 : Nat) : Int)) (R row)) →
      ∃ row', RowOk (w : Int) (h : Int) w 1 row' ∧ Ev (fun k => spec_l04Start.l1 k (w : Int) (h : Int) out (y : Int) row (x : Int)) (R row') := by
    intro y hy out hol d
    induction d with
    | zero =>
      intro x hx row hr R hR
      have : x = w := by omega
      subst this
      refine ⟨row, hr, Ev.succ ?_⟩
      simp only [spec_l04Start.l1]
      refine Ev.neg (by omega) (Ev.pos (by omega) ?_)
      rw [show wrap64 ((y : Int) + 1) = ((y + 1 : Nat) : Int) by rw [w64 (by omega) (by omega)]; omega]
      exact hR row hr
    | succ d ih =>
      intro x hx row hr R hR
      have hs := hr.snoc (x := [⟨(x : Int), (y : Int), false, false⟩]) ⟨rfl, fun z hz => by rw [List.mem_singleton.mp hz]; exact ⟨by simp only; omega, by simp only; omega⟩⟩
      obtain ⟨row', h1, h2⟩ := ih (x + 1) (by omega) _ hs R hR
      refine ⟨row', h1, Ev.succ ?_⟩
      have hl := hr.1
      simp only [spec_l04Start.l1]
      refine Ev.pos (by omega) (Ev.pos (by omega) ?_)
      rw [show wrap64 ((x : Int) + 1) = ((x + 1 : Nat) : Int) by rw [w64 (by omega) (by omega)]; omega]
      exact h2
  have outer : ∀ d y : Nat, y + d = h → ∀ out : List (List (List S133)), RowsOk (w : Int) (h : Int) y w 1 out → ∃ t, Ev (fun k => spec_l04Start.l0 k (w : Int) (h : Int) out (y : Int)) t ∧ RowsOk (w : Int) (h : Int) h w 1 t := by
    intro d
    induction d with
    | zero =>
      intro y hy out ho
      have : y = h := by omega
      subst this
      refine ⟨out, Ev.succ ?_, ho⟩
      simp only [spec_l04Start.l0]
      exact Ev.neg (by omega) (Ev.eq rfl)
    | succ d ih =>
      intro y hy out ho
      have hol := ho.1
      have hall : ∀ row, ∃ t, RowOk (w : Int) (h : Int) w 1 row → Ev (fun k => spec_l04Start.l0 k (w : Int) (h : Int) (out ++ [row]) ((y + 1 : Nat) : Int)) t ∧ RowsOk (w : Int) (h : Int) h w 1 t := fun row => by
        by_cases hr : RowOk (w : Int) (h : Int) w 1 row
        · obtain ⟨t, h1, h2⟩ := ih (y + 1) (by omega) _ (ho.snoc hr); exact ⟨t, fun _ => ⟨h1, h2⟩⟩
        · exact ⟨[], fun h => absurd h hr⟩
      obtain ⟨R, hR⟩ := Classical.axiomOfChoice hall
      obtain ⟨row', h1, h2⟩ := inner y (by omega) out (by omega) w 0 (by omega) [] ⟨rfl, fun x hx => by cases hx⟩ R (fun row hr => (hR row hr).1)
      refine ⟨R row', Ev.succ ?_, (hR row' h1).2⟩
      simp only [spec_l04Start.l0]
      exact Ev.pos (by omega) h2
  obtain ⟨t, h1, h2⟩ := outer h 0 (by omega) [] ⟨rfl, fun x hx => by cases hx⟩
  exact ⟨t, h1, h2⟩
theorem half_eq {M : Nat} (h : M ≤ 1000) {x : Int} (hx : x = ((2 * M : Nat) : Int)) : wrap64 (Int.tdiv x 2) = (M : Int) := by
 rw [hx, Int.tdiv_eq_ediv_of_nonneg (by omega), show ((2 * M : Nat) : Int) / 2 = (M : Int) by omega, w64 (by omega) (by omega)]
theorem next_eq {i : Nat} (h : i ≤ 2000000) : wrap64 ((i : Int) + 1) = ((i + 1 : Nat) : Int) := by rw [w64 (by omega) (by omega)]; omega
theorem spec_l04Along_l1 {w h : Int} {q M n : Nat} {rows : List (List (List S133))} (ht : RowsOk w h q (2 * M) n rows) (hq : q ≤ 1000) (hM : M ≤ 1000) (hn : n ≤ 500) (c : Int) (y : Nat) (hy : y < q)
    (out : List (List (List S133))) (hol : out.length ≤ 1000) (R : List (List S133) → List (List (List S133))) (hR : ∀ row, RowOk w h M (n + n) row → Ev (fun k => spec_l04Along.l0 k rows c (out ++ [row]) ((y + 1 : Nat) : Int)) (R row)) :
    ∀ d i : Nat, i + d = M → ∀ row : List (List S133), RowOk w h i (n + n) row → ∃ row', RowOk w h M (n + n) row' ∧ Ev (fun k => spec_l04Along.l1 k rows c out (y : Int) ((rd_L5 rows (y : Int)).length : Int) row (i : Int)) (R row') := by
  have hrow := rd_row ht y hy
  have hlen := hrow.1
  have hrl := ht.1
  have eh := Aside0.mk (half_eq hM (x := ((rd_L5 rows (y : Int)).length : Int)) (by rw [hlen]))
  intro d
  induction d with
  | zero =>
    intro i hi row hr
    have : i = M := by omega
    subst this
    refine ⟨row, hr, Ev.succ ?_⟩
    simp only [spec_l04Along.l1, eh.out, next_eq (show y ≤ 2000000 by omega)]
    exact Ev.neg (by omega) (Ev.pos (by omega) (hR row hr))
  | succ d ih =>
    intro i hi row hr
    have hl := hr.1
    have e1 : Aside0 (wrap64 (wrap64 (((rd_L5 rows (y : Int)).length : Int) - 1) - (i : Int)) = ((2 * M - 1 - i : Nat) : Int)) := ⟨by rw [hlen, w64 (x := _ - 1) (by omega) (by omega), w64 (by omega) (by omega)]; omega⟩
    have e2 : Aside0 (wrap64 (wrap64 ((M : Int) - 1) - (i : Int)) = ((M - 1 - i : Nat) : Int)) := ⟨by rw [w64 (x := (M : Int) - 1) (by omega) (by omega), w64 (by omega) (by omega)]; omega⟩
    have e3 : Aside0 (wrap64 ((M : Int) + (i : Int)) = ((M + i : Nat) : Int)) := ⟨by rw [w64 (by omega) (by omega)]; omega⟩
    by_cases cL : c = 76
    · obtain ⟨t, g1, g2⟩ := spec_l04Turn_ev (rd_st hrow (M - 1 - i) (by omega)) (by omega) true
      have hb := rd_st hrow (M + i) (by omega)
      have hbl := hb.1
      have htl := g2.1
      obtain ⟨row', h1, h2⟩ := ih (i + 1) (by omega) _ (hr.snoc (g2.append hb))
      refine ⟨row', h1, Ev.succ ?_⟩
      simp only [spec_l04Along.l1, eh.out, e1.out, e2.out, e3.out, next_eq (show i ≤ 2000000 by omega)]
      exact Ev.pos (by omega) (Ev.pos (by omega) (Ev.pos (by omega) (Ev.pos (by omega) (Ev.pos (by omega) (Ev.pos (by omega) (Ev.pos (by omega) (Ev.pos cL (Ev.pos (by omega) (Ev.pos (by omega) (Ev.pos (by omega) (Ev.pos (by omega) (Ev.bind g1 (Ev.pos (by omega) (Ev.pos (by omega) h2))))))))))))))
    · obtain ⟨t, g1, g2⟩ := spec_l04Turn_ev (rd_st hrow (2 * M - 1 - i) (by omega)) (by omega) true
      have hb := rd_st hrow i (by omega)
      have hbl := hb.1
      have htl := g2.1
      obtain ⟨row', h1, h2⟩ := ih (i + 1) (by omega) _ (hr.snoc (g2.append hb))
      refine ⟨row', h1, Ev.succ ?_⟩
      simp only [spec_l04Along.l1, eh.out, e1.out, next_eq (show i ≤ 2000000 by omega)]
      exact Ev.pos (by omega) (Ev.pos (by omega) (Ev.pos (by omega) (Ev.pos (by omega) (Ev.pos (by omega) (Ev.pos (by omega) (Ev.pos (by omega) (Ev.neg cL (Ev.bind g1 (Ev.pos (by omega) (Ev.pos (by omega) h2))))))))))
theorem spec_l04Along_ev {w h : Int} {q M n : Nat} {rows : List (List (List S133))} (ht : RowsOk w h q (2 * M) n rows) (hq : q ≤ 1000) (hM : M ≤ 1000) (hn : n ≤ 500) (c : Int) : ∃ t, Ev (fun k => spec_l04Along.f k rows c) t ∧ RowsOk w h q M (n + n) t := by
  have hrl := ht.1
  have outer : ∀ d y : Nat, y + d = q → ∀ out : List (List (List S133)), RowsOk w h y M (n + n) out → ∃ t, Ev (fun k => spec_l04Along.l0 k rows c out (y : Int)) t ∧ RowsOk w h q M (n + n) t := by
    intro d
    induction d with
    | zero =>
      intro y hy out ho
      have : y = q := by omega
      subst this
      refine ⟨out, Ev.succ ?_, ho⟩
      simp only [spec_l04Along.l0]
      exact Ev.neg (by omega) (Ev.eq rfl)
    | succ d ih =>
      intro y hy out ho
      have hol := ho.1
      have hall : ∀ row, ∃ t, RowOk w h M (n + n) row → Ev (fun k => spec_l04Along.l0 k rows c (out ++ [row]) ((y + 1 : Nat) : Int)) t ∧ RowsOk w h q M (n + n) t := fun row => by
        by_cases hr : RowOk w h M (n + n) row
        · obtain ⟨t, h1, h2⟩ := ih (y + 1) (by omega) _ (ho.snoc hr); exact ⟨t, fun _ => ⟨h1, h2⟩⟩
        · exact ⟨[], fun h => absurd h hr⟩
      obtain ⟨R, hR⟩ := Classical.axiomOfChoice hall
      obtain ⟨row', h1, h2⟩ := spec_l04Along_l1 ht hq hM hn c y (by omega) out (by omega) R (fun row hr => (hR row hr).1) M 0 (by omega) [] ⟨rfl, fun x hx => by cases hx⟩
      refine ⟨R row', Ev.succ ?_, (hR row' h1).2⟩
      simp only [spec_l04Along.l0]
      exact Ev.pos (by omega) (Ev.pos (by omega) h2)
  obtain ⟨t, h1, h2⟩ := outer q 0 (by omega) [] ⟨rfl, fun x hx => by cases hx⟩
  exact ⟨t, h1, h2⟩
theorem spec_l04Across_l1 {w h : Int} {q m n : Nat} (rows : List (List (List S133))) {a b : List (List S133)} (ha : RowOk w h m n a) (hb : RowOk w h m n b) (hm : m ≤ 1000) (hn : n ≤ 500) (c N : Int) (y : Nat) (hy : y ≤ 1000)
    (out : List (List (List S133))) (hol : out.length ≤ 1000) (R : List (List S133) → List (List (List S133))) (hR : ∀ row, RowOk w h m (n + n) row → Ev (fun k => spec_l04Across.l0 k rows c N (out ++ [row]) ((y + 1 : Nat) : Int)) (R row)) :
    ∀ d i : Nat, i + d = m → ∀ row : List (List S133), RowOk w h i (n + n) row → ∃ row', RowOk w h m (n + n) row' ∧ Ev (fun k => spec_l04Across.l1 k rows c N out (y : Int) a b row (i : Int)) (R row') := by
  have hal := ha.1
  have hbl := hb.1
  intro d
  induction d with
  | zero =>
    intro i hi row hr
    have : i = m := by omega
    subst this
    refine ⟨row, hr, Ev.succ ?_⟩
    simp only [spec_l04Across.l1, next_eq (show y ≤ 2000000 by omega)]
    exact Ev.neg (by omega) (Ev.pos (by omega) (hR row hr))
  | succ d ih =>
    intro i hi row hr
    have hl := hr.1
    obtain ⟨t, g1, g2⟩ := spec_l04Turn_ev (rd_st ha i (by omega)) (by omega) false
    have hs := rd_st hb i (by omega)
    have hsl := hs.1
    have htl := g2.1
    obtain ⟨row', h1, h2⟩ := ih (i + 1) (by omega) _ (hr.snoc (g2.append hs))
    refine ⟨row', h1, Ev.succ ?_⟩
    simp only [spec_l04Across.l1, next_eq (show i ≤ 2000000 by omega)]
    exact Ev.pos (by omega) (Ev.pos (by omega) (Ev.bind g1 (Ev.pos (by omega) (Ev.pos (by omega) (Ev.pos (by omega) h2)))))
theorem spec_l04Across_l2 {w h : Int} {q m n : Nat} (rows : List (List (List S133))) {a b : List (List S133)} (ha : RowOk w h m n a) (hb : RowOk w h m n b) (hm : m ≤ 1000) (hn : n ≤ 500) (c N : Int) (y : Nat) (hy : y ≤ 1000)
    (out : List (List (List S133))) (hol : out.length ≤ 1000) (R : List (List S133) → List (List (List S133))) (hR : ∀ row, RowOk w h m (n + n) row → Ev (fun k => spec_l04Across.l0 k rows c N (out ++ [row]) ((y + 1 : Nat) : Int)) (R row)) :
    ∀ d i : Nat, i + d = m → ∀ row : List (List S133), RowOk w h i (n + n) row → ∃ row', RowOk w h m (n + n) row' ∧ Ev (fun k => spec_l04Across.l2 k rows c N out (y : Int) a b row (i : Int)) (R row') := by
  have hal := ha.1
  have hbl := hb.1
  intro d
  induction d with
  | zero =>
    intro i hi row hr
    have : i = m := by omega
    subst this
    refine ⟨row, hr, Ev.succ ?_⟩
    simp only [spec_l04Across.l2, next_eq (show y ≤ 2000000 by omega)]
    exact Ev.neg (by omega) (Ev.pos (by omega) (hR row hr))
  | succ d ih =>
    intro i hi row hr
    have hl := hr.1
    obtain ⟨t, g1, g2⟩ := spec_l04Turn_ev (rd_st ha i (by omega)) (by omega) false
    have hs := rd_st hb i (by omega)
    have hsl := hs.1
    have htl := g2.1
    obtain ⟨row', h1, h2⟩ := ih (i + 1) (by omega) _ (hr.snoc (g2.append hs))
    refine ⟨row', h1, Ev.succ ?_⟩
    simp only [spec_l04Across.l2, next_eq (show i ≤ 2000000 by omega)]
    exact Ev.pos (by omega) (Ev.pos (by omega) (Ev.bind g1 (Ev.pos (by omega) (Ev.pos (by omega) (Ev.pos (by omega) h2)))))
theorem spec_l04Across_ev {w h : Int} {Q m n : Nat} {rows : List (List (List S133))} (ht : RowsOk w h (2 * Q) m n rows) (hQ : Q ≤ 1000) (hm : m ≤ 1000) (hn : n ≤ 500) (c : Int) : ∃ t, Ev (fun k => spec_l04Across.f k rows c) t ∧ RowsOk w h Q m (n + n) t := by
  have hrl := ht.1
  have eh := Aside0.mk (half_eq hQ (x := (rows.length : Int)) (by rw [hrl]))
  have outer : ∀ d y : Nat, y + d = Q → ∀ out : List (List (List S133)), RowsOk w h y m (n + n) out → ∃ t, Ev (fun k => spec_l04Across.l0 k rows c (rows.length : Int) out (y : Int)) t ∧ RowsOk w h Q m (n + n) t := by
    intro d
    induction d with
    | zero =>
      intro y hy out ho
      have : y = Q := by omega
      subst this
      refine ⟨out, Ev.succ ?_, ho⟩
      simp only [spec_l04Across.l0, eh.out]
      exact Ev.neg (by omega) (Ev.eq rfl)
    | succ d ih =>
      intro y hy out ho
      have hol := ho.1
      have hall : ∀ row, ∃ t, RowOk w h m (n + n) row → Ev (fun k => spec_l04Across.l0 k rows c (rows.length : Int) (out ++ [row]) ((y + 1 : Nat) : Int)) t ∧ RowsOk w h Q m (n + n) t := fun row => by
        by_cases hr : RowOk w h m (n + n) row
        · obtain ⟨t, h1, h2⟩ := ih (y + 1) (by omega) _ (ho.snoc hr); exact ⟨t, fun _ => ⟨h1, h2⟩⟩
        · exact ⟨[], fun h => absurd h hr⟩
      obtain ⟨R, hR⟩ := Classical.axiomOfChoice hall
      have e1 : Aside0 (wrap64 (wrap64 ((rows.length : Int) - 1) - (y : Int)) = ((2 * Q - 1 - y : Nat) : Int)) := ⟨by rw [hrl, w64 (x := _ - 1) (by omega) (by omega), w64 (by omega) (by omega)]; omega⟩
      have e2 : Aside0 (wrap64 (wrap64 ((Q : Int) - 1) - (y : Int)) = ((Q - 1 - y : Nat) : Int)) := ⟨by rw [w64 (x := (Q : Int) - 1) (by omega) (by omega), w64 (by omega) (by omega)]; omega⟩
      have e3 : Aside0 (wrap64 ((Q : Int) + (y : Int)) = ((Q + y : Nat) : Int)) := ⟨by rw [w64 (by omega) (by omega)]; omega⟩
      by_cases cT : c = 84
      · obtain ⟨row', h1, h2⟩ := spec_l04Across_l1 (q := Q) rows (rd_row ht (Q - 1 - y) (by omega)) (rd_row ht (Q + y) (by omega)) hm hn c (rows.length : Int) y (by omega) out (by omega) R (fun row hr => (hR row hr).1) m 0 (by omega) [] ⟨rfl, fun x hx => by cases hx⟩
        refine ⟨R row', Ev.succ ?_, (hR row' h1).2⟩
        simp only [spec_l04Across.l0, eh.out, e1.out, e2.out, e3.out]
        exact Ev.pos (by omega) (Ev.pos (by omega) (Ev.pos (by omega) (Ev.pos (by omega) (Ev.pos (by omega) (Ev.pos cT (Ev.pos (by omega) (Ev.pos (by omega) (Ev.pos (by omega) (Ev.pos (by omega) h2)))))))))
      · obtain ⟨row', h1, h2⟩ := spec_l04Across_l2 (q := Q) rows (rd_row ht (2 * Q - 1 - y) (by omega)) (rd_row ht y (by omega)) hm hn c (rows.length : Int) y (by omega) out (by omega) R (fun row hr => (hR row hr).1) m 0 (by omega) [] ⟨rfl, fun x hx => by cases hx⟩
        refine ⟨R row', Ev.succ ?_, (hR row' h1).2⟩
        simp only [spec_l04Across.l0, eh.out, e1.out]
        exact Ev.pos (by omega) (Ev.pos (by omega) (Ev.pos (by omega) (Ev.pos (by omega) (Ev.pos (by omega) (Ev.neg cT h2)))))
  obtain ⟨t, h1, h2⟩ := outer Q 0 (by omega) [] ⟨rfl, fun x hx => by cases hx⟩
  exact ⟨t, h1, h2⟩
theorem two_pow_le {e : Nat} (h : e ≤ 3) : 2 ^ e ≤ 8 := by
 rcases (show e = 0 ∨ e = 1 ∨ e = 2 ∨ e = 3 by omega) with rfl | rfl | rfl | rfl <;> decide
theorem spec_l04Leaves_l0 {w h : Int} {sch : ByteArray} (hs : sch.size ≤ 1048576) : ∀ d i : Nat, i + d = sch.size → ∀ a b n : Nat, a ≤ 3 → b ≤ 3 → n * (2 ^ a * 2 ^ b) ≤ 64 → schemeOk (sch.data.toList.drop i) (a : Int) (b : Int) = true → ∀ rows : List (List (List S133)), RowsOk w h (2 ^ b) (2 ^ a) n rows →
    ∃ l, Ev (fun k => spec_l04Leaves.l0 k sch rows (i : Int)) l ∧ StackOk w h (n * (2 ^ a * 2 ^ b)) l := by
  intro d
  induction d with
  | zero =>
    intro i hi a b n ha hb hn hok rows ht
    have e : sch.data.toList.drop i = [] := List.drop_eq_nil_of_le (by rw [data_length]; omega)
    rw [e] at hok
    simp only [schemeOk, decide_eq_true_eq] at hok
    obtain rfl : a = 0 := by omega
    obtain rfl : b = 0 := by omega
    have hr : RowOk w h (2 ^ 0) n (rd_L5 rows 0) := rd_row ht 0 (by decide)
    have hst : StackOk w h n (rd_L4 (rd_L5 rows 0) 0) := rd_st hr 0 (by decide)
    have h1 := ht.1
    have h2 := hr.1
    refine ⟨_, Ev.succ ?_, by simpa using hst⟩
    simp only [spec_l04Leaves.l0]
    refine Ev.neg (by omega) (Ev.pos (by rw [h1]; decide) (Ev.pos (by rw [h2]; decide) (Ev.eq rfl)))
  | succ d ih =>
    intro i hi a b n ha hb hn hok rows ht
    have hlt : i < sch.size := by omega
    have ex := bt_get hlt
    have ed := getD_drop sch.data.toList 0 i (by rw [data_length]; exact hlt)
    obtain ⟨l1, l2, l3, l4, l5⟩ := letter_eq (sch.data.toList.getD i 0)
    have ew := next_eq (show i ≤ 2000000 by omega)
    have pa := two_pow_le ha
    have pb := two_pow_le hb
    have pa0 : 0 < 2 ^ a := Nat.two_pow_pos a
    have pb0 : 0 < 2 ^ b := Nat.two_pow_pos b
    rw [ed, schemeOk] at hok
    have hn64 : n ≤ 64 := by
      have h1 : 1 ≤ 2 ^ a * 2 ^ b := Nat.mul_pos pa0 pb0
      have h2 : n * 1 ≤ n * (2 ^ a * 2 ^ b) := Nat.mul_le_mul_left _ h1
      omega
    generalize sch.data.toList.getD i 0 = x at ex l1 l2 l3 l4 l5 hok
    have step : ∀ t : Bool, (t = true ↔ (x = 76 ∨ x = 82)) → ∃ l, Ev (fun k => spec_l04Leaves.j1 k sch rows (i : Int) t) l ∧ StackOk w h (n * (2 ^ a * 2 ^ b)) l := by
      intro t htt
      by_cases cx : x = 76 ∨ x = 82
      · rw [if_pos cx] at hok
        have hge := schemeOk_ge _ _ _ hok
        obtain ⟨a', rfl⟩ : ∃ a', a = a' + 1 := ⟨a - 1, by omega⟩
        rw [show ((a' + 1 : Nat) : Int) - 1 = (a' : Int) by omega] at hok
        have e2 : 2 ^ (a' + 1) = 2 * 2 ^ a' := by rw [Nat.pow_succ]; omega
        rw [e2] at ht hn pa ⊢
        obtain ⟨t', g1, g2⟩ := spec_l04Along_ev ht (by omega) (by omega) (by omega) (bt sch (i : Int))
        have en : (n + n) * (2 ^ a' * 2 ^ b) = n * (2 * 2 ^ a' * 2 ^ b) := by rw [← Nat.two_mul, Nat.mul_assoc 2 (2 ^ a') (2 ^ b), Nat.mul_comm 2 n, Nat.mul_assoc]
        obtain ⟨l, k1, k2⟩ := ih (i + 1) (by omega) a' b (n + n) (by omega) hb (by omega) hok t' g2
        refine ⟨l, Ev.succ ?_, by rw [← en]; exact k2⟩
        simp only [spec_l04Leaves.j1, ew]
        exact Ev.pos (htt.mpr cx) (Ev.pos (by omega) (Ev.pos (by omega) (Ev.bind g1 k1)))
      · rw [if_neg cx] at hok
        by_cases cy : x = 84 ∨ x = 66
        · rw [if_pos cy] at hok
          have hge := schemeOk_ge _ _ _ hok
          obtain ⟨b', rfl⟩ : ∃ b', b = b' + 1 := ⟨b - 1, by omega⟩
          rw [show ((b' + 1 : Nat) : Int) - 1 = (b' : Int) by omega] at hok
          have e2 : 2 ^ (b' + 1) = 2 * 2 ^ b' := by rw [Nat.pow_succ]; omega
          rw [e2] at ht hn pb ⊢
          obtain ⟨t', g1, g2⟩ := spec_l04Across_ev ht (by omega) (by omega) (by omega) (bt sch (i : Int))
          have en : (n + n) * (2 ^ a * 2 ^ b') = n * (2 ^ a * (2 * 2 ^ b')) := by rw [← Nat.two_mul, Nat.mul_left_comm (2 ^ a) 2 (2 ^ b'), Nat.mul_comm 2 n, Nat.mul_assoc]
          obtain ⟨l, k1, k2⟩ := ih (i + 1) (by omega) a b' (n + n) ha (by omega) (by omega) hok t' g2
          refine ⟨l, Ev.succ ?_, by rw [← en]; exact k2⟩
          simp only [spec_l04Leaves.j1, ew]
          exact Ev.neg (fun h => cx (htt.mp h)) (Ev.pos (by omega) (Ev.pos (by omega) (Ev.bind g1 k1)))
        · rw [if_neg cy] at hok; simp at hok
    by_cases c : bt sch (i : Int) = 76
    · obtain ⟨l, k1, k2⟩ := step true ⟨fun _ => .inl (l4.mp (by rw [← ex]; exact c)), fun _ => rfl⟩
      refine ⟨l, Ev.succ ?_, k2⟩
      simp only [spec_l04Leaves.l0]
      exact Ev.pos (by omega) (Ev.pos (by omega) (Ev.pos c k1))
    · obtain ⟨l, k1, k2⟩ := step (bt sch (i : Int) == 82) (by
        constructor
        · intro hh; exact .inr (l5.mp (by rw [← ex]; simpa using hh))
        · rintro (hh | hh)
          · exact absurd (by rw [ex]; exact l4.mpr hh) c
          · rw [ex]; simpa using l5.mpr hh)
      refine ⟨l, Ev.succ ?_, k2⟩
      simp only [spec_l04Leaves.l0]
      exact Ev.pos (by omega) (Ev.pos (by omega) (Ev.neg c k1))
theorem spec_l04Leaves_ev {sch : ByteArray} (hs : sch.size ≤ 1048576) {a b : Int} (ha : sideLen a = true) (hb : sideLen b = true) (hok : schemeOk sch.data.toList (pow2 a) (pow2 b) = true) : ∃ l n, Ev (fun k => spec_l04Leaves.f k a b sch) l ∧ StackOk a b n l ∧ n ≤ 64 := by
 obtain ⟨_, la, qa⟩ := spec_l04Power_b a
 obtain ⟨_, lb, qb⟩ := spec_l04Power_b b
 have pa := two_pow_le la
 have pb := two_pow_le lb
 have ea := qa ha
 have eb := qb hb
 obtain ⟨t, h1, h2⟩ := spec_l04Start_ev (w := 2 ^ pow2 a) (h := 2 ^ pow2 b) (by omega) (by omega)
 rw [← ea, ← eb] at h1 h2
 have hm : 2 ^ pow2 a * 2 ^ pow2 b ≤ 8 * 8 := Nat.mul_le_mul pa pb
 obtain ⟨l, k1, k2⟩ := spec_l04Leaves_l0 (sch := sch) hs sch.size 0 (by omega) (pow2 a) (pow2 b) 1 la lb (by omega) (by rw [List.drop_zero]; exact hok) t h2
 refine ⟨l, _, ?_, k2, by omega⟩
 unfold spec_l04Leaves.f
 exact Ev.bind h1 k1
def has (l : List Int) (x : Int) : Bool := l.any (fun y => decide (y = x))
theorem spec_l01Has_l0 (l : List Int) (x : Int) (hl : l.length ≤ 9223372036854775806) : ∀ d i, i + d = l.length → Ev (fun k => spec_l01Has.l0 k l x (i : Int)) (has (l.drop i) x) := by
  intro d
  induction d with
  | zero =>
    intro i hi
    refine Ev.succ ?_
    simp only [spec_l01Has.l0]
    have : l.drop i = [] := List.drop_eq_nil_of_le (by omega)
    rw [this]
    exact Ev.neg (by omega) (Ev.eq rfl)
  | succ d ih =>
    intro i hi
    rw [getD_drop l 0 i (by omega)]
    have e1 : wrap64 ((i : Int) + 1) = ((i + 1 : Nat) : Int) := by rw [w64 (by omega) (by omega)]; omega
    refine Ev.succ ?_
    simp only [spec_l01Has.l0, rd_nat, e1]
    generalize l.getD i 0 = y
    refine Ev.pos (by omega) (Ev.pos (by omega) (Ev.ite (fun h => Ev.eq ?_) (fun h => (ih (i + 1) (by omega)).cast ?_)))
    · simp [has, h]
    · simp only [has, List.any_cons, decide_eq_false h, Bool.false_or]
theorem spec_l01Has_ev {l : List Int} (hl : l.length ≤ 9223372036854775806) (x : Int) : Ev (fun k => spec_l01Has.f k l x) (has l x) := by
 unfold spec_l01Has.f
 exact (spec_l01Has_l0 l x hl l.length 0 (by omega)).cast (by simp)
end Go.Proofs.YtokpepaoneiepaaGreatDoor.PL
end
