-- Gathered by this session's program wip/tool/shake.py out of its own texts and of what the kit's print and the session's patches of it wrote for this claim.
import Derived.Lib.AtoiTie
import Derived.Lib.ParseIntBCases
import Derived.Lib.ParseIntBTie
import Derived.Test.YtoiioapkebglgaaDoorCFnJournals13
import Derived.Test.YtoiioapkebglgaaDoorCFnJournals15
import Derived.Test.YtoiioapkebglgaaDoorCFnJournals16
import Derived.Test.YtoiioapkebglgaaDoorCFnJournals18
import Derived.Test.YtoiioapkebglgaaDoorCFnJournals21
import Derived.Test.YtoiioapkebglgaaDoorCFnJournals34
import Derived.Test.YtoiioapkebglgaaDoorCFnJournals35
import Derived.Test.YtoiioapkebglgaaDoorCFnJournals36
section
namespace Go.Proofs.YtoiioapkebglgaaDoor.PG
open Go.RowKit Go.Proofs.YtoiioapkebglgaaDoorW.PrintWords Go.Proofs.YtoiioapkebglgaaDoorB
set_option linter.unusedVariables false
set_option linter.unusedSimpArgs false
theorem decFrom_snoc : ∀ (l : List UInt8) (acc n : Nat) (b : UInt8) (d : Nat), Lib.decFrom acc l = some n → Lib.digitVal b = some d → Lib.decFrom acc (l ++ [b]) = some (n * 10 + d)
  | [], acc, n, b, d, h, hd => by
    simp only [Lib.decFrom, Option.some.injEq] at h
    subst h
    simp [Lib.decFrom, hd]
  | a :: t, acc, n, b, d, h, hd => by
    simp only [List.cons_append, Lib.decFrom] at h ⊢
    cases ha : Lib.digitVal a with
    | none => simp [ha] at h
    | some e =>
      simp only [ha] at h ⊢
      exact decFrom_snoc t _ n b d h hd
theorem digitVal_of {u : Nat} (h : u < 10) : Lib.digitVal (UInt8.ofNat (48 + u)) = some u := by
  unfold Lib.digitVal
  have e : (UInt8.ofNat (48 + u)).toNat = 48 + u := by rw [UInt8.toNat_ofNat', Nat.mod_eq_of_lt (by omega)]
  rw [e, if_pos (by omega)]
  congr 1; omega
theorem decFrom_digits (u : Nat) : Lib.decFrom 0 (Lib.decDigits u) = some u := by
  induction u using Nat.strongRecOn with
  | ind u ih =>
    rw [Lib.decDigits]
    by_cases h : u < 10
    · rw [dif_pos h]
      simp only [Lib.decFrom, digitVal_of h, Nat.zero_mul, Nat.zero_add]
    · rw [dif_neg h, decFrom_snoc _ _ _ _ _ (ih (u / 10) (by omega)) (digitVal_of (Nat.mod_lt u (by omega)))]
      congr 1; omega
theorem decDigits_ne (u : Nat) : Lib.decDigits u ≠ [] := by
  rw [Lib.decDigits]
  split <;> simp
theorem decNat_digits (u : Nat) : Lib.decNat (Lib.decDigits u) = some u := by
  unfold Lib.decNat
  rw [if_neg (by cases h : Lib.decDigits u with
    | nil => exact absurd h (decDigits_ne u)
    | cons => simp)]
  exact decFrom_digits u
/-- A number in its own text, of at most ten digits. -/
def numD (l : List UInt8) : Option Nat := if l.length ≤ 10 then (match Lib.decNat l with
  | some u => if Lib.decDigits u = l then some u else none
  | none => none) else none
theorem numD_some {l : List UInt8} {u : Nat} (h : numD l = some u) : l.length ≤ 10 ∧ Lib.decNat l = some u ∧ Lib.decDigits u = l := by
  unfold numD at h
  split at h
  · rename_i h1
    split at h
    · rename_i v h2
      split at h
      · rename_i h3
        have := Option.some.inj h
        subst this
        exact ⟨h1, h2, h3⟩
      · cases h
    · cases h
  · cases h
theorem numD_of {u : Nat} (h : (Lib.decDigits u).length ≤ 10) : numD (Lib.decDigits u) = some u := by
  unfold numD
  rw [if_pos h, decNat_digits]
  exact if_pos rfl
theorem itoa_eq_nat {v : Int} (h : 0 ≤ v) : Lib.itoa v = Lib.decDigits v.toNat := by unfold Lib.itoa; rw [if_neg (by omega)]
theorem decOf_some {s : ByteArray} {v : Int} (hl : s.size ≤ 10) (h0 : 0 ≤ v) (he : Lib.decDigits v.toNat = s.data.toList) : decOf s v = (v, true) := by
  unfold decOf
  rw [if_neg (by omega), if_neg (by omega), if_pos]
  rw [Lib.toList_data, Lib.toList_data, itoaB_data, itoa_eq_nat h0, he]
theorem decOf_none {s : ByteArray} {v : Int} (h : s.size ≤ 10 → 0 ≤ v → ¬ Lib.decDigits v.toNat = s.data.toList) : decOf s v = (0, false) := by
  unfold decOf
  split
  · rfl
  split
  · rfl
  rw [if_neg]
  intro he
  rw [Lib.toList_data, Lib.toList_data, itoaB_data, itoa_eq_nat (by omega)] at he
  exact h (by omega) (by omega) he
theorem impl_readDecimal_eq {s : ByteArray} (hs : s.size ≤ 1048576) : impl_readDecimal.f s = some (match numD s.data.toList with | some u => ((u : Int), true) | none => (0, false)) := by
  have hsz : s.data.toList.length = s.size := data_length s
  unfold impl_readDecimal.f
  rw [if_pos (by omega)]
  cases hn : numD s.data.toList with
  | some u =>
    obtain ⟨h1, h2, h3⟩ := numD_some hn
    have hp : Lib.parseIntB 64 s.data.toList = .ok (u : Int) := by
      cases hl : s.data.toList with
      | nil => rw [hl] at h2; cases h2
      | cons c r =>
        rw [hl] at h2 h1
        have h4 : Lib.decFrom 0 (c :: r) = some u := by
          unfold Lib.decNat at h2
          rw [if_neg (by simp)] at h2
          exact h2
        obtain ⟨d, hd⟩ := Lib.digit_of_decFrom _ _ _ h4 0 c rfl
        have hc : 48 ≤ c.toNat := by
          unfold Lib.digitVal at hd
          split at hd
          · omega
          · cases hd
        rw [Lib.parseIntB_plain 64 c r (by omega) (by omega), Lib.parseUintB_64, Lib.parseMag_short _ (by omega), h2]
        have hu := Lib.decNat_small (l := c :: r) (by omega) h2
        simp only [Lib.NumEnd.ofOption, Lib.signlessC]
        rw [if_neg (by omega)]
    have hu := Lib.decNat_small (l := s.data.toList) (by omega) h2
    rw [hp]
    simp only
    rw [if_pos ⟨by omega, by omega⟩, decOf_some (by omega) (by omega) (by simpa using h3)]
  | none =>
    cases hp : Lib.parseIntB 64 s.data.toList
    · rename_i v
      have hb := Lib.parseIntB_bounds hp
      simp only
      rw [if_pos ⟨by omega, by omega⟩]
      congr 1
      refine decOf_none fun h1 h2 h3 => ?_
      have h4 := numD_of (u := v.toNat) (by rw [h3]; omega)
      rw [h3, hn] at h4
      cases h4
    · rfl
    · rfl
theorem digit_small {c : UInt8} {d : Nat} (h : Lib.digitVal c = some d) : (¬ (c.toNat : Int) < 48) ∧ (¬ (c.toNat : Int) > 57) ∧ ((c.toNat : Int) - 48) % 256 = (d : Int) ∧ d ≤ 9 := by
  unfold Lib.digitVal at h
  split at h
  · have := Option.some.inj h
    omega
  · cases h
theorem digit_not {c : UInt8} (h : Lib.digitVal c = none) : (c.toNat : Int) < 48 ∨ (c.toNat : Int) > 57 := by
  unfold Lib.digitVal at h
  split at h
  · cases h
  · omega
def tenTo : Nat → Nat
  | 0 => 1
  | i + 1 => tenTo i * 10
theorem tenTo_le (i : Nat) (h : i ≤ 10) : tenTo i ≤ 10000000000 := (by decide : ∀ j : Fin 11, tenTo j.val ≤ 10000000000) ⟨i, by omega⟩
theorem tenTo_step {n e i : Nat} (hn : n < tenTo i) (he : e ≤ 9) : n * 10 + e < tenTo (i + 1) := by
  show n * 10 + e < tenTo i * 10
  generalize tenTo i = q at hn
  omega
theorem spec_l01Digits_l0 (s : ByteArray) (hs : s.size ≤ 10) : ∀ d i, i + d = s.data.toList.length → ∀ n : Nat, n < tenTo i →
    Ev (fun k => spec_l01Digits.l0 k s (n : Int) (i : Int)) (match Lib.decFrom n (s.data.toList.drop i) with | some u => ((u : Int), decide (Lib.decDigits u = s.data.toList)) | none => (0, false)) := by
  have hsz : s.data.toList.length = s.size := data_length s
  intro d
  induction d with
  | zero =>
    intro i hi n hn
    have hp := tenTo_le i (by omega)
    rw [List.drop_of_length_le (by omega)]
    simp only [Lib.decFrom]
    refine Ev.succ ?_
    simp only [spec_l01Digits.l0]
    refine Ev.neg (by omega) (Ev.bind (spec_l01Dec_ev (by omega) (by omega)) (Ev.eq ?_))
    congr 2
    rw [Bool.eq_iff_iff]
    simp only [beq_iff_eq, decide_eq_true_eq]
    rw [Lib.toList_data, Lib.toList_data, itoaB_data, itoa_eq_nat (by omega), Int.toNat_natCast]
  | succ d ih =>
    intro i hi n hn
    have hlt : i < s.data.toList.length := by omega
    have hp := tenTo_le (i + 1) (by omega)
    have e11 : tenTo (i + 1) = tenTo i * 10 := rfl
    have hb := bt_get' s i hlt
    rw [List.drop_eq_getElem_cons hlt]
    generalize (s.data.toList)[i] = c at hb
    have e1 : wrap64 ((i : Int) + 1) = ((i + 1 : Nat) : Int) := by rw [w64 (by omega) (by omega)]; omega
    refine Ev.succ ?_
    simp only [spec_l01Digits.l0, hb, e1, Lib.decFrom]
    refine Ev.pos (by omega) (Ev.pos (by omega) ?_)
    cases hd : Lib.digitVal c with
    | none =>
      rcases digit_not hd with h | h
      · exact Ev.pos h (Ev.eq rfl)
      · exact Ev.neg (by omega) (Ev.pos h (Ev.eq rfl))
    | some e =>
      obtain ⟨h1, h2, h3, h4⟩ := digit_small hd
      have hsm : n * 10 + e < 10000000000 := Nat.lt_of_lt_of_le (tenTo_step hn h4) hp
      clear hp e11
      have e2 : wrap64 (10 * (n : Int)) = 10 * (n : Int) := w64 (by omega) (by omega)
      have e3 : wrap64 (10 * (n : Int) + (e : Int)) = ((n * 10 + e : Nat) : Int) := by rw [w64 (by omega) (by omega)]; omega
      have h5 := ih (i + 1) (by omega) (n * 10 + e) (tenTo_step hn h4)
      clear ih hn
      simp only [h3, e2, e3]
      exact Ev.neg h1 (Ev.neg h2 h5)
/-- What l01Digits gives: a number, and whether the text is its own. -/
theorem spec_l01Digits_ev (s : ByteArray) : ∃ n : Int, Ev (fun k => spec_l01Digits.f k s) (n, (numD s.data.toList).isSome) ∧ ∀ u, numD s.data.toList = some u → n = (u : Int) := by
  have hsz : s.data.toList.length = s.size := data_length s
  unfold spec_l01Digits.f
  by_cases c1 : (s.size : Int) < 1
  · have hl : s.data.toList = [] := List.length_eq_zero_iff.1 (by omega)
    refine ⟨0, Ev.pos c1 (Ev.succ ?_), fun u h => ?_⟩
    · simp only [spec_l01Digits.j0]
      rw [hl]
      exact Ev.pos trivial (Ev.eq rfl)
    · rw [hl] at h; cases h
  · by_cases c2 : (s.size : Int) > 10
    · have hn : numD s.data.toList = none := if_neg (by omega)
      refine ⟨0, Ev.neg c1 (Ev.succ ?_), fun u h => ?_⟩
      · simp only [spec_l01Digits.j0]
        rw [hn]
        exact Ev.pos (decide_eq_true c2) (Ev.eq rfl)
      · rw [hn] at h; cases h
    · have h0 := spec_l01Digits_l0 s (by omega) s.data.toList.length 0 (by omega) 0 (by decide)
      rw [List.drop_zero] at h0
      have hdn : Lib.decNat s.data.toList = Lib.decFrom 0 s.data.toList := by
        unfold Lib.decNat
        rw [if_neg]
        intro h
        rw [List.isEmpty_iff] at h
        rw [h] at hsz
        simp at hsz
        omega
      have hnum : numD s.data.toList = match Lib.decFrom 0 s.data.toList with
        | some u => if Lib.decDigits u = s.data.toList then some u else none
        | none => none := by
        unfold numD
        rw [if_pos (by omega), hdn]
      cases hd : Lib.decFrom 0 s.data.toList with
      | none =>
        rw [hd] at h0 hnum
        refine ⟨0, Ev.neg c1 (Ev.succ ?_), fun u h => ?_⟩
        · simp only [spec_l01Digits.j0]
          rw [hnum]
          exact Ev.neg (by simpa using c2) h0
        · rw [hnum] at h; cases h
      | some v =>
        rw [hd] at h0 hnum
        refine ⟨(v : Int), Ev.neg c1 (Ev.succ ?_), fun u h => ?_⟩
        · simp only [spec_l01Digits.j0]
          refine Ev.neg (by simpa using c2) (h0.cast ?_)
          simp only [hnum]
          by_cases h : Lib.decDigits v = s.data.toList
          · simp [h]
          · simp [h]
        · simp only [hnum] at h
          split at h
          · have := Option.some.inj h; rw [this]
          · cases h
end Go.Proofs.YtoiioapkebglgaaDoor.PG
end
section
namespace Go.Proofs.YtoiioapkebglgaaDoor.PG
open Go.RowKit Go.Proofs.YtoiioapkebglgaaDoorW.PrintWords Go.Proofs.YtoiioapkebglgaaDoorB
set_option linter.unusedVariables false
set_option linter.unusedSimpArgs false
theorem splitL_join {c : UInt8} : ∀ (x y : List UInt8) (R : List (List UInt8)) (q : List UInt8), splitL c x = R ++ [q] → splitL c (x ++ y) = R ++ inFront q (splitL c y)
  | [], y, R, q, h => by
    have h1 : ([[]] : List (List UInt8)) = R ++ [q] := h
    cases R with
    | nil =>
      have hq : q = [] := by simpa using h1.symm
      subst hq
      rw [List.nil_append, List.nil_append, inFront_nil (splitL_ne c y)]
    | cons r R =>
      exfalso
      have := congrArg List.length h1
      simp at this
  | b :: l, y, R, q, h => by
    by_cases hb : b = c
    · subst hb
      rw [splitL_cons_eq] at h
      cases R with
      | nil =>
        exfalso
        have h2 : splitL b l = [] := by simpa using congrArg List.tail h
        exact splitL_ne b l h2
      | cons r R =>
        obtain ⟨e1, e2⟩ := List.cons.inj h
        subst e1
        rw [List.cons_append, splitL_cons_eq, splitL_join l y R q e2]
        rfl
    · rw [splitL_cons_ne hb] at h
      rw [List.cons_append, splitL_cons_ne hb]
      cases hs : splitL c l with
      | nil => exact absurd hs (splitL_ne c l)
      | cons x0 xs =>
        rw [hs] at h
        have h' : (b :: x0) :: xs = R ++ [q] := h
        cases R with
        | nil =>
          obtain ⟨e1, e2⟩ := List.cons.inj h'
          subst e2
          rw [splitL_join l y [] x0 (by rw [hs]; rfl), ← e1]
          rw [List.nil_append, List.nil_append, inFront_inFront _ _ _ (splitL_ne c y)]
          rfl
        | cons r R =>
          obtain ⟨e1, e2⟩ := List.cons.inj h'
          subst e1
          rw [splitL_join l y (x0 :: R) q (by rw [hs, e2]; rfl)]
          rfl
theorem digits_byte {u : Nat} {x : UInt8} (h : x ∈ Lib.decDigits u) : 48 ≤ x.toNat ∧ x.toNat ≤ 57 := by
  obtain ⟨j, hj, rfl⟩ := List.getElem_of_mem h
  obtain ⟨d, hd⟩ := Lib.digit_of_decFrom _ _ _ (decFrom_digits u) j _ (List.getElem?_eq_getElem hj)
  unfold Lib.digitVal at hd
  split at hd
  · assumption
  · cases hd
theorem decDigits_short : ∀ (k u : Nat), u < tenTo (k + 1) → (Lib.decDigits u).length ≤ k + 1
  | 0, u, h => by
    rw [Lib.decDigits, dif_pos (by simpa [tenTo] using h)]
    simp
  | k + 1, u, h => by
    rw [Lib.decDigits]
    split
    · simp
    · have e : tenTo (k + 1 + 1) = tenTo (k + 1) * 10 := rfl
      have := decDigits_short k (u / 10) (by omega)
      simp only [List.length_append, List.length_cons, List.length_nil]
      omega
theorem splitL_piece (c : UInt8) : ∀ (l x : List UInt8), x ∈ splitL c l → x.length ≤ l.length
  | [], x, h => by
    have : x = [] := by simpa [splitL] using h
    rw [this]; simp
  | b :: l, x, h => by
    by_cases hb : b = c
    · subst hb
      rw [splitL_cons_eq] at h
      rcases List.mem_cons.1 h with rfl | h
      · simp
      · have := splitL_piece b l x h
        simp only [List.length_cons]; omega
    · rw [splitL_cons_ne hb] at h
      cases hs : splitL c l with
      | nil => exact absurd hs (splitL_ne c l)
      | cons y ys =>
        rw [hs] at h
        have h' : x ∈ (b :: y) :: ys := h
        rcases List.mem_cons.1 h' with rfl | h'
        · have := splitL_piece c l y (by rw [hs]; simp)
          simp only [List.length_cons]; omega
        · have := splitL_piece c l x (by rw [hs]; simp [h'])
          simp only [List.length_cons]; omega
theorem rdOf_bas (ls : List (List UInt8)) (i : Nat) (h : i < ls.length) : rdOf ByteArray.empty (bas ls) (i : Int) = ⟨(ls[i]).toArray⟩ := by
  unfold rdOf bas
  rw [Int.toNat_natCast, List.getD, List.getElem?_eq_getElem (by rw [List.length_map]; exact h), List.getElem_map]
  rfl
theorem mk_list (w : List UInt8) : (⟨w.toArray⟩ : ByteArray).data.toList = w := by simp
theorem mk_size (w : List UInt8) : (⟨w.toArray⟩ : ByteArray).size = w.length := by rw [← data_length, mk_list]
theorem wrap_next {j : Nat} (h : j + 1 ≤ 9223372036854775807) : wrap64 ((j : Int) + 1) = ((j + 1 : Nat) : Int) := by
  rw [w64 (by omega) (by omega)]
  omega
end Go.Proofs.YtoiioapkebglgaaDoor.PG
end
section
namespace Go.Proofs.YtoiioapkebglgaaDoor.PG
open Go.RowKit Go.Proofs.YtoiioapkebglgaaDoorW.PrintWords Go.Proofs.YtoiioapkebglgaaDoorB
set_option linter.unusedVariables false
set_option linter.unusedSimpArgs false
theorem line_data (a b i : Int) : (lineB a b i).data.toList = Lib.itoa a ++ (32 :: (Lib.itoa b ++ (32 :: Lib.itoa (checkOf a b i)))) := by
  simp only [lineB, ByteArray.data_append, Array.toList_append, itoaB_data, List.append_assoc, List.cons_append, List.nil_append]
theorem digits_no {u : Nat} {c : UInt8} (hc : c.toNat < 48) : c ∉ Lib.decDigits u := fun hx => by
  have := digits_byte hx
  omega
theorem three_words (a b c : Nat) : splitL 32 (Lib.decDigits a ++ (32 :: (Lib.decDigits b ++ (32 :: Lib.decDigits c)))) = [Lib.decDigits a, Lib.decDigits b, Lib.decDigits c] := by
  have h (u : Nat) : (32 : UInt8) ∉ Lib.decDigits u := digits_no (by decide)
  rw [splitL_app _ _ (h a), splitL_cons_eq, splitL_app _ _ (h b), splitL_cons_eq, splitL_none (h c)]
  simp [inFront]
theorem checkOf_nonneg {a b i : Int} (ha : 1 ≤ a ∧ a ≤ 4) (hb : 0 ≤ b ∧ b ≤ 1000000000) (hi : 0 ≤ i ∧ i ≤ 1048576) : 0 ≤ checkOf a b i := by
  unfold checkOf
  have e1 : wrap64 (7 * a) = 7 * a := w64 (by omega) (by omega)
  have e2 : wrap64 (3 * b) = 3 * b := w64 (by omega) (by omega)
  have e3 : wrap64 (11 * i) = 11 * i := w64 (by omega) (by omega)
  have e4 : wrap64 (7 * a + 3 * b) = 7 * a + 3 * b := w64 (by omega) (by omega)
  have e5 : wrap64 (7 * a + 3 * b + 11 * i) = 7 * a + 3 * b + 11 * i := w64 (by omega) (by omega)
  rw [e1, e2, e3, e4, e5]
  exact Int.tmod_nonneg _ (by omega)
theorem num_small {a : Int} (h0 : 0 ≤ a) (h1 : a ≤ 1000000000) : numD (Lib.decDigits a.toNat) = some a.toNat := by
  refine numD_of (decDigits_short 9 _ ?_)
  have e : tenTo (9 + 1) = 10000000000 := by decide
  omega
/-- A state. -/
abbrev Mach := Int × Int × Int × Int
/-- A line is the line of an entry that is possible at a state. -/
def takes (m : Mach) (i : Nat) (l : List UInt8) (p : S70 × Mach) : Prop := stepM m.1 m.2.1 m.2.2.1 m.2.2.2 p.1.f0 p.1.f1 = some p.2 ∧ (lineB p.1.f0 p.1.f1 (i : Int)).data.toList = l
theorem takes_words {m : Mach} {i : Nat} {l : List UInt8} {p : S70 × Mach} (h : takes m i l p) (hi : i ≤ 1048576) : splitL 32 l = [Lib.decDigits p.1.f0.toNat, Lib.decDigits p.1.f1.toNat, Lib.decDigits (checkOf p.1.f0 p.1.f1 (i : Int)).toNat] := by
  obtain ⟨h1, h2⟩ := h
  obtain ⟨h3, h4⟩ := stepM_kind h1
  have h5 := checkOf_nonneg (i := (i : Int)) h4 h3 (by omega)
  rw [← h2, line_data, itoa_eq_nat (v := p.1.f0) (by omega), itoa_eq_nat (v := p.1.f1) (by omega), itoa_eq_nat h5, three_words]
theorem digits_inj {u v : Nat} (h : Lib.decDigits u = Lib.decDigits v) : u = v := by
  have h1 := decFrom_digits u
  rw [h, decFrom_digits v] at h1
  exact (Option.some.inj h1).symm
theorem takes_unique {m : Mach} {i : Nat} {l : List UInt8} {p q : S70 × Mach} (h : takes m i l p) (h' : takes m i l q) (hi : i ≤ 1048576) : p = q := by
  have e := takes_words h hi
  rw [takes_words h' hi] at e
  obtain ⟨h1, h2⟩ := h
  obtain ⟨h1', h2'⟩ := h'
  obtain ⟨h3, h4⟩ := stepM_kind h1
  obtain ⟨h3', h4'⟩ := stepM_kind h1'
  simp only [List.cons.injEq] at e
  have e0 := digits_inj e.1
  have e1 := digits_inj e.2.1
  obtain ⟨⟨p0, p1⟩, pm⟩ := p
  obtain ⟨⟨q0, q1⟩, qm⟩ := q
  simp only at h1 h1' h3 h4 h3' h4' e0 e1
  have f0 : p0 = q0 := by omega
  have f1 : p1 = q1 := by omega
  subst f0
  subst f1
  rw [h1] at h1'
  rw [Option.some.inj h1']
open Classical in
/-- What is taken of lines: entries and the state after them. -/
noncomputable def recL (m : Mach) (i : Nat) : List (List UInt8) → List S70 × Mach
  | [] => ([], m)
  | l :: ls => if i = 200 then ([], m) else if h : ∃ p, takes m i l p then ((Classical.choose h).1 :: (recL (Classical.choose h).2 (i + 1) ls).1, (recL (Classical.choose h).2 (i + 1) ls).2) else ([], m)
theorem recL_full (m : Mach) (ls : List (List UInt8)) : recL m 200 ls = ([], m) := by
  cases ls with
  | nil => rfl
  | cons l ls => unfold recL; rw [if_pos rfl]
theorem recL_take {m : Mach} {i : Nat} {l : List UInt8} {ls : List (List UInt8)} {p : S70 × Mach} (hi : i < 200) (h : takes m i l p) : recL m i (l :: ls) = (p.1 :: (recL p.2 (i + 1) ls).1, (recL p.2 (i + 1) ls).2) := by
  have hx : ∃ p, takes m i l p := ⟨p, h⟩
  have e : Classical.choose hx = p := takes_unique (Classical.choose_spec hx) h (by omega)
  rw [recL, if_neg (by omega), dif_pos hx, e]
theorem recL_stop {m : Mach} {i : Nat} {l : List UInt8} {ls : List (List UInt8)} (h : ¬ ∃ p, takes m i l p) : recL m i (l :: ls) = ([], m) := by
  rw [recL, dif_neg h]
  split <;> rfl
theorem recL_len : ∀ (ls : List (List UInt8)) (m : Mach) (i : Nat), i ≤ 200 → (recL m i ls).1.length + i ≤ 200
  | [], m, i, h => by simp [recL, h]
  | l :: ls, m, i, h => by
    by_cases hi : i = 200
    · subst hi
      rw [recL_full]; simp
    · by_cases hx : ∃ p, takes m i l p
      · obtain ⟨p, hp⟩ := hx
        rw [recL_take (by omega) hp]
        have := recL_len ls p.2 (i + 1) (by omega)
        simp only [List.length_cons]
        omega
      · rw [recL_stop hx]
        simp only [List.length_nil]
        omega
end Go.Proofs.YtoiioapkebglgaaDoor.PG
end
section
namespace Go.Proofs.YtoiioapkebglgaaDoor.PG
open Go.RowKit Go.Proofs.YtoiioapkebglgaaDoorW.PrintWords Go.Proofs.YtoiioapkebglgaaDoorB
set_option linter.unusedVariables false
set_option linter.unusedSimpArgs false
theorem dig_ex (l : List UInt8) : ∃ n : Int, Ev (fun k => spec_l01Digits.f k ⟨l.toArray⟩) (n, (numD l).isSome) ∧ ∀ u, numD l = some u → n = (u : Int) := by
  have h := spec_l01Digits_ev ⟨l.toArray⟩
  rw [mk_list] at h
  exact h
/-- A word, read as a number that may bear a sign. -/
theorem spec_l01Signed_ev (l : List UInt8) : ∃ r : Int × Bool, Ev (fun k => spec_l01Signed.f k ⟨l.toArray⟩) r ∧ ∀ u, numD l = some u → r = ((u : Int), true) := by
  have plain : ∃ r : Int × Bool, Ev (fun k => spec_l01Signed.j0 k ⟨l.toArray⟩ false) r ∧ ∀ u, numD l = some u → r = ((u : Int), true) := by
    obtain ⟨n, h1, h2⟩ := dig_ex l
    refine ⟨(n, (numD l).isSome), ?_, fun u hu => ?_⟩
    · refine Ev.succ ?_
      simp only [spec_l01Signed.j0]
      exact Ev.neg (by simp) (Ev.bind h1 (Ev.eq rfl))
    · rw [h2 u hu, hu]; rfl
  unfold spec_l01Signed.f
  cases l with
  | nil =>
    obtain ⟨r, h1, h2⟩ := plain
    exact ⟨r, Ev.neg (by rw [mk_size]; simp) h1, h2⟩
  | cons c t =>
    have hsz : (⟨(c :: t).toArray⟩ : ByteArray).size = t.length + 1 := by rw [mk_size]; rfl
    have hb : bt (⟨(c :: t).toArray⟩ : ByteArray) 0 = (c.toNat : Int) := by
      have h := bt_get' ⟨(c :: t).toArray⟩ 0 (by rw [mk_list]; simp)
      simpa using h
    by_cases hc : c = 45
    · subst hc
      obtain ⟨n, h1, h2⟩ := dig_ex t
      have hex : (⟨((45 : UInt8) :: t).toArray⟩ : ByteArray).extract 1 (⟨((45 : UInt8) :: t).toArray⟩ : ByteArray).size = ⟨t.toArray⟩ := by
        rw [extract_list, mk_list, mk_size]
        simp
      have hno : ∀ u, ¬ numD ((45 : UInt8) :: t) = some u := fun u hu => by
        obtain ⟨_, _, h3⟩ := numD_some hu
        have := digits_byte (u := u) (x := 45) (by rw [h3]; simp)
        simp at this
      have e45 : (bt (⟨((45 : UInt8) :: t).toArray⟩ : ByteArray) 0 == 45) = true := by rw [hb]; rfl
      refine ⟨if (numD t).isSome = true then (wrap64 (-n), decide (n > 0)) else (wrap64 (-n), false), ?_, fun u hu => absurd hu (hno u)⟩
      refine Ev.pos (by rw [hsz]; omega) (Ev.pos (by rw [hsz]; omega) ?_)
      rw [e45]
      refine Ev.succ ?_
      simp only [spec_l01Signed.j0]
      rw [hex]
      exact Ev.pos trivial (Ev.pos (by rw [hsz]; omega) (Ev.bind h1 (Ev.ite (fun c => Ev.eq (by rw [if_pos c])) (fun c => Ev.eq (by rw [if_neg c])))))
    · have e45 : (bt (⟨(c :: t).toArray⟩ : ByteArray) 0 == 45) = false := by
        rw [hb, beq_eq_false_iff_ne]
        intro h
        exact hc ((byteOf 45 c).1 (by rw [h]; rfl))
      obtain ⟨r, h1, h2⟩ := plain
      refine ⟨r, Ev.pos (by rw [hsz]; omega) (Ev.pos (by rw [hsz]; omega) ?_), h2⟩
      rw [e45]
      exact h1
theorem spec_l01Numbers_l0 (ws : List (List UInt8)) (hl : ws.length ≤ 1048577) : ∀ d i, i + d = ws.length → ∀ out : List Int, out.length ≤ i →
    ∃ r : List Int × Bool, Ev (fun k => spec_l01Numbers.l0 k (bas ws) out (i : Int)) r ∧ ∀ us : List Nat, (ws.drop i).map numD = us.map some → r = (out ++ us.map (fun u : Nat => (u : Int)), true) := by
  have hbl := bas_length ws
  intro d
  induction d with
  | zero =>
    intro i hi out ho
    refine ⟨(out, true), Ev.succ ?_, fun us hu => ?_⟩
    · simp only [spec_l01Numbers.l0]
      exact Ev.neg (by omega) (Ev.eq rfl)
    · rw [List.drop_of_length_le (by omega)] at hu
      cases us with
      | nil => simp
      | cons u us => cases hu
  | succ d ih =>
    intro i hi out ho
    have hlt : i < ws.length := by omega
    have hw := rdOf_bas ws i hlt
    have hdr := List.drop_eq_getElem_cons hlt
    generalize (ws)[i] = w at hw hdr
    obtain ⟨v, h1, h2⟩ := spec_l01Signed_ev w
    have e1 : wrap64 ((i : Int) + 1) = ((i + 1 : Nat) : Int) := wrap_next (by omega)
    by_cases hv : v.2 = true
    · obtain ⟨r, h3, h4⟩ := ih (i + 1) (by omega) (out ++ [v.1]) (by rw [List.length_append, List.length_singleton]; omega)
      refine ⟨r, Ev.succ ?_, fun us hu => ?_⟩
      · simp only [spec_l01Numbers.l0, hw, e1]
        exact Ev.pos (by omega) (Ev.pos (by omega) (Ev.bind h1 (Ev.pos hv (Ev.pos (by omega) h3))))
      · rw [hdr] at hu
        cases us with
        | nil => cases hu
        | cons u us =>
          simp only [List.map_cons, List.cons.injEq] at hu
          rw [h4 us hu.2, h2 u hu.1]
          simp
    · refine ⟨([], false), Ev.succ ?_, fun us hu => ?_⟩
      · simp only [spec_l01Numbers.l0, hw, e1]
        exact Ev.pos (by omega) (Ev.pos (by omega) (Ev.bind h1 (Ev.neg hv (Ev.eq rfl))))
      · rw [hdr] at hu
        cases us with
        | nil => cases hu
        | cons u us =>
          simp only [List.map_cons, List.cons.injEq] at hu
          rw [h2 u hu.1] at hv
          exact absurd rfl hv
theorem spec_l01Numbers_ev (ws : List (List UInt8)) (hl : ws.length ≤ 1048577) : ∃ r : List Int × Bool, Ev (fun k => spec_l01Numbers.f k (bas ws)) r ∧ ∀ us : List Nat, ws.map numD = us.map some → r = (us.map (fun u : Nat => (u : Int)), true) := by
  obtain ⟨r, h1, h2⟩ := spec_l01Numbers_l0 ws hl ws.length 0 (by omega) [] (by simp)
  exact ⟨r, h1, h2⟩
/-- The numbers of a line that is taken. -/
theorem takes_nums {m : Mach} {i : Nat} {l : List UInt8} {p : S70 × Mach} (h : takes m i l p) (hi : i ≤ 1048576) : (splitL 32 l).map numD = [p.1.f0.toNat, p.1.f1.toNat, (checkOf p.1.f0 p.1.f1 (i : Int)).toNat].map some ∧ 1 ≤ p.1.f0 ∧ p.1.f0 ≤ 4 ∧ 0 ≤ p.1.f1 ∧ p.1.f1 ≤ 1000000000 := by
  have hw := takes_words h hi
  obtain ⟨h3, h4⟩ := stepM_kind h.1
  have h5 := checkOf_nonneg (i := (i : Int)) h4 h3 (by omega)
  have h6 := checkOf_range p.1.f0 p.1.f1 (i : Int)
  refine ⟨?_, h4.1, h4.2, h3.1, h3.2⟩
  rw [hw]
  simp only [List.map_cons, List.map_nil]
  rw [num_small (a := p.1.f0) (by omega) (by omega), num_small (a := p.1.f1) (by omega) (by omega), num_small h5 (by omega)]
theorem ba_eq_iff {a b : ByteArray} : a.toList = b.toList ↔ a.data.toList = b.data.toList := by rw [Lib.toList_data, Lib.toList_data]
theorem spec_l29Recover_l0 (L : List (List UInt8)) (M : Nat) (hM : L.length = M + 1) (hL : M ≤ 1048576) (hW : ∀ w ∈ L, w.length ≤ 1048576) : ∀ d i, i + d = M → ∀ (out : List S70) (a b c e : Int), i ≤ 200 → out.length = i → machOk a b c e = true →
    Ev (fun k => spec_l29Recover.l0 k (bas L) out (i : Int) a b c e) (out ++ (recL (a, b, c, e) i (L.dropLast.drop i)).1) := by
  have hbl := bas_length L
  have hdl : L.dropLast.length = M := by rw [List.length_dropLast, hM, Nat.add_sub_cancel]
  intro d
  induction d with
  | zero =>
    intro i hi out a b c e h200 ho hm
    have e1 : wrap64 ((i : Int) + 1) = ((i + 1 : Nat) : Int) := wrap_next (by omega)
    rw [List.drop_of_length_le (by omega)]
    refine Ev.succ ?_
    simp only [spec_l29Recover.l0, e1]
    refine Ev.neg (by omega) (Ev.succ ?_)
    simp only [spec_l29Recover.j1]
    exact Ev.neg (by simp) (Ev.eq (by simp [recL]))
  | succ d ih =>
    intro i hi out a b c e h200 ho hm
    have e1 : wrap64 ((i : Int) + 1) = ((i + 1 : Nat) : Int) := wrap_next (by omega)
    have hlt : i < L.dropLast.length := by omega
    have hlt2 : i < L.length := by omega
    have hw := rdOf_bas L i hlt2
    have hwl := hW _ (List.getElem_mem hlt2)
    have hel : L.dropLast[i] = L[i] := List.getElem_dropLast hlt
    have hih := ih (i + 1) (by omega)
    rw [List.drop_eq_getElem_cons hlt, hel]
    generalize (L)[i] = l at hw hwl
    refine Ev.succ ?_
    simp only [spec_l29Recover.l0, e1]
    refine Ev.pos (by omega) (Ev.succ ?_)
    by_cases hi2 : i = 200
    · subst hi2
      rw [recL_full]
      simp only [spec_l29Recover.j1]
      exact Ev.neg (by simp) (Ev.eq (by simp))
    have hsp := spec_l01Split_ev ⟨l.toArray⟩ 32 (by rw [mk_size]; omega)
    rw [mk_list] at hsp
    have hcl := splitL_length 32 l
    have hcc : l.count 32 ≤ l.length := List.count_le_length
    obtain ⟨⟨ns, ok⟩, h1, h2⟩ := spec_l01Numbers_ev (splitL 32 l) (by omega)
    simp only [spec_l29Recover.j1, hw]
    have g1 : (0 : Int) ≤ (i : Int) := by omega
    have g2 : (i : Int) < ((bas L).length : Int) := by omega
    have gd : decide ((i : Int) < 200) = true := decide_eq_true (by omega)
    by_cases hx : ∃ p, takes (a, b, c, e) i l p
    · obtain ⟨p, hp⟩ := hx
      obtain ⟨n1, n2, n3, n4, n5⟩ := takes_nums hp (by omega)
      obtain ⟨rfl, rfl⟩ := Prod.mk.inj (h2 _ n1)
      obtain ⟨⟨x0, x1⟩, pm⟩ := p
      obtain ⟨hs, hln⟩ := hp
      simp only at n2 n3 n4 n5 hs hln
      obtain ⟨r, k1, k2⟩ := spec_l29Make_eq (k := x0) (v := x1) hm
      rw [hs] at k2
      simp only [Tells] at k2
      subst k2
      have f0 : ((x0.toNat : Nat) : Int) = x0 := by omega
      have f1 : ((x1.toNat : Nat) : Int) = x1 := by omega
      rw [recL_take (by omega) (p := (⟨x0, x1⟩, pm)) ⟨hs, hln⟩]
      have h3 := hih (out ++ [⟨x0, x1⟩]) pm.1 pm.2.1 pm.2.2.1 pm.2.2.2 (by omega) (by rw [List.length_append, List.length_singleton, ho]) (stepM_ok hm hs)
      have hline := spec_l29Line_ev (a := x0) (b := x1) (i := (i : Int)) (by omega) (by omega)
      refine Ev.pos gd (Ev.pos g1 (Ev.pos g2 (Ev.bind hsp (Ev.bind h1 (Ev.pos rfl (Ev.succ ?_))))))
      simp only [spec_l29Recover.j2, List.map_cons, List.map_nil, f0, f1]
      refine Ev.neg (by simp) (Ev.pos (by simp) (Ev.pos (by simp) ?_))
      have rd0 : rd [x0, x1, (((checkOf x0 x1 (i : Int)).toNat : Nat) : Int)] 0 = x0 := rfl
      have rd1 : rd [x0, x1, (((checkOf x0 x1 (i : Int)).toNat : Nat) : Int)] 1 = x1 := rfl
      simp only [rd0, rd1, hw, e1]
      refine Ev.bind (Ev.eq k1) (Ev.pos rfl (Ev.bind hline (Ev.pos g1 (Ev.pos g2 (Ev.pos ?_ (Ev.pos (by omega) (h3.cast ?_)))))))
      · rw [ba_eq_iff, mk_list]; exact hln
      · simp
    · rw [recL_stop hx, List.append_nil]
      refine Ev.pos gd (Ev.pos g1 (Ev.pos g2 (Ev.bind hsp (Ev.bind h1 ?_))))
      by_cases hok : ok = true
      · refine Ev.pos hok (Ev.succ ?_)
        simp only [spec_l29Recover.j2]
        by_cases hn : ns.length = 3
        · obtain ⟨r, k1, k2⟩ := spec_l29Make_eq (k := rd ns 0) (v := rd ns 1) hm
          have hn3 : ¬ (((ns.length : Int) != 3) = true) := by rw [hn]; simp
          refine Ev.neg hn3 (Ev.pos (by omega) (Ev.pos (by omega) (Ev.bind (Ev.eq k1) ?_)))
          cases hs : stepM a b c e (rd ns 0) (rd ns 1) with
          | none =>
            rw [hs] at k2
            simp only [Tells] at k2
            exact Ev.neg (by simp [k2]) (Ev.eq rfl)
          | some t =>
            rw [hs] at k2
            simp only [Tells] at k2
            subst k2
            obtain ⟨q1, q2⟩ := stepM_kind hs
            have hline := spec_l29Line_ev (a := rd ns 0) (b := rd ns 1) (i := (i : Int)) (by omega) (by omega)
            refine Ev.pos rfl (Ev.bind hline (Ev.pos g1 (Ev.pos g2 (Ev.neg ?_ (Ev.eq rfl)))))
            intro hq
            rw [hw, ba_eq_iff, mk_list] at hq
            exact hx ⟨(⟨rd ns 0, rd ns 1⟩, t), hs, hq⟩
        · have hn3 : (((ns.length : Int) != 3) = true) := by simp; omega
          exact Ev.pos hn3 (Ev.eq rfl)
      · refine Ev.neg hok (Ev.succ ?_)
        simp only [spec_l29Recover.j2]
        exact Ev.pos trivial (Ev.eq rfl)
/-- The state where nothing was entered. -/
abbrev m0 : Mach := (0, 0, 0, 0)
/-- The lines of a text, but for what stands behind the last line's end. -/
def linesOf (s : ByteArray) : List (List UInt8) := (splitL 10 s.data.toList).dropLast
theorem spec_l29Recover_ev {s : ByteArray} (hs : s.size ≤ 1048576) : Ev (fun k => spec_l29Recover.f k s) (recL m0 0 (linesOf s)).1 := by
  have hsz : s.data.toList.length = s.size := data_length s
  have h1 := spec_l01Split_ev s 10 hs
  have hLl := splitL_length 10 s.data.toList
  have hLc : s.data.toList.count 10 ≤ s.data.toList.length := List.count_le_length
  have hpc := splitL_piece 10 s.data.toList
  unfold spec_l29Recover.f linesOf
  have h2 := spec_l29Recover_l0 (splitL 10 s.data.toList) (s.data.toList.count 10) hLl (by omega) (fun w hw => by have := hpc w hw; omega) (s.data.toList.count 10) 0 (by omega) [] 0 0 0 0 (by omega) rfl (by decide)
  rw [List.drop_zero, List.nil_append] at h2
  exact Ev.bind h1 h2
/-- What readDecimal tells of a word. -/
def numV (w : List UInt8) : Int × Bool := match numD w with
  | some u => ((u : Int), true)
  | none => (0, false)
theorem numV_some {w : List UInt8} {u : Nat} (h : numD w = some u) : numV w = ((u : Int), true) := by unfold numV; rw [h]
theorem readDecimal_num {w : List UInt8} (h : w.length ≤ 1048576) : impl_readDecimal.f ⟨w.toArray⟩ = some (numV w) := by
  have h1 := impl_readDecimal_eq (s := ⟨w.toArray⟩) (by rw [mk_size]; exact h)
  rw [mk_list] at h1
  exact h1
theorem impl_recovered_l0 (L : List (List UInt8)) (hL : L.length ≤ 1048576) (hW : ∀ w ∈ L, w.length ≤ 1048576) : ∀ d i, i + d = L.length → ∀ (out : List S70) (a b c e : Int), i ≤ 200 → out.length = i → machOk a b c e = true →
    Ev (fun k => impl_recovered.l0 k out (bas L) (L.length : Int) (i : Int) a b c e) (out ++ (recL (a, b, c, e) i (L.drop i)).1, (recL (a, b, c, e) i (L.drop i)).2) := by
  have hbl := bas_length L
  intro d
  induction d with
  | zero =>
    intro i hi out a b c e h200 ho hm
    rw [List.drop_of_length_le (by omega)]
    refine Ev.succ ?_
    simp only [impl_recovered.l0]
    exact Ev.neg (by omega) (Ev.eq (by simp [recL]))
  | succ d ih =>
    intro i hi out a b c e h200 ho hm
    have e1 : wrap64 ((i : Int) + 1) = ((i + 1 : Nat) : Int) := wrap_next (by omega)
    have hlt : i < L.length := by omega
    have hw := rdOf_bas L i hlt
    have hwl := hW _ (List.getElem_mem hlt)
    have hih := ih (i + 1) (by omega)
    rw [List.drop_eq_getElem_cons hlt]
    generalize (L)[i] = l at hw hwl
    have hsp := strings_Split_eq ⟨l.toArray⟩ 32 (by rw [mk_size]; omega)
    rw [mk_list] at hsp
    have hpc := splitL_piece 32 l
    have hbw := bas_length (splitL 32 l)
    refine Ev.succ ?_
    simp only [impl_recovered.l0, hw]
    refine Ev.pos (by omega) (Ev.pos (by omega) (Ev.pos (by omega) (Ev.bind (Ev.eq hsp) ?_)))
    by_cases h3 : (splitL 32 l).length = 3
    · by_cases hi2 : i = 200
      · subst hi2
        rw [recL_full, List.append_nil]
        refine Ev.pos (by omega) (Ev.succ ?_)
        simp only [impl_recovered.j1]
        exact Ev.pos (by rw [ho]; rfl) (Ev.eq rfl)
      have g3 : ((bas (splitL 32 l)).length : Int) = 3 := by omega
      refine Ev.pos g3 (Ev.succ ?_)
      have r0 := rdOf_bas (splitL 32 l) 0 (by omega)
      have r1 := rdOf_bas (splitL 32 l) 1 (by omega)
      have z0 := hpc _ (List.getElem_mem (l := splitL 32 l) (n := 0) (by omega))
      have z1 := hpc _ (List.getElem_mem (l := splitL 32 l) (n := 1) (by omega))
      have hfull : ∀ p, takes (a, b, c, e) i l p → numD (splitL 32 l)[0] = some p.1.f0.toNat ∧ numD (splitL 32 l)[1] = some p.1.f1.toNat := fun p hp => by
        have h := (takes_nums hp (by omega)).1
        have i0 := congrArg (fun x => x[0]?) h
        have i1 := congrArg (fun x => x[1]?) h
        simp only [List.getElem?_map, List.getElem?_eq_getElem (show 0 < (splitL 32 l).length by omega), List.getElem?_eq_getElem (show 1 < (splitL 32 l).length by omega), Option.map_some] at i0 i1
        simp only [List.map_cons, List.getElem?_cons_zero, List.getElem?_cons_succ, Option.map_some, Option.some.injEq] at i0 i1
        exact ⟨i0, i1⟩
      simp only [Int.natCast_zero] at r0
      have r0' : rdOf ByteArray.empty (bas (splitL 32 l)) 0 = ⟨((splitL 32 l)[0]).toArray⟩ := r0
      have r1' : rdOf ByteArray.empty (bas (splitL 32 l)) 1 = ⟨((splitL 32 l)[1]).toArray⟩ := r1
      generalize hW0 : (splitL 32 l)[0] = w0 at r0' z0 hfull
      generalize hW1 : (splitL 32 l)[1] = w1 at r1' z1 hfull
      have d0 := readDecimal_num (w := w0) (by omega)
      have d1 := readDecimal_num (w := w1) (by omega)
      have gb : ¬ (((out.length : Int) == 200) = true) := by rw [ho]; simp; omega
      simp only [impl_recovered.j1, r0', r1']
      generalize hv0 : numV w0 = v0 at d0
      generalize hv1 : numV w1 = v1 at d1
      obtain ⟨r, k1, k2⟩ := impl_after_ev (k := v0.1) (v := v1.1) hm
      have main : Ev (fun k => if v0.2 = true then (if v1.2 = true then (if r.2.2.2.2 = true then ((impl_entryLine.f v0.1 v1.1 (i : Int)).bind fun t215 => (if t215.toList = (⟨l.toArray⟩ : ByteArray).toList then (if out.length < 8796093022208 then (impl_recovered.l0 k (out ++ [(⟨v0.1, v1.1⟩ : S70)]) (bas L) (L.length : Int) (wrap64 ((i : Int) + 1)) r.1 r.2.1 r.2.2.1 r.2.2.2.1) else (none)) else (some (out, a, b, c, e)))) else (some (out, a, b, c, e))) else (some (out, a, b, c, e))) else (some (out, a, b, c, e))) (out ++ (recL (a, b, c, e) i (l :: L.drop (i + 1))).1, (recL (a, b, c, e) i (l :: L.drop (i + 1))).2) := by
        by_cases hx : ∃ p, takes (a, b, c, e) i l p
        · obtain ⟨p, hp⟩ := hx
          obtain ⟨n1, n2⟩ := hfull p hp
          obtain ⟨_, o2, o3, o4, o5⟩ := takes_nums hp (by omega)
          rw [numV_some n1] at hv0
          rw [numV_some n2] at hv1
          obtain ⟨⟨x0, x1⟩, pm⟩ := p
          have hp' := hp
          obtain ⟨hs, hln⟩ := hp'
          simp only at o2 o3 o4 o5 hs hln hv0 hv1
          have f0 : ((x0.toNat : Nat) : Int) = x0 := by omega
          have f1 : ((x1.toNat : Nat) : Int) = x1 := by omega
          rw [f0] at hv0
          rw [f1] at hv1
          subst hv0
          subst hv1
          simp only at k1 k2
          rw [hs] at k2
          simp only [Tells] at k2
          subst k2
          rw [recL_take (by omega) hp, e1]
          have h4 := hih (out ++ [⟨x0, x1⟩]) pm.1 pm.2.1 pm.2.2.1 pm.2.2.2 (by omega) (by rw [List.length_append, List.length_singleton, ho]) (stepM_ok hm hs)
          refine Ev.pos rfl (Ev.pos rfl (Ev.pos rfl (Ev.bind (Ev.eq (impl_entryLine_eq (by omega) (by omega))) (Ev.pos ?_ (Ev.pos (by omega) (h4.cast ?_))))))
          · rw [ba_eq_iff, mk_list]; exact hln
          · simp
        · rw [recL_stop hx, List.append_nil]
          refine Ev.ite (fun c1 => Ev.ite (fun c2 => Ev.ite (fun c3 => ?_) (fun _ => Ev.eq rfl)) (fun _ => Ev.eq rfl)) (fun _ => Ev.eq rfl)
          cases hs : stepM a b c e v0.1 v1.1 with
          | none =>
            rw [hs] at k2
            simp only [Tells] at k2
            rw [k2] at c3
            cases c3
          | some t =>
            obtain ⟨q1, q2⟩ := stepM_kind hs
            refine Ev.bind (Ev.eq (impl_entryLine_eq (by omega) (by omega))) (Ev.neg ?_ (Ev.eq rfl))
            intro hq
            rw [ba_eq_iff, mk_list] at hq
            exact hx ⟨(⟨v0.1, v1.1⟩, t), hs, hq⟩
      exact Ev.neg gb (Ev.pos (by omega) (Ev.bind (Ev.eq d0) (Ev.pos (by omega) (Ev.bind (Ev.eq d1) (Ev.bind k1 main)))))
    · have hst : recL (a, b, c, e) i (l :: L.drop (i + 1)) = ([], (a, b, c, e)) := by
        refine recL_stop ?_
        rintro ⟨p, hp⟩
        have h := takes_words hp (by omega)
        rw [h] at h3
        exact h3 rfl
      rw [hst, List.append_nil]
      refine Ev.neg (by omega) (Ev.succ ?_)
      simp only [impl_recovered.j1]
      exact Ev.pos trivial (Ev.eq rfl)
theorem impl_recovered_ev {s : ByteArray} (hs : s.size ≤ 1048576) : Ev (fun k => impl_recovered.f k s) (recL m0 0 (linesOf s)) := by
  have hsz : s.data.toList.length = s.size := data_length s
  have h1 := strings_Split_eq s 10 hs
  have hLl := splitL_length 10 s.data.toList
  have hLc : s.data.toList.count 10 ≤ s.data.toList.length := List.count_le_length
  have hpc := splitL_piece 10 s.data.toList
  unfold impl_recovered.f linesOf
  generalize splitL 10 s.data.toList = L at h1 hLl hpc
  have hbl := bas_length L
  have e2 : wrap64 ((((bas L).length : Nat) : Int) - 1) = ((L.length - 1 : Nat) : Int) := by rw [w64 (by omega) (by omega)]; omega
  have hdl : L.dropLast.length = L.length - 1 := List.length_dropLast
  have htk : (bas L).take (L.length - 1) = bas L.dropLast := by rw [List.dropLast_eq_take, bas, bas, List.map_take]
  have h2 := impl_recovered_l0 L.dropLast (by omega) (fun w hw => by
    have := hpc w (List.mem_of_mem_take (by rw [← List.dropLast_eq_take]; exact hw))
    omega) L.dropLast.length 0 (by omega) [] 0 0 0 0 (by omega) rfl (by decide)
  rw [List.drop_zero, List.nil_append] at h2
  refine Ev.bind (Ev.eq h1) ?_
  simp only [e2, Int.toNat_natCast, htk]
  refine Ev.pos (by omega) (Ev.pos (by omega) (Ev.bind (Ev.eq rfl) ?_))
  rw [bas_length]
  exact h2
end Go.Proofs.YtoiioapkebglgaaDoor.PG
end
section
namespace Go.Proofs.YtoiioapkebglgaaDoor.PG
open Go.RowKit Go.Proofs.YtoiioapkebglgaaDoorW.PrintWords Go.Proofs.YtoiioapkebglgaaDoorB
set_option linter.unusedVariables false
set_option linter.unusedSimpArgs false
/-- What RecoverJournal answers. -/
noncomputable def recOut (t : ByteArray) : List S70 × Int := if (t.size : Int) > 8000 then ([], 3) else ((recL m0 0 (linesOf t)).1, 0)
theorem recOut_length (t : ByteArray) : (recOut t).1.length ≤ 200 := by
  unfold recOut
  split
  · simp
  · have := recL_len (linesOf t) m0 0 (by omega)
    simp only; omega
theorem spec_RecoverJournal_ev (t : ByteArray) : Ev (fun k => spec_RecoverJournal.f k t) (recOut t) := by
  unfold spec_RecoverJournal.f recOut
  refine Ev.ite (fun c => Ev.eq (by rw [if_pos c])) (fun c => ?_)
  rw [if_neg c]
  exact Ev.bind (spec_l29Recover_ev (by omega)) (Ev.eq rfl)
theorem impl_RecoverJournal_ev (t : ByteArray) : Ev (fun k => impl_RecoverJournal.f k t) (recOut t) := by
  unfold impl_RecoverJournal.f recOut
  refine Ev.ite (fun c => Ev.eq (by rw [if_pos c])) (fun c => ?_)
  rw [if_neg c]
  exact Ev.bind (impl_recovered_ev (by omega)) (Ev.eq rfl)
end Go.Proofs.YtoiioapkebglgaaDoor.PG
end
