import Derived.Lib.AtoiTie
import Derived.Lib.ParseIntBCases
import Derived.Lib.ParseIntBTie
import Derived.Test.YtokpepaoneiepaaGreatDoorCFnSides19
import Derived.Test.YtokpepaoneiepaaGreatDoorCFnSides34
import Derived.Test.YtokpepaoneiepaaGreatDoorCFnSides36
set_option linter.unusedVariables false
set_option linter.unusedSimpArgs false
section
namespace Go.Proofs.YtokpepaoneiepaaGreatDoor.PL
open Go.RowKit Go.Proofs.YtokpepaoneiepaaGreatDoorW.PrintWords Go.Proofs.YtokpepaoneiepaaGreatDoorB
theorem decFrom_snoc : ∀ (l : List UInt8) (acc n : Nat) (b : UInt8) (d : Nat), Lib.decFrom acc l = some n → Lib.digitVal b = some d → Lib.decFrom acc (l ++ [b]) = some (n * 10 + d)
  | [], acc, n, b, d, h, hd => by
    simp only [Lib.decFrom, Option.some.injEq] at h
    subst h
    simp [Lib.decFrom, hd]
  | a :: t, acc, n, b, d, h, hd => by
    simp only [List.cons_append, Lib.decFrom] at h ⊢
    cases ha : Lib.digitVal a with
    | none => simp [ha] at h
    | some e =>
      simp only [ha] at h ⊢
      exact decFrom_snoc t _ n b d h hd
theorem digitVal_of {u : Nat} (h : u < 10) : Lib.digitVal (UInt8.ofNat (48 + u)) = some u := by
 unfold Lib.digitVal
 have e : (UInt8.ofNat (48 + u)).toNat = 48 + u := by rw [UInt8.toNat_ofNat', Nat.mod_eq_of_lt (by omega)]
 rw [e, if_pos (by omega)]
 congr 1; omega
theorem decFrom_digits (u : Nat) : Lib.decFrom 0 (Lib.decDigits u) = some u := by
  induction u using Nat.strongRecOn with
  | ind u ih =>
    rw [Lib.decDigits]
    by_cases h : u < 10
    · rw [dif_pos h]
      simp only [Lib.decFrom, digitVal_of h, Nat.zero_mul, Nat.zero_add]
    · rw [dif_neg h, decFrom_snoc _ _ _ _ _ (ih (u / 10) (by omega)) (digitVal_of (Nat.mod_lt u (by omega)))]
      congr 1; omega
theorem decDigits_ne (u : Nat) : Lib.decDigits u ≠ [] := by
 rw [Lib.decDigits]
 split <;> simp
theorem decNat_digits (u : Nat) : Lib.decNat (Lib.decDigits u) = some u := by
 unfold Lib.decNat
 rw [if_neg (by cases h : Lib.decDigits u with
  | nil => exact absurd h (decDigits_ne u)
  | cons => simp)]
 exact decFrom_digits u
def numD (l : List UInt8) : Option Nat := if l.length ≤ 10 then (match Lib.decNat l with
 | some u => if Lib.decDigits u = l then some u else none
 | none => none) else none
theorem numD_some {l : List UInt8} {u : Nat} (h : numD l = some u) : l.length ≤ 10 ∧ Lib.decNat l = some u ∧ Lib.decDigits u = l := by
 unfold numD at h
 split at h
 ·rename_i h1
  split at h
  ·rename_i v h2
   split at h
   ·rename_i h3
    have := Option.some.inj h
    subst this
    exact ⟨h1, h2, h3⟩
   ·cases h
  ·cases h
 ·cases h
theorem numD_of {u : Nat} (h : (Lib.decDigits u).length ≤ 10) : numD (Lib.decDigits u) = some u := by
 unfold numD
 rw [if_pos h, decNat_digits]
 exact if_pos rfl
theorem itoa_eq_nat {v : Int} (h : 0 ≤ v) : Lib.itoa v = Lib.decDigits v.toNat := by unfold Lib.itoa; rw [if_neg (by omega)]
theorem decOf_some {s : ByteArray} {v : Int} (hl : s.size ≤ 10) (h0 : 0 ≤ v) (he : Lib.decDigits v.toNat = s.data.toList) : decOf s v = (v, true) := by
 unfold decOf
 rw [if_neg (by omega), if_neg (by omega), if_pos]
 rw [Lib.toList_data, Lib.toList_data, itoaB_data, itoa_eq_nat h0, he]
theorem decOf_none {s : ByteArray} {v : Int} (h : s.size ≤ 10 → 0 ≤ v → ¬ Lib.decDigits v.toNat = s.data.toList) : decOf s v = (0, false) := by
 unfold decOf
 split
 ·rfl
 split
 ·rfl
 rw [if_neg]
 intro he
 rw [Lib.toList_data, Lib.toList_data, itoaB_data, itoa_eq_nat (by omega)] at he
 exact h (by omega) (by omega) he
theorem impl_readDecimal_eq {s : ByteArray} (hs : s.size ≤ 1048576) : impl_readDecimal.f s = some (match numD s.data.toList with | some u => ((u : Int), true) | none => (0, false)) := by
  have hsz : s.data.toList.length = s.size := data_length s
  unfold impl_readDecimal.f
  rw [if_pos (by omega)]
  cases hn : numD s.data.toList with
  | some u =>
    obtain ⟨h1, h2, h3⟩ := numD_some hn
    have hp : Lib.parseIntB 64 s.data.toList = .ok (u : Int) := by
      cases hl : s.data.toList with
      | nil => rw [hl] at h2; cases h2
      | cons c r =>
        rw [hl] at h2 h1
        have h4 : Lib.decFrom 0 (c :: r) = some u := by
          unfold Lib.decNat at h2
          rw [if_neg (by simp)] at h2
          exact h2
        obtain ⟨d, hd⟩ := Lib.digit_of_decFrom _ _ _ h4 0 c rfl
        have hc : 48 ≤ c.toNat := by
          unfold Lib.digitVal at hd
          split at hd
          · omega
          · cases hd
        rw [Lib.parseIntB_plain 64 c r (by omega) (by omega), Lib.parseUintB_64, Lib.parseMag_short _ (by omega), h2]
        have hu := Lib.decNat_small (l := c :: r) (by omega) h2
        simp only [Lib.NumEnd.ofOption, Lib.signlessC]
        rw [if_neg (by omega)]
    have hu := Lib.decNat_small (l := s.data.toList) (by omega) h2
    rw [hp]
    simp only
    rw [if_pos ⟨by omega, by omega⟩, decOf_some (by omega) (by omega) (by simpa using h3)]
  | none =>
    cases hp : Lib.parseIntB 64 s.data.toList
    · rename_i v
      have hb := Lib.parseIntB_bounds hp
      simp only
      rw [if_pos ⟨by omega, by omega⟩]
      congr 1
      refine decOf_none fun h1 h2 h3 => ?_
      have h4 := numD_of (u := v.toNat) (by rw [h3]; omega)
      rw [h3, hn] at h4
      cases h4
    · rfl
    · rfl
theorem digit_small {c : UInt8} {d : Nat} (h : Lib.digitVal c = some d) : (¬ (c.toNat : Int) < 48) ∧ (¬ (c.toNat : Int) > 57) ∧ ((c.toNat : Int) - 48) % 256 = (d : Int) ∧ d ≤ 9 := by
 unfold Lib.digitVal at h
 split at h
 ·have := Option.some.inj h
  omega
 ·cases h
theorem digit_not {c : UInt8} (h : Lib.digitVal c = none) : (c.toNat : Int) < 48 ∨ (c.toNat : Int) > 57 := by
 unfold Lib.digitVal at h
 split at h
 ·cases h
 ·omega
def tenTo : Nat → Nat
 | 0 => 1
 | i + 1 => tenTo i * 10
theorem tenTo_le (i : Nat) (h : i ≤ 10) : tenTo i ≤ 10000000000 := (by decide : ∀ j : Fin 11, tenTo j.val ≤ 10000000000) ⟨i, by omega⟩
theorem tenTo_step {n e i : Nat} (hn : n < tenTo i) (he : e ≤ 9) : n * 10 + e < tenTo (i + 1) := by
 show n * 10 + e < tenTo i * 10
 generalize tenTo i = q at hn
 omega
theorem spec_l01Digits_l0 (s : ByteArray) (hs : s.size ≤ 10) : ∀ d i, i + d = s.data.toList.length → ∀ n : Nat, n < tenTo i →
    Ev (fun k => spec_l01Digits.l0 k s (n : Int) (i : Int)) (match Lib.decFrom n (s.data.toList.drop i) with | some u => ((u : Int), decide (Lib.decDigits u = s.data.toList)) | none => (0, false)) := by
  have hsz : s.data.toList.length = s.size := data_length s
  intro d
  induction d with
  | zero =>
    intro i hi n hn
    have hp := tenTo_le i (by omega)
    rw [List.drop_of_length_le (by omega)]
    simp only [Lib.decFrom]
    refine Ev.succ ?_
    simp only [spec_l01Digits.l0]
    refine Ev.neg (by omega) (Ev.bind (spec_l01Dec_ev (by omega) (by omega)) (Ev.eq ?_))
    congr 2
    rw [Bool.eq_iff_iff]
    simp only [beq_iff_eq, decide_eq_true_eq]
    rw [Lib.toList_data, Lib.toList_data, itoaB_data, itoa_eq_nat (by omega), Int.toNat_natCast]
  | succ d ih =>
    intro i hi n hn
    have hlt : i < s.data.toList.length := by omega
    have hp := tenTo_le (i + 1) (by omega)
    have e11 : tenTo (i + 1) = tenTo i * 10 := rfl
    have hb := bt_get' s i hlt
    rw [List.drop_eq_getElem_cons hlt]
    generalize (s.data.toList)[i] = c at hb
    have e1 : wrap64 ((i : Int) + 1) = ((i + 1 : Nat) : Int) := by rw [w64 (by omega) (by omega)]; omega
    refine Ev.succ ?_
    simp only [spec_l01Digits.l0, hb, e1, Lib.decFrom]
    refine Ev.pos (by omega) (Ev.pos (by omega) ?_)
    cases hd : Lib.digitVal c with
    | none =>
      rcases digit_not hd with h | h
      · exact Ev.pos h (Ev.eq rfl)
      · exact Ev.neg (by omega) (Ev.pos h (Ev.eq rfl))
    | some e =>
      obtain ⟨h1, h2, h3, h4⟩ := digit_small hd
      have hsm : n * 10 + e < 10000000000 := Nat.lt_of_lt_of_le (tenTo_step hn h4) hp
      clear hp e11
      have e2 : wrap64 (10 * (n : Int)) = 10 * (n : Int) := w64 (by omega) (by omega)
      have e3 : wrap64 (10 * (n : Int) + (e : Int)) = ((n * 10 + e : Nat) : Int) := by rw [w64 (by omega) (by omega)]; omega
      have h5 := ih (i + 1) (by omega) (n * 10 + e) (tenTo_step hn h4)
      clear ih hn
      simp only [h3, e2, e3]
      exact Ev.neg h1 (Ev.neg h2 h5)
theorem spec_l01Digits_ev (s : ByteArray) : ∃ n : Int, Ev (fun k => spec_l01Digits.f k s) (n, (numD s.data.toList).isSome) ∧ ∀ u, numD s.data.toList = some u → n = (u : Int) := by
  have hsz : s.data.toList.length = s.size := data_length s
  unfold spec_l01Digits.f
  by_cases c1 : (s.size : Int) < 1
  · have hl : s.data.toList = [] := List.length_eq_zero_iff.1 (by omega)
    refine ⟨0, Ev.pos c1 (Ev.succ ?_), fun u h => ?_⟩
    · simp only [spec_l01Digits.j0]
      rw [hl]
      exact Ev.pos trivial (Ev.eq rfl)
    · rw [hl] at h; cases h
  · by_cases c2 : (s.size : Int) > 10
    · have hn : numD s.data.toList = none := if_neg (by omega)
      refine ⟨0, Ev.neg c1 (Ev.succ ?_), fun u h => ?_⟩
      · simp only [spec_l01Digits.j0]
        rw [hn]
        exact Ev.pos (decide_eq_true c2) (Ev.eq rfl)
      · rw [hn] at h; cases h
    · have h0 := spec_l01Digits_l0 s (by omega) s.data.toList.length 0 (by omega) 0 (by decide)
      rw [List.drop_zero] at h0
      have hdn : Lib.decNat s.data.toList = Lib.decFrom 0 s.data.toList := by
        unfold Lib.decNat
        rw [if_neg]
        intro h
        rw [List.isEmpty_iff] at h
        rw [h] at hsz
        simp at hsz
        omega
      have hnum : numD s.data.toList = match Lib.decFrom 0 s.data.toList with
        | some u => if Lib.decDigits u = s.data.toList then some u else none
        | none => none := by
        unfold numD
        rw [if_pos (by omega), hdn]
      cases hd : Lib.decFrom 0 s.data.toList with
      | none =>
        rw [hd] at h0 hnum
        refine ⟨0, Ev.neg c1 (Ev.succ ?_), fun u h => ?_⟩
        · simp only [spec_l01Digits.j0]
          rw [hnum]
          exact Ev.neg (by simpa using c2) h0
        · rw [hnum] at h; cases h
      | some v =>
        rw [hd] at h0 hnum
        refine ⟨(v : Int), Ev.neg c1 (Ev.succ ?_), fun u h => ?_⟩
        · simp only [spec_l01Digits.j0]
          refine Ev.neg (by simpa using c2) (h0.cast ?_)
          simp only [hnum]
          by_cases h : Lib.decDigits v = s.data.toList
          · simp [h]
          · simp [h]
        · simp only [hnum] at h
          split at h
          · have := Option.some.inj h; rw [this]
          · cases h
theorem splitL_join {c : UInt8} : ∀ (x y : List UInt8) (R : List (List UInt8)) (q : List UInt8), splitL c x = R ++ [q] → splitL c (x ++ y) = R ++ inFront q (splitL c y)
  | [], y, R, q, h => by
    have h1 : ([[]] : List (List UInt8)) = R ++ [q] := h
    cases R with
    | nil =>
      have hq : q = [] := by simpa using h1.symm
      subst hq
      rw [List.nil_append, List.nil_append, inFront_nil (splitL_ne c y)]
    | cons r R =>
      exfalso
      have := congrArg List.length h1
      simp at this
  | b :: l, y, R, q, h => by
    by_cases hb : b = c
    · subst hb
      rw [splitL_cons_eq] at h
      cases R with
      | nil =>
        exfalso
        have h2 : splitL b l = [] := by simpa using congrArg List.tail h
        exact splitL_ne b l h2
      | cons r R =>
        obtain ⟨e1, e2⟩ := List.cons.inj h
        subst e1
        rw [List.cons_append, splitL_cons_eq, splitL_join l y R q e2]
        rfl
    · rw [splitL_cons_ne hb] at h
      rw [List.cons_append, splitL_cons_ne hb]
      cases hs : splitL c l with
      | nil => exact absurd hs (splitL_ne c l)
      | cons x0 xs =>
        rw [hs] at h
        have h' : (b :: x0) :: xs = R ++ [q] := h
        cases R with
        | nil =>
          obtain ⟨e1, e2⟩ := List.cons.inj h'
          subst e2
          rw [splitL_join l y [] x0 (by rw [hs]; rfl), ← e1]
          rw [List.nil_append, List.nil_append, inFront_inFront _ _ _ (splitL_ne c y)]
          rfl
        | cons r R =>
          obtain ⟨e1, e2⟩ := List.cons.inj h'
          subst e1
          rw [splitL_join l y (x0 :: R) q (by rw [hs, e2]; rfl)]
          rfl
theorem splitL_end {c : UInt8} {x w : List UInt8} {R : List (List UInt8)} {q : List UInt8} (h : splitL c x = R ++ [q]) (hw : c ∉ w) : splitL c (x ++ w) = R ++ [q ++ w] := by
 rw [splitL_join x w R q h, splitL_none hw]; rfl
theorem splitL_cut {c : UInt8} {x w : List UInt8} {R : List (List UInt8)} {q : List UInt8} (h : splitL c x = R ++ [q]) (hw : c ∉ w) : splitL c (x ++ (w ++ [c])) = R ++ [q ++ w, []] := by
 rw [splitL_join x (w ++ [c]) R q h, splitL_app w [c] hw, splitL_cons_eq]
 simp [splitL, inFront]
theorem digits_byte {u : Nat} {x : UInt8} (h : x ∈ Lib.decDigits u) : 48 ≤ x.toNat ∧ x.toNat ≤ 57 := by
 obtain ⟨j, hj, rfl⟩ := List.getElem_of_mem h
 obtain ⟨d, hd⟩ := Lib.digit_of_decFrom _ _ _ (decFrom_digits u) j _ (List.getElem?_eq_getElem hj)
 unfold Lib.digitVal at hd
 split at hd
 ·assumption
 ·cases hd
theorem decDigits_short : ∀ (k u : Nat), u < tenTo (k + 1) → (Lib.decDigits u).length ≤ k + 1
  | 0, u, h => by
    rw [Lib.decDigits, dif_pos (by simpa [tenTo] using h)]
    simp
  | k + 1, u, h => by
    rw [Lib.decDigits]
    split
    · simp
    · have e : tenTo (k + 1 + 1) = tenTo (k + 1) * 10 := rfl
      have := decDigits_short k (u / 10) (by omega)
      simp only [List.length_append, List.length_cons, List.length_nil]
      omega
theorem splitL_piece (c : UInt8) : ∀ (l x : List UInt8), x ∈ splitL c l → x.length ≤ l.length
  | [], x, h => by
    have : x = [] := by simpa [splitL] using h
    rw [this]; simp
  | b :: l, x, h => by
    by_cases hb : b = c
    · subst hb
      rw [splitL_cons_eq] at h
      rcases List.mem_cons.1 h with rfl | h
      · simp
      · have := splitL_piece b l x h
        simp only [List.length_cons]; omega
    · rw [splitL_cons_ne hb] at h
      cases hs : splitL c l with
      | nil => exact absurd hs (splitL_ne c l)
      | cons y ys =>
        rw [hs] at h
        have h' : x ∈ (b :: y) :: ys := h
        rcases List.mem_cons.1 h' with rfl | h'
        · have := splitL_piece c l y (by rw [hs]; simp)
          simp only [List.length_cons]; omega
        · have := splitL_piece c l x (by rw [hs]; simp [h'])
          simp only [List.length_cons]; omega
theorem rdOf_bas (ls : List (List UInt8)) (i : Nat) (h : i < ls.length) : rdOf ByteArray.empty (bas ls) (i : Int) = ⟨(ls[i]).toArray⟩ := by
 unfold rdOf bas
 rw [Int.toNat_natCast, List.getD, List.getElem?_eq_getElem (by rw [List.length_map]; exact h), List.getElem_map]
 rfl
theorem mk_list (w : List UInt8) : (⟨w.toArray⟩ : ByteArray).data.toList = w := by simp
theorem mk_toList (w : List UInt8) : (⟨w.toArray⟩ : ByteArray).toList = w := by rw [Lib.toList_data, mk_list]
theorem mk_size (w : List UInt8) : (⟨w.toArray⟩ : ByteArray).size = w.length := by rw [← data_length, mk_list]
theorem wrap_next {j : Nat} (h : j + 1 ≤ 9223372036854775807) : wrap64 ((j : Int) + 1) = ((j + 1 : Nat) : Int) := by
 rw [w64 (by omega) (by omega)]
 omega
end Go.Proofs.YtokpepaoneiepaaGreatDoor.PL
end
