-- Gathered by this session's program wip/tool/shake.py out of its own texts and of what the kit's print and the session's patches of it wrote for this claim.
import Derived.Lib.AtoiTie
import Derived.Lib.ParseIntBCases
import Derived.Lib.ParseIntBTie
import Derived.Test.YtoiioapkebglgaaDoorCIsDeskCommand9
import Derived.Test.YtoiioapkebglgaaDoorCIsDeskCommand11
import Derived.Test.YtoiioapkebglgaaDoorCIsDeskCommand12
import Derived.Test.YtoiioapkebglgaaDoorCIsDeskCommand13
import Derived.Test.YtoiioapkebglgaaDoorCIsDeskCommand16
import Derived.Test.YtoiioapkebglgaaDoorCIsDeskCommand17
section
namespace Go.Proofs.YtoiioapkebglgaaDoor.PC
open Go.RowKit Go.Proofs.YtoiioapkebglgaaDoorW.PrintWords Go.Proofs.YtoiioapkebglgaaDoorB
set_option linter.unusedVariables false
set_option linter.unusedSimpArgs false
theorem decFrom_snoc : ∀ (l : List UInt8) (acc n : Nat) (b : UInt8) (d : Nat), Lib.decFrom acc l = some n → Lib.digitVal b = some d → Lib.decFrom acc (l ++ [b]) = some (n * 10 + d)
  | [], acc, n, b, d, h, hd => by
    simp only [Lib.decFrom, Option.some.injEq] at h
    subst h
    simp [Lib.decFrom, hd]
  | a :: t, acc, n, b, d, h, hd => by
    simp only [List.cons_append, Lib.decFrom] at h ⊢
    cases ha : Lib.digitVal a with
    | none => simp [ha] at h
    | some e =>
      simp only [ha] at h ⊢
      exact decFrom_snoc t _ n b d h hd
theorem digitVal_of {u : Nat} (h : u < 10) : Lib.digitVal (UInt8.ofNat (48 + u)) = some u := by
  unfold Lib.digitVal
  have e : (UInt8.ofNat (48 + u)).toNat = 48 + u := by rw [UInt8.toNat_ofNat', Nat.mod_eq_of_lt (by omega)]
  rw [e, if_pos (by omega)]
  congr 1; omega
theorem decFrom_digits (u : Nat) : Lib.decFrom 0 (Lib.decDigits u) = some u := by
  induction u using Nat.strongRecOn with
  | ind u ih =>
    rw [Lib.decDigits]
    by_cases h : u < 10
    · rw [dif_pos h]
      simp only [Lib.decFrom, digitVal_of h, Nat.zero_mul, Nat.zero_add]
    · rw [dif_neg h, decFrom_snoc _ _ _ _ _ (ih (u / 10) (by omega)) (digitVal_of (Nat.mod_lt u (by omega)))]
      congr 1; omega
theorem decDigits_ne (u : Nat) : Lib.decDigits u ≠ [] := by
  rw [Lib.decDigits]
  split <;> simp
theorem decNat_digits (u : Nat) : Lib.decNat (Lib.decDigits u) = some u := by
  unfold Lib.decNat
  rw [if_neg (by cases h : Lib.decDigits u with
    | nil => exact absurd h (decDigits_ne u)
    | cons => simp)]
  exact decFrom_digits u
/-- A number in its own text, of at most ten digits. -/
def numD (l : List UInt8) : Option Nat := if l.length ≤ 10 then (match Lib.decNat l with
  | some u => if Lib.decDigits u = l then some u else none
  | none => none) else none
theorem numD_some {l : List UInt8} {u : Nat} (h : numD l = some u) : l.length ≤ 10 ∧ Lib.decNat l = some u ∧ Lib.decDigits u = l := by
  unfold numD at h
  split at h
  · rename_i h1
    split at h
    · rename_i v h2
      split at h
      · rename_i h3
        have := Option.some.inj h
        subst this
        exact ⟨h1, h2, h3⟩
      · cases h
    · cases h
  · cases h
theorem numD_of {u : Nat} (h : (Lib.decDigits u).length ≤ 10) : numD (Lib.decDigits u) = some u := by
  unfold numD
  rw [if_pos h, decNat_digits]
  exact if_pos rfl
theorem itoa_eq_nat {v : Int} (h : 0 ≤ v) : Lib.itoa v = Lib.decDigits v.toNat := by unfold Lib.itoa; rw [if_neg (by omega)]
theorem digit_small {c : UInt8} {d : Nat} (h : Lib.digitVal c = some d) : (¬ (c.toNat : Int) < 48) ∧ (¬ (c.toNat : Int) > 57) ∧ ((c.toNat : Int) - 48) % 256 = (d : Int) ∧ d ≤ 9 := by
  unfold Lib.digitVal at h
  split at h
  · have := Option.some.inj h
    omega
  · cases h
theorem digit_not {c : UInt8} (h : Lib.digitVal c = none) : (c.toNat : Int) < 48 ∨ (c.toNat : Int) > 57 := by
  unfold Lib.digitVal at h
  split at h
  · cases h
  · omega
def tenTo : Nat → Nat
  | 0 => 1
  | i + 1 => tenTo i * 10
theorem tenTo_le (i : Nat) (h : i ≤ 10) : tenTo i ≤ 10000000000 := (by decide : ∀ j : Fin 11, tenTo j.val ≤ 10000000000) ⟨i, by omega⟩
theorem tenTo_step {n e i : Nat} (hn : n < tenTo i) (he : e ≤ 9) : n * 10 + e < tenTo (i + 1) := by
  show n * 10 + e < tenTo i * 10
  generalize tenTo i = q at hn
  omega
theorem spec_l01Digits_l0 (s : ByteArray) (hs : s.size ≤ 10) : ∀ d i, i + d = s.data.toList.length → ∀ n : Nat, n < tenTo i →
    Ev (fun k => spec_l01Digits.l0 k s (n : Int) (i : Int)) (match Lib.decFrom n (s.data.toList.drop i) with | some u => ((u : Int), decide (Lib.decDigits u = s.data.toList)) | none => (0, false)) := by
  have hsz : s.data.toList.length = s.size := data_length s
  intro d
  induction d with
  | zero =>
    intro i hi n hn
    have hp := tenTo_le i (by omega)
    rw [List.drop_of_length_le (by omega)]
    simp only [Lib.decFrom]
    refine Ev.succ ?_
    simp only [spec_l01Digits.l0]
    refine Ev.neg (by omega) (Ev.bind (spec_l01Dec_ev (by omega) (by omega)) (Ev.eq ?_))
    congr 2
    rw [Bool.eq_iff_iff]
    simp only [beq_iff_eq, decide_eq_true_eq]
    rw [Lib.toList_data, Lib.toList_data, itoaB_data, itoa_eq_nat (by omega), Int.toNat_natCast]
  | succ d ih =>
    intro i hi n hn
    have hlt : i < s.data.toList.length := by omega
    have hp := tenTo_le (i + 1) (by omega)
    have e11 : tenTo (i + 1) = tenTo i * 10 := rfl
    have hb := bt_get' s i hlt
    rw [List.drop_eq_getElem_cons hlt]
    generalize (s.data.toList)[i] = c at hb
    have e1 : wrap64 ((i : Int) + 1) = ((i + 1 : Nat) : Int) := by rw [w64 (by omega) (by omega)]; omega
    refine Ev.succ ?_
    simp only [spec_l01Digits.l0, hb, e1, Lib.decFrom]
    refine Ev.pos (by omega) (Ev.pos (by omega) ?_)
    cases hd : Lib.digitVal c with
    | none =>
      rcases digit_not hd with h | h
      · exact Ev.pos h (Ev.eq rfl)
      · exact Ev.neg (by omega) (Ev.pos h (Ev.eq rfl))
    | some e =>
      obtain ⟨h1, h2, h3, h4⟩ := digit_small hd
      have hsm : n * 10 + e < 10000000000 := Nat.lt_of_lt_of_le (tenTo_step hn h4) hp
      clear hp e11
      have e2 : wrap64 (10 * (n : Int)) = 10 * (n : Int) := w64 (by omega) (by omega)
      have e3 : wrap64 (10 * (n : Int) + (e : Int)) = ((n * 10 + e : Nat) : Int) := by rw [w64 (by omega) (by omega)]; omega
      have h5 := ih (i + 1) (by omega) (n * 10 + e) (tenTo_step hn h4)
      clear ih hn
      simp only [h3, e2, e3]
      exact Ev.neg h1 (Ev.neg h2 h5)
/-- What l01Digits gives: a number, and whether the text is its own. -/
theorem spec_l01Digits_ev (s : ByteArray) : ∃ n : Int, Ev (fun k => spec_l01Digits.f k s) (n, (numD s.data.toList).isSome) ∧ ∀ u, numD s.data.toList = some u → n = (u : Int) := by
  have hsz : s.data.toList.length = s.size := data_length s
  unfold spec_l01Digits.f
  by_cases c1 : (s.size : Int) < 1
  · have hl : s.data.toList = [] := List.length_eq_zero_iff.1 (by omega)
    refine ⟨0, Ev.pos c1 (Ev.succ ?_), fun u h => ?_⟩
    · simp only [spec_l01Digits.j0]
      rw [hl]
      exact Ev.pos trivial (Ev.eq rfl)
    · rw [hl] at h; cases h
  · by_cases c2 : (s.size : Int) > 10
    · have hn : numD s.data.toList = none := if_neg (by omega)
      refine ⟨0, Ev.neg c1 (Ev.succ ?_), fun u h => ?_⟩
      · simp only [spec_l01Digits.j0]
        rw [hn]
        exact Ev.pos (decide_eq_true c2) (Ev.eq rfl)
      · rw [hn] at h; cases h
    · have h0 := spec_l01Digits_l0 s (by omega) s.data.toList.length 0 (by omega) 0 (by decide)
      rw [List.drop_zero] at h0
      have hdn : Lib.decNat s.data.toList = Lib.decFrom 0 s.data.toList := by
        unfold Lib.decNat
        rw [if_neg]
        intro h
        rw [List.isEmpty_iff] at h
        rw [h] at hsz
        simp at hsz
        omega
      have hnum : numD s.data.toList = match Lib.decFrom 0 s.data.toList with
        | some u => if Lib.decDigits u = s.data.toList then some u else none
        | none => none := by
        unfold numD
        rw [if_pos (by omega), hdn]
      cases hd : Lib.decFrom 0 s.data.toList with
      | none =>
        rw [hd] at h0 hnum
        refine ⟨0, Ev.neg c1 (Ev.succ ?_), fun u h => ?_⟩
        · simp only [spec_l01Digits.j0]
          rw [hnum]
          exact Ev.neg (by simpa using c2) h0
        · rw [hnum] at h; cases h
      | some v =>
        rw [hd] at h0 hnum
        refine ⟨(v : Int), Ev.neg c1 (Ev.succ ?_), fun u h => ?_⟩
        · simp only [spec_l01Digits.j0]
          refine Ev.neg (by simpa using c2) (h0.cast ?_)
          simp only [hnum]
          by_cases h : Lib.decDigits v = s.data.toList
          · simp [h]
          · simp [h]
        · simp only [hnum] at h
          split at h
          · have := Option.some.inj h; rw [this]
          · cases h
end Go.Proofs.YtoiioapkebglgaaDoor.PC
end
section
namespace Go.Proofs.YtoiioapkebglgaaDoor.PC
open Go.RowKit Go.Proofs.YtoiioapkebglgaaDoorW.PrintWords Go.Proofs.YtoiioapkebglgaaDoorB
set_option linter.unusedVariables false
set_option linter.unusedSimpArgs false
theorem digits_byte {u : Nat} {x : UInt8} (h : x ∈ Lib.decDigits u) : 48 ≤ x.toNat ∧ x.toNat ≤ 57 := by
  obtain ⟨j, hj, rfl⟩ := List.getElem_of_mem h
  obtain ⟨d, hd⟩ := Lib.digit_of_decFrom _ _ _ (decFrom_digits u) j _ (List.getElem?_eq_getElem hj)
  unfold Lib.digitVal at hd
  split at hd
  · assumption
  · cases hd
theorem splitL_piece (c : UInt8) : ∀ (l x : List UInt8), x ∈ splitL c l → x.length ≤ l.length
  | [], x, h => by
    have : x = [] := by simpa [splitL] using h
    rw [this]; simp
  | b :: l, x, h => by
    by_cases hb : b = c
    · subst hb
      rw [splitL_cons_eq] at h
      rcases List.mem_cons.1 h with rfl | h
      · simp
      · have := splitL_piece b l x h
        simp only [List.length_cons]; omega
    · rw [splitL_cons_ne hb] at h
      cases hs : splitL c l with
      | nil => exact absurd hs (splitL_ne c l)
      | cons y ys =>
        rw [hs] at h
        have h' : x ∈ (b :: y) :: ys := h
        rcases List.mem_cons.1 h' with rfl | h'
        · have := splitL_piece c l y (by rw [hs]; simp)
          simp only [List.length_cons]; omega
        · have := splitL_piece c l x (by rw [hs]; simp [h'])
          simp only [List.length_cons]; omega
theorem rdOf_bas (ls : List (List UInt8)) (i : Nat) (h : i < ls.length) : rdOf ByteArray.empty (bas ls) (i : Int) = ⟨(ls[i]).toArray⟩ := by
  unfold rdOf bas
  rw [Int.toNat_natCast, List.getD, List.getElem?_eq_getElem (by rw [List.length_map]; exact h), List.getElem_map]
  rfl
theorem mk_list (w : List UInt8) : (⟨w.toArray⟩ : ByteArray).data.toList = w := by simp
theorem mk_toList (w : List UInt8) : (⟨w.toArray⟩ : ByteArray).toList = w := by rw [Lib.toList_data, mk_list]
theorem mk_size (w : List UInt8) : (⟨w.toArray⟩ : ByteArray).size = w.length := by rw [← data_length, mk_list]
theorem wrap_next {j : Nat} (h : j + 1 ≤ 9223372036854775807) : wrap64 ((j : Int) + 1) = ((j + 1 : Nat) : Int) := by
  rw [w64 (by omega) (by omega)]
  omega
end Go.Proofs.YtoiioapkebglgaaDoor.PC
end
section
namespace Go.Proofs.YtoiioapkebglgaaDoor.PC
open Go.RowKit Go.Proofs.YtoiioapkebglgaaDoorW.PrintWords Go.Proofs.YtoiioapkebglgaaDoorB
set_option linter.unusedVariables false
set_option linter.unusedSimpArgs false
/-- Whether a word is a number of at most ten digits, with or without a sign. -/
def numS : List UInt8 → Bool
  | [] => false
  | c :: t => if c = 45 then (match numD t with | some u => decide (0 < u) | none => false) else (numD (c :: t)).isSome
theorem numS_minus (t : List UInt8) : numS (45 :: t) = (match numD t with | some u => decide (0 < u) | none => false) := by simp [numS]
theorem numS_other {c : UInt8} (h : ¬ c = 45) (t : List UInt8) : numS (c :: t) = (numD (c :: t)).isSome := by simp [numS, h]
theorem trim_minus (t : List UInt8) : Lib.trimPrefix (45 :: t) [45] = t := by simp [Lib.trimPrefix, Lib.hasPrefix]
theorem trim_other {c : UInt8} (h : ¬ c = 45) (t : List UInt8) : Lib.trimPrefix (c :: t) [45] = c :: t := by
  unfold Lib.trimPrefix Lib.hasPrefix
  rw [if_neg]
  simp only [List.isPrefixOf_cons_cons, Bool.and_eq_true, beq_iff_eq, not_and]
  intro h1
  exact absurd h1.symm h
theorem numS_ok {w : List UInt8} (h : numS w = true) : ∃ v : Int, Lib.parseIntB 64 w = .ok v ∧ Lib.itoa v = w ∧ (Lib.trimPrefix w [45]).length ≤ 10 := by
  cases w with
  | nil => cases h
  | cons c t =>
    by_cases hc : c = 45
    · subst hc
      rw [numS_minus] at h
      cases hn : numD t with
      | none => rw [hn] at h; cases h
      | some u =>
        rw [hn] at h
        have hu : 0 < u := of_decide_eq_true h
        obtain ⟨h1, h2, h3⟩ := numD_some hn
        have hs := Lib.decNat_small (l := t) (by omega) h2
        refine ⟨-(u : Int), ?_, ?_, ?_⟩
        · rw [Lib.parseIntB_minus, Lib.parseUintB_64, Lib.parseMag_short _ (by omega), h2]
          simp only [Lib.NumEnd.ofOption, Lib.signedC]
          rw [if_neg (by omega)]
        · rw [Lib.itoa_neg u hu, h3]
        · rw [trim_minus]; exact h1
    · rw [numS_other hc] at h
      cases hn : numD (c :: t) with
      | none => rw [hn] at h; cases h
      | some u =>
        obtain ⟨h1, h2, h3⟩ := numD_some hn
        have hs := Lib.decNat_small (l := c :: t) (by omega) h2
        have hb := digits_byte (u := u) (x := c) (by rw [h3]; simp)
        refine ⟨(u : Int), ?_, ?_, ?_⟩
        · rw [Lib.parseIntB_plain 64 c t (by omega) (by omega), Lib.parseUintB_64, Lib.parseMag_short _ (by omega), h2]
          simp only [Lib.NumEnd.ofOption, Lib.signlessC]
          rw [if_neg (by omega)]
        · rw [Lib.itoa_nonneg, h3]
        · rw [trim_other hc]; exact h1
theorem numS_of {w : List UInt8} {v : Int} (h : Lib.itoa v = w) (h2 : (Lib.trimPrefix w [45]).length ≤ 10) : numS w = true := by
  rcases Int.lt_or_le v 0 with hv | hv
  · obtain ⟨u, rfl⟩ : ∃ u : Nat, v = -(u : Int) := ⟨v.natAbs, by omega⟩
    rw [Lib.itoa_neg u (by omega)] at h
    subst h
    rw [trim_minus] at h2
    rw [numS_minus, numD_of h2]
    exact decide_eq_true (by omega)
  · rw [itoa_eq_nat hv] at h
    cases w with
    | nil => exact absurd h (decDigits_ne _)
    | cons c t =>
      have hb := digits_byte (u := v.toNat) (x := c) (by rw [h]; simp)
      have hc : ¬ c = 45 := fun e => by rw [e] at hb; exact absurd hb.1 (by decide)
      rw [trim_other hc] at h2
      rw [numS_other hc, ← h, numD_of (by rw [h]; exact h2)]
      rfl
theorem impl_readNumber_eq {w : List UInt8} (h : w.length ≤ 1048576) : ∃ v : Int, impl_readNumber.f ⟨w.toArray⟩ = some (v, numS w) := by
  have hsz : (⟨w.toArray⟩ : ByteArray).size = w.length := mk_size w
  unfold impl_readNumber.f
  rw [if_pos (by omega), mk_list]
  cases hp : Lib.parseIntB 64 w
  · rename_i v
    have hb := Lib.parseIntB_bounds hp
    simp only
    rw [if_pos ⟨by omega, by omega⟩]
    unfold signOf
    have ht : (trimB ⟨w.toArray⟩).size = (Lib.trimPrefix w [45]).length := by unfold trimB; rw [mk_size, mk_list]
    rw [ht]
    have hb2 : (itoaB v).toList = (⟨w.toArray⟩ : ByteArray).toList ↔ Lib.itoa v = w := by rw [Lib.toList_data, Lib.toList_data, itoaB_data, mk_list]
    by_cases c1 : (Lib.trimPrefix w [45]).length > 10
    · rw [if_pos c1]
      refine ⟨0, ?_⟩
      cases hn : numS w with
      | false => rfl
      | true => obtain ⟨_, _, _, h3⟩ := numS_ok hn; omega
    · rw [if_neg c1]
      by_cases c2 : Lib.itoa v = w
      · rw [if_pos (hb2.2 c2), numS_of c2 (by omega)]
        exact ⟨v, rfl⟩
      · rw [if_neg (fun e => c2 (hb2.1 e))]
        refine ⟨0, ?_⟩
        cases hn : numS w with
        | false => rfl
        | true =>
          obtain ⟨v2, h3, h4, _⟩ := numS_ok hn
          rw [hp] at h3
          have h5 : v = v2 := by injection h3
          exact absurd (h5 ▸ h4) c2
  all_goals
    refine ⟨0, ?_⟩
    cases hn : numS w with
    | false => rfl
    | true =>
      obtain ⟨v2, h3, _, _⟩ := numS_ok hn
      rw [hp] at h3
      cases h3
theorem signed_digits (l : List UInt8) : ∃ n : Int, Ev (fun k => spec_l01Digits.f k ⟨l.toArray⟩) (n, (numD l).isSome) ∧ ∀ u, numD l = some u → n = (u : Int) := by
  have h := spec_l01Digits_ev ⟨l.toArray⟩
  rw [mk_list] at h
  exact h
theorem spec_l01Signed_s (l : List UInt8) : ∃ n : Int, Ev (fun k => spec_l01Signed.f k ⟨l.toArray⟩) (n, numS l) := by
  have plain : ∃ n : Int, Ev (fun k => spec_l01Signed.j0 k ⟨l.toArray⟩ false) (n, (numD l).isSome) := by
    obtain ⟨n, h1, h2⟩ := signed_digits l
    refine ⟨n, Ev.succ ?_⟩
    simp only [spec_l01Signed.j0]
    exact Ev.neg (by simp) (Ev.bind h1 (Ev.eq rfl))
  unfold spec_l01Signed.f
  cases l with
  | nil =>
    obtain ⟨n, h1⟩ := plain
    exact ⟨n, Ev.neg (by rw [mk_size]; simp) h1⟩
  | cons c t =>
    have hsz : (⟨(c :: t).toArray⟩ : ByteArray).size = t.length + 1 := by rw [mk_size]; rfl
    have hb : bt (⟨(c :: t).toArray⟩ : ByteArray) 0 = (c.toNat : Int) := by
      have h := bt_get' ⟨(c :: t).toArray⟩ 0 (by rw [mk_list]; simp)
      simpa using h
    by_cases hc : c = 45
    · subst hc
      obtain ⟨n, h1, h2⟩ := signed_digits t
      have hex : (⟨((45 : UInt8) :: t).toArray⟩ : ByteArray).extract 1 (⟨((45 : UInt8) :: t).toArray⟩ : ByteArray).size = ⟨t.toArray⟩ := by
        rw [extract_list, mk_list, mk_size]
        simp
      have e45 : (bt (⟨((45 : UInt8) :: t).toArray⟩ : ByteArray) 0 == 45) = true := by rw [hb]; rfl
      refine ⟨wrap64 (-n), ?_⟩
      have hS : numS (45 :: t) = (match numD t with | some u => decide (0 < u) | none => false) := numS_minus t
      refine Ev.pos (by rw [hsz]; omega) (Ev.pos (by rw [hsz]; omega) ?_)
      rw [e45, hS]
      refine Ev.succ ?_
      simp only [spec_l01Signed.j0]
      rw [hex]
      refine Ev.pos trivial (Ev.pos (by rw [hsz]; omega) (Ev.bind h1 ?_))
      cases hn : numD t with
      | none => exact Ev.neg (by simp) (Ev.eq rfl)
      | some u =>
        rw [h2 u hn]
        refine Ev.pos rfl (Ev.eq ?_)
        congr 2
        rw [Bool.eq_iff_iff]
        simp only [decide_eq_true_eq]
        omega
    · have e45 : (bt (⟨(c :: t).toArray⟩ : ByteArray) 0 == 45) = false := by
        rw [hb, beq_eq_false_iff_ne]
        intro h
        exact hc ((byteOf 45 c).1 (by rw [h]; rfl))
      obtain ⟨n, h1⟩ := plain
      have hS : numS (c :: t) = (numD (c :: t)).isSome := numS_other hc t
      refine ⟨n, Ev.pos (by rw [hsz]; omega) (Ev.pos (by rw [hsz]; omega) ?_)⟩
      rw [e45, hS]
      exact h1
theorem spec_l01Numbers_sl0 (ws : List (List UInt8)) (hl : ws.length ≤ 1048577) : ∀ d i, i + d = ws.length → ∀ out : List Int, out.length = i →
    ∃ r : List Int, Ev (fun k => spec_l01Numbers.l0 k (bas ws) out (i : Int)) (r, (ws.drop i).all numS) ∧ ((ws.drop i).all numS = true → r.length = ws.length) := by
  have hbl := bas_length ws
  intro d
  induction d with
  | zero =>
    intro i hi out ho
    rw [List.drop_of_length_le (by omega)]
    refine ⟨out, Ev.succ ?_, fun _ => by omega⟩
    simp only [spec_l01Numbers.l0]
    exact Ev.neg (by omega) (Ev.eq rfl)
  | succ d ih =>
    intro i hi out ho
    have hlt : i < ws.length := by omega
    have hw := rdOf_bas ws i hlt
    have hdr := List.drop_eq_getElem_cons hlt
    generalize (ws)[i] = w at hw hdr
    obtain ⟨v, h1⟩ := spec_l01Signed_s w
    have e1 : wrap64 ((i : Int) + 1) = ((i + 1 : Nat) : Int) := wrap_next (by omega)
    rw [hdr, List.all_cons]
    cases hv : numS w with
    | true =>
      rw [hv] at h1
      obtain ⟨r, h3, h4⟩ := ih (i + 1) (by omega) (out ++ [v]) (by rw [List.length_append, List.length_singleton]; omega)
      rw [Bool.true_and]
      refine ⟨r, Ev.succ ?_, h4⟩
      simp only [spec_l01Numbers.l0, hw, e1]
      exact Ev.pos (by omega) (Ev.pos (by omega) (Ev.bind h1 (Ev.pos rfl (Ev.pos (by omega) h3))))
    | false =>
      rw [hv] at h1
      rw [Bool.false_and]
      refine ⟨[], Ev.succ ?_, fun h => by cases h⟩
      simp only [spec_l01Numbers.l0, hw, e1]
      exact Ev.pos (by omega) (Ev.pos (by omega) (Ev.bind h1 (Ev.neg (by simp) (Ev.eq rfl))))
theorem spec_l01Numbers_s (ws : List (List UInt8)) (hl : ws.length ≤ 1048577) : ∃ r : List Int, Ev (fun k => spec_l01Numbers.f k (bas ws)) (r, ws.all numS) ∧ (ws.all numS = true → r.length = ws.length) := by
  obtain ⟨r, h1, h2⟩ := spec_l01Numbers_sl0 ws hl ws.length 0 (by omega) [] rfl
  rw [List.drop_zero] at h1 h2
  exact ⟨r, h1, h2⟩
end Go.Proofs.YtoiioapkebglgaaDoor.PC
end
section
namespace Go.Proofs.YtoiioapkebglgaaDoor.PC
open Go.RowKit Go.Proofs.YtoiioapkebglgaaDoorW.PrintWords Go.Proofs.YtoiioapkebglgaaDoorB
set_option linter.unusedVariables false
set_option linter.unusedSimpArgs false
/-- What follows the first word of a command: numbers, and a word at the end. -/
def rst (n : Nat) (L : Bool) : ByteArray := ⟨(List.replicate n (105 : UInt8) ++ (if L = true then [119] else [])).toArray⟩
def shp (n : Nat) (L M : Bool) : ByteArray := ⟨(List.replicate n (105 : UInt8) ++ (if L = true then [119] else []) ++ (if M = true then [46] else [])).toArray⟩
theorem shape_k {α : Type} {g : Nat → ByteArray → Option α} {r : α} (a : ByteArray) (h : ∀ j, g (j + 5) a = some r) : Ev (fun k => g k a) r :=
  ⟨5, fun k hk => by obtain ⟨j, rfl⟩ : ∃ j, k = j + 5 := ⟨k - 5, by omega⟩; exact h j⟩
theorem shapes (a : ByteArray) :
    (∃ (n : Nat) (L M : Bool), n ≤ 3 ∧ (L = true → M = false) ∧ Ev (fun k => impl_shapeOf.f k a) (shp n L M, true) ∧ Ev (fun k => spec_l30Shape.f k a) ((n : Int), (if M = true then 4000 else (n : Int)), L)) ∨
    (Ev (fun k => impl_shapeOf.f k a) ((⟨#[]⟩ : ByteArray), false) ∧ Ev (fun k => spec_l30Shape.f k a) (-1, -1, false)) := by
  by_cases h0 : a.toList = ([102, 114, 111, 110, 116] : List UInt8)
  · exact Or.inl ⟨0, false, false, by omega, by simp, shape_k a (fun j => by simp [h0, shp, impl_shapeOf.f, impl_shapeOf.j0, impl_shapeOf.j1, impl_shapeOf.j2, impl_shapeOf.j3]), shape_k a (fun j => by simp [h0, spec_l30Shape.f, spec_l30Shape.j0, spec_l30Shape.j1, spec_l30Shape.j2, spec_l30Shape.j3])⟩
  by_cases h1 : a.toList = ([98, 97, 99, 107] : List UInt8)
  · exact Or.inl ⟨0, false, false, by omega, by simp, shape_k a (fun j => by simp [h1, shp, impl_shapeOf.f, impl_shapeOf.j0, impl_shapeOf.j1, impl_shapeOf.j2, impl_shapeOf.j3]), shape_k a (fun j => by simp [h1, spec_l30Shape.f, spec_l30Shape.j0, spec_l30Shape.j1, spec_l30Shape.j2, spec_l30Shape.j3])⟩
  by_cases h2 : a.toList = ([115, 116, 97, 114, 116, 115] : List UInt8)
  · exact Or.inl ⟨0, false, false, by omega, by simp, shape_k a (fun j => by simp [h2, shp, impl_shapeOf.f, impl_shapeOf.j0, impl_shapeOf.j1, impl_shapeOf.j2, impl_shapeOf.j3]), shape_k a (fun j => by simp [h2, spec_l30Shape.f, spec_l30Shape.j0, spec_l30Shape.j1, spec_l30Shape.j2, spec_l30Shape.j3])⟩
  by_cases h3 : a.toList = ([98, 108, 97, 110, 107, 115] : List UInt8)
  · exact Or.inl ⟨0, false, false, by omega, by simp, shape_k a (fun j => by simp [h3, shp, impl_shapeOf.f, impl_shapeOf.j0, impl_shapeOf.j1, impl_shapeOf.j2, impl_shapeOf.j3]), shape_k a (fun j => by simp [h3, spec_l30Shape.f, spec_l30Shape.j0, spec_l30Shape.j1, spec_l30Shape.j2, spec_l30Shape.j3])⟩
  by_cases h4 : a.toList = ([108, 97, 98, 101, 108] : List UInt8)
  · exact Or.inl ⟨1, false, false, by omega, by simp, shape_k a (fun j => by simp [h4, shp, impl_shapeOf.f, impl_shapeOf.j0, impl_shapeOf.j1, impl_shapeOf.j2, impl_shapeOf.j3]), shape_k a (fun j => by simp [h4, spec_l30Shape.f, spec_l30Shape.j0, spec_l30Shape.j1, spec_l30Shape.j2, spec_l30Shape.j3])⟩
  by_cases h5 : a.toList = ([115, 105, 103, 110, 97, 116, 117, 114, 101, 115] : List UInt8)
  · exact Or.inl ⟨1, false, false, by omega, by simp, shape_k a (fun j => by simp [h5, shp, impl_shapeOf.f, impl_shapeOf.j0, impl_shapeOf.j1, impl_shapeOf.j2, impl_shapeOf.j3]), shape_k a (fun j => by simp [h5, spec_l30Shape.f, spec_l30Shape.j0, spec_l30Shape.j1, spec_l30Shape.j2, spec_l30Shape.j3])⟩
  by_cases h6 : a.toList = ([97, 100, 118, 97, 110, 99, 101] : List UInt8)
  · exact Or.inl ⟨1, false, false, by omega, by simp, shape_k a (fun j => by simp [h6, shp, impl_shapeOf.f, impl_shapeOf.j0, impl_shapeOf.j1, impl_shapeOf.j2, impl_shapeOf.j3]), shape_k a (fun j => by simp [h6, spec_l30Shape.f, spec_l30Shape.j0, spec_l30Shape.j1, spec_l30Shape.j2, spec_l30Shape.j3])⟩
  by_cases h7 : a.toList = ([100, 114, 111, 112] : List UInt8)
  · exact Or.inl ⟨1, false, false, by omega, by simp, shape_k a (fun j => by simp [h7, shp, impl_shapeOf.f, impl_shapeOf.j0, impl_shapeOf.j1, impl_shapeOf.j2, impl_shapeOf.j3]), shape_k a (fun j => by simp [h7, spec_l30Shape.f, spec_l30Shape.j0, spec_l30Shape.j1, spec_l30Shape.j2, spec_l30Shape.j3])⟩
  by_cases h8 : a.toList = ([108, 97, 116, 101] : List UInt8)
  · exact Or.inl ⟨1, false, false, by omega, by simp, shape_k a (fun j => by simp [h8, shp, impl_shapeOf.f, impl_shapeOf.j0, impl_shapeOf.j1, impl_shapeOf.j2, impl_shapeOf.j3]), shape_k a (fun j => by simp [h8, spec_l30Shape.f, spec_l30Shape.j0, spec_l30Shape.j1, spec_l30Shape.j2, spec_l30Shape.j3])⟩
  by_cases h9 : a.toList = ([115, 104, 101, 101, 116, 115] : List UInt8)
  · exact Or.inl ⟨1, false, false, by omega, by simp, shape_k a (fun j => by simp [h9, shp, impl_shapeOf.f, impl_shapeOf.j0, impl_shapeOf.j1, impl_shapeOf.j2, impl_shapeOf.j3]), shape_k a (fun j => by simp [h9, spec_l30Shape.f, spec_l30Shape.j0, spec_l30Shape.j1, spec_l30Shape.j2, spec_l30Shape.j3])⟩
  by_cases h10 : a.toList = ([110, 101, 115, 116, 101, 100] : List UInt8)
  · exact Or.inl ⟨2, false, false, by omega, by simp, shape_k a (fun j => by simp [h10, shp, impl_shapeOf.f, impl_shapeOf.j0, impl_shapeOf.j1, impl_shapeOf.j2, impl_shapeOf.j3]), shape_k a (fun j => by simp [h10, spec_l30Shape.f, spec_l30Shape.j0, spec_l30Shape.j1, spec_l30Shape.j2, spec_l30Shape.j3])⟩
  by_cases h11 : a.toList = ([111, 102, 102, 101, 114] : List UInt8)
  · exact Or.inl ⟨2, false, false, by omega, by simp, shape_k a (fun j => by simp [h11, shp, impl_shapeOf.f, impl_shapeOf.j0, impl_shapeOf.j1, impl_shapeOf.j2, impl_shapeOf.j3]), shape_k a (fun j => by simp [h11, spec_l30Shape.f, spec_l30Shape.j0, spec_l30Shape.j1, spec_l30Shape.j2, spec_l30Shape.j3])⟩
  by_cases h12 : a.toList = ([116, 97, 107, 101] : List UInt8)
  · exact Or.inl ⟨2, false, false, by omega, by simp, shape_k a (fun j => by simp [h12, shp, impl_shapeOf.f, impl_shapeOf.j0, impl_shapeOf.j1, impl_shapeOf.j2, impl_shapeOf.j3]), shape_k a (fun j => by simp [h12, spec_l30Shape.f, spec_l30Shape.j0, spec_l30Shape.j1, spec_l30Shape.j2, spec_l30Shape.j3])⟩
  by_cases h13 : a.toList = ([99, 111, 100, 101] : List UInt8)
  · exact Or.inl ⟨2, false, false, by omega, by simp, shape_k a (fun j => by simp [h13, shp, impl_shapeOf.f, impl_shapeOf.j0, impl_shapeOf.j1, impl_shapeOf.j2, impl_shapeOf.j3]), shape_k a (fun j => by simp [h13, spec_l30Shape.f, spec_l30Shape.j0, spec_l30Shape.j1, spec_l30Shape.j2, spec_l30Shape.j3])⟩
  by_cases h14 : a.toList = ([114, 101, 99, 101, 105, 118, 101] : List UInt8)
  · exact Or.inl ⟨3, false, false, by omega, by simp, shape_k a (fun j => by simp [h14, shp, impl_shapeOf.f, impl_shapeOf.j0, impl_shapeOf.j1, impl_shapeOf.j2, impl_shapeOf.j3]), shape_k a (fun j => by simp [h14, spec_l30Shape.f, spec_l30Shape.j0, spec_l30Shape.j1, spec_l30Shape.j2, spec_l30Shape.j3])⟩
  by_cases h15 : a.toList = ([115, 112, 105, 110, 101] : List UInt8)
  · exact Or.inl ⟨3, false, false, by omega, by simp, shape_k a (fun j => by simp [h15, shp, impl_shapeOf.f, impl_shapeOf.j0, impl_shapeOf.j1, impl_shapeOf.j2, impl_shapeOf.j3]), shape_k a (fun j => by simp [h15, spec_l30Shape.f, spec_l30Shape.j0, spec_l30Shape.j1, spec_l30Shape.j2, spec_l30Shape.j3])⟩
  by_cases h16 : a.toList = ([115, 104, 101, 101, 116] : List UInt8)
  · exact Or.inl ⟨2, true, false, by omega, by simp, shape_k a (fun j => by simp [h16, shp, impl_shapeOf.f, impl_shapeOf.j0, impl_shapeOf.j1, impl_shapeOf.j2, impl_shapeOf.j3]), shape_k a (fun j => by simp [h16, spec_l30Shape.f, spec_l30Shape.j0, spec_l30Shape.j1, spec_l30Shape.j2, spec_l30Shape.j3])⟩
  by_cases h17 : a.toList = ([114, 101, 97, 100] : List UInt8)
  · exact Or.inl ⟨0, true, false, by omega, by simp, shape_k a (fun j => by simp [h17, shp, impl_shapeOf.f, impl_shapeOf.j0, impl_shapeOf.j1, impl_shapeOf.j2, impl_shapeOf.j3]), shape_k a (fun j => by simp [h17, spec_l30Shape.f, spec_l30Shape.j0, spec_l30Shape.j1, spec_l30Shape.j2, spec_l30Shape.j3])⟩
  by_cases h18 : a.toList = ([98, 111, 111, 107] : List UInt8)
  · exact Or.inl ⟨3, false, true, by omega, by simp, shape_k a (fun j => by simp [h18, shp, impl_shapeOf.f, impl_shapeOf.j0, impl_shapeOf.j1, impl_shapeOf.j2, impl_shapeOf.j3]), shape_k a (fun j => by simp [h18, spec_l30Shape.f, spec_l30Shape.j0, spec_l30Shape.j1, spec_l30Shape.j2, spec_l30Shape.j3])⟩
  by_cases h19 : a.toList = ([101, 120, 112, 108, 97, 105, 110] : List UInt8)
  · exact Or.inl ⟨1, false, true, by omega, by simp, shape_k a (fun j => by simp [h19, shp, impl_shapeOf.f, impl_shapeOf.j0, impl_shapeOf.j1, impl_shapeOf.j2, impl_shapeOf.j3]), shape_k a (fun j => by simp [h19, spec_l30Shape.f, spec_l30Shape.j0, spec_l30Shape.j1, spec_l30Shape.j2, spec_l30Shape.j3])⟩
  exact Or.inr ⟨shape_k a (fun j => by simp [h0, h1, h2, h3, h4, h5, h6, h7, h8, h9, h10, h11, h12, h13, h14, h15, h16, h17, h18, h19, impl_shapeOf.f, impl_shapeOf.j0, impl_shapeOf.j1, impl_shapeOf.j2, impl_shapeOf.j3]), shape_k a (fun j => by simp [h0, h1, h2, h3, h4, h5, h6, h7, h8, h9, h10, h11, h12, h13, h14, h15, h16, h17, h18, h19, spec_l30Shape.f, spec_l30Shape.j0, spec_l30Shape.j1, spec_l30Shape.j2, spec_l30Shape.j3])⟩
theorem cut_shp : ∀ (n : Fin 4) (L M : Bool), strings_CutSuffix.f (shp n.val L M) (⟨#[46]⟩ : ByteArray) = some (rst n.val L, M) := by decide
theorem cut_none : strings_CutSuffix.f (⟨#[]⟩ : ByteArray) (⟨#[46]⟩ : ByteArray) = some (⟨#[]⟩, false) := by decide
theorem rst_size : ∀ (n : Fin 4) (L : Bool), (rst n.val L).size = n.val + (if L = true then 1 else 0) := by decide
theorem rst_at : ∀ (n : Fin 4) (L : Bool) (i : Fin 4), i.val < n.val + (if L = true then 1 else 0) → (bt (rst n.val L) (i.val : Int) == 119) = (L && decide (i.val = n.val)) := by decide
/-- Whether the words from one on are what a command asks for; c numbers have been read. -/
def goodFrom (n : Nat) (L : Bool) : Nat → List (List UInt8) → Nat → Bool
  | _, [], c => decide (c ≤ 4000)
  | i, v :: vs, c => if (L && decide (i = n)) = true then (!v.isEmpty && goodFrom n L (i + 1) vs c) else (numS v && goodFrom n L (i + 1) vs (c + 1))
theorem goodFrom_false (n : Nat) : ∀ (vs : List (List UInt8)) (i c : Nat), goodFrom n false i vs c = (vs.all numS && decide (c + vs.length ≤ 4000))
  | [], i, c => by simp [goodFrom]
  | v :: vs, i, c => by
    rw [goodFrom, Bool.false_and, if_neg (by simp), goodFrom_false n vs (i + 1) (c + 1), List.all_cons, Bool.and_assoc, List.length_cons, show c + 1 + vs.length = c + (vs.length + 1) from by omega]
theorem goodFrom_true (n : Nat) (x : List UInt8) : ∀ (us : List (List UInt8)) (i c : Nat), i + us.length = n → goodFrom n true i (us ++ [x]) c = (us.all numS && (!x.isEmpty && decide (c + us.length ≤ 4000)))
  | [], i, c, h => by
    have h' : i = n := by simpa using h
    subst h'
    simp [goodFrom]
  | v :: us, i, c, h => by
    rw [List.length_cons] at h
    have hi : ¬ i = n := by omega
    rw [List.cons_append, goodFrom, if_neg (by simp [hi]), goodFrom_true n x us (i + 1) (c + 1) (by omega), List.all_cons, Bool.and_assoc, List.length_cons, show c + 1 + us.length = c + (us.length + 1) from by omega]
/-- Whether the words behind the first are what a command asks for. -/
def fits (n : Nat) (L M : Bool) (vs : List (List UInt8)) : Bool := (decide (n + (if L = true then 1 else 0) ≤ vs.length) && (decide (vs.length ≤ n + (if L = true then 1 else 0)) || M)) && goodFrom n L 0 vs 0
theorem bas_nil_iff (v : List UInt8) : (⟨v.toArray⟩ : ByteArray).toList = ([] : List UInt8) ↔ v.isEmpty = true := by rw [mk_toList]; simp
theorem readCommand_l0 (n : Fin 4) (L : Bool) (vs : List (List UInt8)) (hl : vs.length ≤ 1048577) (hv : ∀ w ∈ vs, w.length ≤ 1048576) : ∀ d i, i + d = vs.length → ∀ (name w : ByteArray) (out : List Int), out.length ≤ i →
    ∃ r, Ev (fun k => impl_readCommand.l0 k (rst n.val L) (bas vs) (vs.length : Int) (i : Int) name out w) r ∧ r.2.2.2 = goodFrom n.val L i (vs.drop i) out.length := by
  have hbl := bas_length vs
  have hrs := rst_size n L
  have hn := n.isLt
  intro d
  induction d with
  | zero =>
    intro i hi name w out ho
    rw [List.drop_of_length_le (by omega)]
    refine ⟨(name, out, w, decide ((out.length : Int) ≤ 4000)), Ev.succ ?_, ?_⟩
    · simp only [impl_readCommand.l0]
      exact Ev.neg (by omega) (Ev.eq rfl)
    · simp only [goodFrom]
      rw [Bool.eq_iff_iff]
      simp only [decide_eq_true_eq]
      omega
  | succ d ih =>
    intro i hi name w out ho
    have hlt : i < vs.length := by omega
    have hw := rdOf_bas vs i hlt
    have hvl := hv _ (List.getElem_mem hlt)
    have hdr := List.drop_eq_getElem_cons hlt
    generalize (vs)[i] = v at hw hdr hvl
    have e1 : wrap64 ((i : Int) + 1) = ((i + 1 : Nat) : Int) := wrap_next (by omega)
    rw [hdr, goodFrom]
    have step : ∀ q : Bool, q = (L && decide (i = n.val)) → ∃ r, Ev (fun k => impl_readCommand.j2 k (rst n.val L) ⟨v.toArray⟩ (bas vs) (vs.length : Int) (i : Int) q name out w) r ∧ r.2.2.2 = (if (L && decide (i = n.val)) = true then (!v.isEmpty && goodFrom n.val L (i + 1) (vs.drop (i + 1)) out.length) else (numS v && goodFrom n.val L (i + 1) (vs.drop (i + 1)) (out.length + 1))) := by
      intro q hq
      rw [← hq]
      cases q with
      | true =>
        rw [if_pos rfl]
        cases hE : v.isEmpty with
        | true =>
          refine ⟨(name, out, ⟨v.toArray⟩, false), Ev.succ ?_, by simp⟩
          simp only [impl_readCommand.j2]
          exact Ev.pos trivial (Ev.pos ((bas_nil_iff v).2 hE) (Ev.eq rfl))
        | false =>
          obtain ⟨r, h1, h2⟩ := ih (i + 1) (by omega) name ⟨v.toArray⟩ out (by omega)
          refine ⟨r, Ev.succ ?_, by rw [h2]; simp⟩
          simp only [impl_readCommand.j2, e1]
          exact Ev.pos trivial (Ev.neg (fun h => by rw [(bas_nil_iff v).1 h] at hE; cases hE) h1)
      | false =>
        rw [if_neg (by simp)]
        obtain ⟨x, hx⟩ := impl_readNumber_eq (w := v) hvl
        cases hN : numS v with
        | false =>
          rw [hN] at hx
          refine ⟨(name, out, w, false), Ev.succ ?_, by simp⟩
          simp only [impl_readCommand.j2]
          exact Ev.neg (by simp) (Ev.bind (Ev.eq hx) (Ev.neg (by simp) (Ev.eq rfl)))
        | true =>
          rw [hN] at hx
          obtain ⟨r, h1, h2⟩ := ih (i + 1) (by omega) name w (out ++ [x]) (by rw [List.length_append, List.length_singleton]; omega)
          refine ⟨r, Ev.succ ?_, by rw [h2, List.length_append, List.length_singleton]; simp⟩
          simp only [impl_readCommand.j2, e1]
          exact Ev.neg (by simp) (Ev.bind (Ev.eq hx) (Ev.pos rfl (Ev.pos (by omega) h1)))
    by_cases hs : i < (rst n.val L).size
    · rw [hrs] at hs
      have h4 : i < 4 := by split at hs <;> omega
      have hat := rst_at n L ⟨i, h4⟩ hs
      obtain ⟨r, h1, h2⟩ := step _ hat
      refine ⟨r, Ev.succ ?_, h2⟩
      simp only [impl_readCommand.l0, hw]
      exact Ev.pos (by omega) (Ev.pos (by omega) (Ev.pos (by omega) (Ev.pos (by omega) h1)))
    · have hq : false = (L && decide (i = n.val)) := by
        cases L with
        | false => rfl
        | true =>
          rw [hrs, if_pos rfl] at hs
          rw [Bool.true_and]
          exact (decide_eq_false (by omega)).symm
      obtain ⟨r, h1, h2⟩ := step _ hq
      refine ⟨r, Ev.succ ?_, h2⟩
      simp only [impl_readCommand.l0, hw]
      exact Ev.pos (by omega) (Ev.pos (by omega) (Ev.pos (by omega) (Ev.neg (by omega) h1)))
/-- The first word of a line and what follows it. -/
theorem words_of {s : ByteArray} (hs : s.size ≤ 1048576) : ∃ (w : List UInt8) (vs : List (List UInt8)), splitL 32 s.data.toList = w :: vs ∧ vs.length ≤ 1048576 ∧ (∀ x ∈ vs, x.length ≤ 1048576) ∧ w.length ≤ 1048576 := by
  have hsz : s.data.toList.length = s.size := data_length s
  have hl := splitL_length 32 s.data.toList
  have hc : s.data.toList.count 32 ≤ s.data.toList.length := List.count_le_length
  have hp := splitL_piece 32 s.data.toList
  cases h : splitL 32 s.data.toList with
  | nil => exact absurd h (splitL_ne _ _)
  | cons w vs =>
    rw [h] at hl hp
    rw [List.length_cons] at hl
    exact ⟨w, vs, rfl, by omega, fun x hx => by have := hp x (List.mem_cons_of_mem _ hx); omega, by have := hp w (by simp); omega⟩
/-- Whether a line is a command. -/
theorem command_ev {s : ByteArray} (hs : s.size ≤ 1048576) : ∃ b : Bool, (∃ r, Ev (fun k => impl_readCommand.f k s) r ∧ r.2.2.2 = b) ∧ (∃ r, Ev (fun k => spec_l30Parse.f k s) r ∧ r.2.2.2 = b) := by
  obtain ⟨w, vs, hsp, hvl, hv, hwl⟩ := words_of hs
  have h1 := strings_Split_eq s 32 hs
  have h2 := spec_l01Split_ev s 32 hs
  rw [hsp] at h1 h2
  have hb0 : rdOf ByteArray.empty (bas (w :: vs)) 0 = ⟨w.toArray⟩ := rfl
  have hbd : (bas (w :: vs)).drop 1 = bas vs := rfl
  have hbt : (bas (w :: vs)).drop (1 : Int).toNat = bas vs := rfl
  have hbn : (bas (w :: vs)).length = vs.length + 1 := by rw [bas_length, List.length_cons]
  have hbl := bas_length vs
  have j0f : ∀ (rb a b : ByteArray), Ev (fun k => impl_readCommand.j0 k rb (bas vs) true a b) (a, [], b, false) := fun rb a b => by
    refine Ev.succ ?_
    simp only [impl_readCommand.j0]
    exact Ev.pos trivial (Ev.eq rfl)
  obtain ⟨ns, hnum, hnl⟩ := spec_l01Numbers_s vs (by omega)
  rcases shapes ⟨w.toArray⟩ with ⟨n, L, M, hn, hLM, hi, hsh⟩ | ⟨hi, hsh⟩
  · have hcut := cut_shp ⟨n, by omega⟩ L M
    have hrs := rst_size ⟨n, by omega⟩ L
    have hloop := readCommand_l0 ⟨n, by omega⟩ L vs (by omega) hv vs.length 0 (by omega)
    simp only at hcut hrs hloop
    have j0t : ∀ a b : ByteArray, ∃ r, Ev (fun k => impl_readCommand.j0 k (rst n L) (bas vs) false a b) r ∧ r.2.2.2 = goodFrom n L 0 vs 0 := fun a b => by
      obtain ⟨r, h3, h4⟩ := hloop a b [] (by simp)
      refine ⟨r, Ev.succ ?_, h4⟩
      simp only [impl_readCommand.j0, hbl]
      exact Ev.neg (by simp) h3
    refine ⟨fits n L M vs, ?_, ?_⟩
    · have fin : ∃ r, Ev (fun k => if ((bas vs).length : Int) < ((rst n L).size : Int) then impl_readCommand.j0 k (rst n L) (bas vs) true (⟨w.toArray⟩ : ByteArray) (⟨#[]⟩ : ByteArray) else (if ((bas vs).length : Int) > ((rst n L).size : Int) then impl_readCommand.j0 k (rst n L) (bas vs) (!M) (⟨w.toArray⟩ : ByteArray) (⟨#[]⟩ : ByteArray) else impl_readCommand.j0 k (rst n L) (bas vs) false (⟨w.toArray⟩ : ByteArray) (⟨#[]⟩ : ByteArray))) r ∧ r.2.2.2 = fits n L M vs := by
        unfold fits
        rw [← hrs]
        by_cases c1 : vs.length < (rst n L).size
        · refine ⟨_, Ev.pos (by omega) (j0f _ _ _), ?_⟩
          rw [decide_eq_false (by omega)]
          rfl
        · rw [decide_eq_true (p := (rst n L).size ≤ vs.length) (by omega)]
          by_cases c2 : vs.length > (rst n L).size
          · rw [decide_eq_false (p := vs.length ≤ (rst n L).size) (by omega)]
            cases M with
            | false => exact ⟨_, Ev.neg (by omega) (Ev.pos (by omega) (j0f _ _ _)), rfl⟩
            | true =>
              obtain ⟨r, h3, h4⟩ := j0t (⟨w.toArray⟩ : ByteArray) (⟨#[]⟩ : ByteArray)
              exact ⟨r, Ev.neg (by omega) (Ev.pos (by omega) h3), by rw [h4]; rfl⟩
          · rw [decide_eq_true (p := vs.length ≤ (rst n L).size) (by omega)]
            obtain ⟨r, h3, h4⟩ := j0t (⟨w.toArray⟩ : ByteArray) (⟨#[]⟩ : ByteArray)
            exact ⟨r, Ev.neg (by omega) (Ev.neg (by omega) h3), by rw [h4]; rfl⟩
      obtain ⟨r, h3, h4⟩ := fin
      refine ⟨r, ?_, h4⟩
      unfold impl_readCommand.f
      refine Ev.bind (Ev.eq h1) (Ev.pos (by omega) ?_)
      rw [hb0]
      exact Ev.bind hi (Ev.bind (Ev.eq hcut) (Ev.pos (by omega) (Ev.bind (Ev.eq (congrArg some hbt)) (Ev.pos rfl h3))))
    · unfold spec_l30Parse.f fits
      cases L with
      | false =>
        rw [goodFrom_false, if_neg (by simp)]
        have fin : ∃ r, Ev (fun k => (spec_l01Numbers.f k (bas vs)).bind fun bt153 => (if bt153.2 = true then (if (n : Int) ≥ 0 then (if (bt153.1.length : Int) ≥ (n : Int) then (some ((⟨w.toArray⟩ : ByteArray), bt153.1, (⟨#[]⟩ : ByteArray), decide ((bt153.1.length : Int) ≤ (if M = true then 4000 else (n : Int))))) else (some ((⟨w.toArray⟩ : ByteArray), bt153.1, (⟨#[]⟩ : ByteArray), false))) else (some ((⟨w.toArray⟩ : ByteArray), bt153.1, (⟨#[]⟩ : ByteArray), false))) else (some ((⟨w.toArray⟩ : ByteArray), bt153.1, (⟨#[]⟩ : ByteArray), false)))) r ∧ r.2.2.2 = ((decide (n + 0 ≤ vs.length) && (decide (vs.length ≤ n + 0) || M)) && (vs.all numS && decide (0 + vs.length ≤ 4000))) := by
          cases hall : vs.all numS with
          | false =>
            rw [hall] at hnum
            exact ⟨_, Ev.bind hnum (Ev.neg (by simp) (Ev.eq rfl)), by simp⟩
          | true =>
            rw [hall] at hnum
            have hnl' := hnl hall
            by_cases c : vs.length ≥ n
            · refine ⟨_, Ev.bind hnum (Ev.pos rfl (Ev.pos (by (try dsimp only); omega) (Ev.pos (by (try dsimp only); omega) (Ev.eq rfl)))), ?_⟩
              simp only
              rw [hnl', Bool.eq_iff_iff]
              cases M <;> simp <;> omega
            · refine ⟨_, Ev.bind hnum (Ev.pos rfl (Ev.pos (by (try dsimp only); omega) (Ev.neg (by (try dsimp only); omega) (Ev.eq rfl)))), ?_⟩
              simp only
              rw [decide_eq_false (p := n + 0 ≤ vs.length) (by omega)]
              rfl
        obtain ⟨r, h3, h4⟩ := fin
        refine ⟨r, Ev.bind h2 (Ev.pos (by omega) ?_), h4⟩
        rw [hb0]
        exact Ev.bind hsh (Ev.pos (by omega) (Ev.bind (Ev.eq (congrArg some hbd)) (Ev.neg (by simp) h3)))
      | true =>
        obtain rfl := hLM rfl
        rw [if_pos rfl]
        by_cases c0 : vs.length = 0
        · refine ⟨((⟨#[]⟩ : ByteArray), [], (⟨#[]⟩ : ByteArray), false), Ev.bind h2 (Ev.pos (by omega) ?_), ?_⟩
          · rw [hb0]
            exact Ev.bind hsh (Ev.pos (by omega) (Ev.bind (Ev.eq (congrArg some hbd)) (Ev.pos rfl (Ev.pos (by omega) (Ev.eq rfl)))))
          · rw [decide_eq_false (by omega)]
            rfl
        · have hne : vs ≠ [] := fun h => c0 (by rw [h]; rfl)
          obtain ⟨us, x, rfl⟩ : ∃ us x, vs = us ++ [x] := ⟨vs.dropLast, vs.getLast hne, (List.dropLast_concat_getLast hne).symm⟩
          have hul : (us ++ [x]).length = us.length + 1 := by rw [List.length_append, List.length_singleton]
          have ew : wrap64 (((bas (us ++ [x])).length : Int) - 1) = (us.length : Int) := by rw [w64 (by omega) (by omega)]; omega
          have hx : rdOf ByteArray.empty (bas (us ++ [x])) (us.length : Int) = ⟨x.toArray⟩ := by
            rw [rdOf_bas _ _ (by omega)]
            congr 2
            simp
          have htk : (bas (us ++ [x])).take ((us.length : Int) : Int).toNat = bas us := by
            rw [Int.toNat_natCast, bas, bas, List.map_append, List.take_append_of_le_length (by simp), List.take_of_length_le (by simp)]
          obtain ⟨ns2, hnum2, hnl2⟩ := spec_l01Numbers_s us (by omega)
          have fin : ∃ r, Ev (fun k => if (⟨x.toArray⟩ : ByteArray).toList = ([] : List UInt8) then (some ((⟨#[]⟩ : ByteArray), ([] : List Int), (⟨#[]⟩ : ByteArray), false)) else (if (us.length : Int) ≤ ((bas (us ++ [x])).length : Int) then ((spec_l01Numbers.f k (bas us)).bind fun bt148 => (if bt148.2 = true then (if (n : Int) ≥ 0 then (if (bt148.1.length : Int) ≥ (n : Int) then (some ((⟨w.toArray⟩ : ByteArray), bt148.1, (⟨x.toArray⟩ : ByteArray), decide ((bt148.1.length : Int) ≤ (if false = true then 4000 else (n : Int))))) else (some ((⟨w.toArray⟩ : ByteArray), bt148.1, (⟨x.toArray⟩ : ByteArray), false))) else (some ((⟨w.toArray⟩ : ByteArray), bt148.1, (⟨x.toArray⟩ : ByteArray), false))) else (some ((⟨w.toArray⟩ : ByteArray), bt148.1, (⟨x.toArray⟩ : ByteArray), false)))) else (none))) r ∧ r.2.2.2 = ((decide (n + 1 ≤ (us ++ [x]).length) && (decide ((us ++ [x]).length ≤ n + 1) || false)) && goodFrom n true 0 (us ++ [x]) 0) := by
            by_cases cl : us.length = n
            · rw [goodFrom_true n x us 0 0 (by omega), decide_eq_true (p := n + 1 ≤ (us ++ [x]).length) (by omega), decide_eq_true (p := (us ++ [x]).length ≤ n + 1) (by omega)]
              cases hE : x.isEmpty with
              | true =>
                refine ⟨_, Ev.pos ((bas_nil_iff x).2 hE) (Ev.eq rfl), ?_⟩
                simp
              | false =>
                have hne2 : ¬ (⟨x.toArray⟩ : ByteArray).toList = ([] : List UInt8) := fun h => by rw [(bas_nil_iff x).1 h] at hE; cases hE
                cases hall : us.all numS with
                | false =>
                  rw [hall] at hnum2
                  exact ⟨_, Ev.neg hne2 (Ev.pos (by (try dsimp only); omega) (Ev.bind hnum2 (Ev.neg (by simp) (Ev.eq rfl)))), by simp⟩
                | true =>
                  rw [hall] at hnum2
                  have hnl' := hnl2 hall
                  refine ⟨_, Ev.neg hne2 (Ev.pos (by (try dsimp only); omega) (Ev.bind hnum2 (Ev.pos rfl (Ev.pos (by (try dsimp only); omega) (Ev.pos (by (try dsimp only); omega) (Ev.eq rfl)))))), ?_⟩
                  simp only
                  rw [hnl', Bool.eq_iff_iff]
                  simp
                  omega
            · have hF : ((decide (n + 1 ≤ (us ++ [x]).length) && (decide ((us ++ [x]).length ≤ n + 1) || false)) && goodFrom n true 0 (us ++ [x]) 0) = false := by
                rcases Nat.lt_or_ge us.length n with h | h
                · rw [decide_eq_false (p := n + 1 ≤ (us ++ [x]).length) (by omega)]; rfl
                · rw [decide_eq_false (p := (us ++ [x]).length ≤ n + 1) (by omega), Bool.or_false, Bool.and_false, Bool.false_and]
              rw [hF]
              by_cases cx : (⟨x.toArray⟩ : ByteArray).toList = ([] : List UInt8)
              · exact ⟨_, Ev.pos cx (Ev.eq rfl), rfl⟩
              · cases hall : us.all numS with
                | false =>
                  rw [hall] at hnum2
                  exact ⟨_, Ev.neg cx (Ev.pos (by (try dsimp only); omega) (Ev.bind hnum2 (Ev.neg (by simp) (Ev.eq rfl)))), rfl⟩
                | true =>
                  rw [hall] at hnum2
                  have hnl' := hnl2 hall
                  by_cases c3 : us.length ≥ n
                  · refine ⟨_, Ev.neg cx (Ev.pos (by (try dsimp only); omega) (Ev.bind hnum2 (Ev.pos rfl (Ev.pos (by (try dsimp only); omega) (Ev.pos (by (try dsimp only); omega) (Ev.eq rfl)))))), ?_⟩
                    simp only
                    rw [hnl', if_neg (by simp)]
                    exact decide_eq_false (by omega)
                  · exact ⟨_, Ev.neg cx (Ev.pos (by (try dsimp only); omega) (Ev.bind hnum2 (Ev.pos rfl (Ev.pos (by (try dsimp only); omega) (Ev.neg (by (try dsimp only); omega) (Ev.eq rfl)))))), rfl⟩
          obtain ⟨r, h3, h4⟩ := fin
          refine ⟨r, Ev.bind h2 (Ev.pos (by omega) ?_), h4⟩
          rw [hb0]
          refine Ev.bind hsh (Ev.pos (by omega) (Ev.bind (Ev.eq (congrArg some hbd)) (Ev.pos rfl (Ev.neg (by omega) ?_))))
          rw [ew, hx, htk]
          exact Ev.pos (by omega) (Ev.pos (by omega) h3)
  · refine ⟨false, ⟨((⟨w.toArray⟩ : ByteArray), [], (⟨#[]⟩ : ByteArray), false), ?_, rfl⟩, ?_⟩
    · unfold impl_readCommand.f
      refine Ev.bind (Ev.eq h1) (Ev.pos (by omega) ?_)
      rw [hb0]
      exact Ev.bind hi (Ev.bind (Ev.eq cut_none) (Ev.pos (by omega) (Ev.bind (Ev.eq (congrArg some hbt)) (Ev.neg (by simp) (j0f _ _ _)))))
    · unfold spec_l30Parse.f
      cases hall : vs.all numS with
      | false =>
        rw [hall] at hnum
        refine ⟨((⟨w.toArray⟩ : ByteArray), ns, (⟨#[]⟩ : ByteArray), false), Ev.bind h2 (Ev.pos (by omega) ?_), rfl⟩
        rw [hb0]
        exact Ev.bind hsh (Ev.pos (by (try dsimp only); omega) (Ev.bind (Ev.eq (congrArg some hbd)) (Ev.neg (by simp) (Ev.bind hnum (Ev.neg (by simp) (Ev.eq rfl))))))
      | true =>
        rw [hall] at hnum
        refine ⟨((⟨w.toArray⟩ : ByteArray), ns, (⟨#[]⟩ : ByteArray), false), Ev.bind h2 (Ev.pos (by omega) ?_), rfl⟩
        rw [hb0]
        exact Ev.bind hsh (Ev.pos (by (try dsimp only); omega) (Ev.bind (Ev.eq (congrArg some hbd)) (Ev.neg (by simp) (Ev.bind hnum (Ev.pos rfl (Ev.neg (by simp) (Ev.eq rfl)))))))
end Go.Proofs.YtoiioapkebglgaaDoor.PC
end
section
namespace Go.Proofs.YtoiioapkebglgaaDoor.Pure
open Go.RowKit Go.Proofs.YtoiioapkebglgaaDoorW.PrintWords Go.Proofs.YtoiioapkebglgaaDoorB Go.Proofs.YtoiioapkebglgaaDoor.PC
set_option linter.unusedVariables false
theorem FnExactIsDeskCommand : laws_FnExactIsDeskCommand.Pure := by
  intro a0 _
  refine Ev.rounds (g := fun k => laws_FnExactIsDeskCommand.f k a0) ?_
  unfold laws_FnExactIsDeskCommand.f
  refine Ev.ite (fun _ => Ev.eq rfl) (fun hc => ?_)
  obtain ⟨b, ⟨r1, h1, h2⟩, ⟨r2, h3, h4⟩⟩ := command_ev (s := a0) (by omega)
  have e1 : Ev (fun k => impl_IsDeskCommand.f k a0) b := by
    unfold impl_IsDeskCommand.f
    exact Ev.bind h1 (Ev.eq (by rw [h2]))
  have e2 : Ev (fun k => spec_IsDeskCommand.f k a0) b := by
    unfold spec_IsDeskCommand.f
    exact Ev.bind h3 (Ev.eq (by rw [h4]))
  exact Ev.bind e2 (Ev.bind e1 (Ev.neg (by simp) (Ev.eq rfl)))
end Go.Proofs.YtoiioapkebglgaaDoor.Pure
end
