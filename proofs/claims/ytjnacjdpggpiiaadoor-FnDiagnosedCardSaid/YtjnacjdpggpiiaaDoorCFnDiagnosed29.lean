-- Gathered by this session's program wip/tool/shake.py out of its own texts and of what the kit's print and the session's patches of it wrote for this claim.
import Derived.Test.YtjnacjdpggpiiaaDoorCFnDiagnosed16
import Derived.Test.YtjnacjdpggpiiaaDoorCFnDiagnosed18
import Derived.Test.YtjnacjdpggpiiaaDoorCFnDiagnosed20
import Derived.Test.YtjnacjdpggpiiaaDoorCFnDiagnosed21
import Derived.Test.YtjnacjdpggpiiaaDoorCFnDiagnosed22
import Derived.Test.YtjnacjdpggpiiaaDoorCFnDiagnosed25
import Derived.Test.YtjnacjdpggpiiaaDoorCFnDiagnosed27
import Derived.Test.YtjnacjdpggpiiaaDoorCFnDiagnosed28
section
namespace Go.Proofs.YtjnacjdpggpiiaaDoor.PU
open Go.RowKit Go.Proofs.YtjnacjdpggpiiaaDoorW.PrintWords Go.Proofs.YtjnacjdpggpiiaaDoorB
set_option linter.unusedVariables false
set_option linter.unusedSimpArgs false
theorem ba_assoc (a b c : ByteArray) : a ++ b ++ c = a ++ (b ++ c) := by
  refine ba_ext ?_
  simp only [ByteArray.data_append, Array.toList_append, List.append_assoc]
theorem ba_size (a b : ByteArray) : (a ++ b).size = a.size + b.size := ByteArray.size_append
def kindWord (x : Int) : ByteArray := if x = 1 then ⟨#[109, 105, 115, 115, 105, 110, 103]⟩ else if x = 2 then ⟨#[100, 111, 117, 98, 108, 101]⟩ else if x = 3 then ⟨#[116, 117, 114, 110, 101, 100]⟩ else ⟨#[119, 114, 111, 110, 103]⟩
theorem kindWord_le (x : Int) : (kindWord x).size ≤ 7 := by
  unfold kindWord
  split
  · decide
  · split
    · decide
    · split <;> decide
def kindLine (i : Nat) (x : Int) : ByteArray := ((((⟨#[115, 116, 97, 116, 105, 111, 110, 32]⟩ : ByteArray) ++ itoaB (i : Int)) ++ (⟨#[32]⟩ : ByteArray)) ++ kindWord x) ++ (⟨#[10]⟩ : ByteArray)
def kindsOut : List Int → Nat → ByteArray → ByteArray
  | [], _, o => o
  | x :: xs, i, o => kindsOut xs (i + 1) (if x > 0 then o ++ kindLine i x else o)
def kindsFin (o : ByteArray) : ByteArray × Int := if o.toList = ([] : List UInt8) then (⟨#[114, 105, 103, 104, 116, 10]⟩, 0) else (o, 0)
theorem s8 : (⟨#[115, 116, 97, 116, 105, 111, 110, 32]⟩ : ByteArray).size = 8 := rfl
theorem s1 : (⟨#[32]⟩ : ByteArray).size = 1 := rfl
theorem s1n : (⟨#[10]⟩ : ByteArray).size = 1 := rfl
theorem kindLine_le (i : Nat) (hi : i < 12) (x : Int) : (kindLine i x).size ≤ 38 := by
  have h1 := kindWord_le x
  have h2 := itoaB_le (n := (i : Int)) (by omega) (by omega)
  simp only [kindLine, ba_size, s8, s1, s1n]; omega
theorem spec_l28Word_eq (x : Int) : spec_l28Word.f x = some (kindWord x) := by
  unfold spec_l28Word.f kindWord
  split
  · rfl
  · split
    · rfl
    · split <;> rfl
theorem words_at (x : Int) (h0 : 0 < x) (h1 : x ≤ 4) : rdOf ByteArray.empty ([(⟨#[]⟩ : ByteArray), (⟨#[109, 105, 115, 115, 105, 110, 103]⟩ : ByteArray), (⟨#[100, 111, 117, 98, 108, 101]⟩ : ByteArray), (⟨#[116, 117, 114, 110, 101, 100]⟩ : ByteArray), (⟨#[119, 114, 111, 110, 103]⟩ : ByteArray)] : List ByteArray) x = kindWord x := by
  have h : x = 1 ∨ x = 2 ∨ x = 3 ∨ x = 4 := by omega
  rcases h with rfl | rfl | rfl | rfl <;> rfl
theorem spec_KindsText_l0 (l : List Int) (hl : l.length ≤ 12) (hx : ∀ x ∈ l, 0 ≤ x ∧ x ≤ 4) : ∀ d i, i + d = l.length → ∀ o : ByteArray, o.size ≤ 40 * i →
    Ev (fun k => spec_KindsText.l0 k l o (i : Int)) (kindsFin (kindsOut (l.drop i) i o)) := by
  intro d
  induction d with
  | zero =>
    intro i hi o ho
    refine Ev.succ ?_
    simp only [spec_KindsText.l0]
    have : l.drop i = [] := List.drop_eq_nil_of_le (by omega)
    rw [this]
    refine Ev.neg (by omega) (Ev.ite (fun h => Ev.eq ?_) (fun h => Ev.eq ?_))
    · exact (congrArg some (if_pos h)).symm
    · exact (congrArg some (if_neg h)).symm
  | succ d ih =>
    intro i hi o ho
    have hm := getD_mem l 0 i (by omega)
    rw [getD_drop l 0 i (by omega)]
    have e1 : wrap64 ((i : Int) + 1) = ((i + 1 : Nat) : Int) := by rw [w64 (by omega) (by omega)]; omega
    refine Ev.succ ?_
    simp only [spec_KindsText.l0, rd_nat, e1]
    generalize l.getD i 0 = x at hm
    have hx1 := hx x hm
    have h1 := kindWord_le x
    have h2 := itoaB_le (n := (i : Int)) (by omega) (by omega)
    have h3 := kindLine_le i (by omega) x
    refine Ev.pos (by omega) (Ev.pos (by omega) (Ev.ite (fun h => ?_) (fun h => ?_)))
    · refine Ev.pos (by omega) (Ev.bind (spec_l01Dec_ev (by omega) (by omega)) (Ev.pos (by simp only [ba_size, s8]; omega) (Ev.pos (by simp only [ba_size, s8]; omega) (Ev.bind (Ev.eq (spec_l28Word_eq x)) (Ev.pos (by simp only [ba_size, s8, s1]; omega) (Ev.pos (by simp only [ba_size, s8, s1]; omega) ?_))))))
      refine (ih (i + 1) (by omega) _ (by simp only [ba_size, s8, s1, s1n]; omega)).cast ?_
      simp only [kindsOut, if_pos h, kindLine, ba_assoc]
    · exact (ih (i + 1) (by omega) o (by omega)).cast (by simp only [kindsOut, if_neg h])
theorem impl_KindsText_l0 (l : List Int) (hl : l.length ≤ 12) (hx : ∀ x ∈ l, 0 ≤ x ∧ x ≤ 4) : ∀ d i, i + d = l.length → ∀ o : ByteArray, o.size ≤ 40 * i →
    Ev (fun k => impl_KindsText.l0 k ([(⟨#[]⟩ : ByteArray), (⟨#[109, 105, 115, 115, 105, 110, 103]⟩ : ByteArray), (⟨#[100, 111, 117, 98, 108, 101]⟩ : ByteArray), (⟨#[116, 117, 114, 110, 101, 100]⟩ : ByteArray), (⟨#[119, 114, 111, 110, 103]⟩ : ByteArray)] : List ByteArray) o l (l.length : Int) (i : Int)) (kindsFin (kindsOut (l.drop i) i o)) := by
  intro d
  induction d with
  | zero =>
    intro i hi o ho
    refine Ev.succ ?_
    simp only [impl_KindsText.l0]
    have : l.drop i = [] := List.drop_eq_nil_of_le (by omega)
    rw [this]
    refine Ev.neg (by omega) (Ev.ite (fun h => Ev.eq ?_) (fun h => Ev.eq ?_))
    · exact (congrArg some (if_pos h)).symm
    · exact (congrArg some (if_neg h)).symm
  | succ d ih =>
    intro i hi o ho
    have hm := getD_mem l 0 i (by omega)
    rw [getD_drop l 0 i (by omega)]
    have e1 : wrap64 ((i : Int) + 1) = ((i + 1 : Nat) : Int) := by rw [w64 (by omega) (by omega)]; omega
    refine Ev.succ ?_
    simp only [impl_KindsText.l0, rd_nat, e1]
    generalize l.getD i 0 = x at hm
    have hx1 := hx x hm
    have h1 := kindWord_le x
    have h2 := itoaB_le (n := (i : Int)) (by omega) (by omega)
    have h3 := kindLine_le i (by omega) x
    refine Ev.pos (by omega) (Ev.pos (by omega) (Ev.pos (by omega) (Ev.ite (fun h => ?_) (fun h => ?_))))
    · rw [words_at x h hx1.2]
      refine Ev.bind (Ev.eq (impl_decimal_eq (by omega) (by omega))) (Ev.pos (by omega) (Ev.pos (by simp only [ba_size, s8]; omega) (Ev.pos (by omega) (Ev.pos (by simp only [List.length_cons, List.length_nil]; omega) (Ev.pos (by simp only [ba_size, s8, s1]; omega) (Ev.pos (by simp only [ba_size, s8, s1]; omega) (Ev.pos (by simp only [ba_size, s8, s1, s1n]; omega) ?_)))))))
      refine (ih (i + 1) (by omega) _ (by simp only [ba_size, s8, s1, s1n]; omega)).cast ?_
      simp only [kindsOut, if_pos h, kindLine]
    · exact (ih (i + 1) (by omega) o (by omega)).cast (by simp only [kindsOut, if_neg h])
/-- What KindsText answers. -/
def kindsText (l : List Int) : ByteArray × Int := if allWithin 12 0 4 l = true then kindsFin (kindsOut l 0 ⟨#[]⟩) else (⟨#[]⟩, 2)
theorem spec_KindsText_ev {l : List Int} (hl : l.length ≤ 9223372036854775806) : Ev (fun k => spec_KindsText.f k l) (kindsText l) := by
  unfold spec_KindsText.f kindsText
  refine Ev.bind (spec_l01Within_ev hl 12 0 4) (Ev.ite (fun h => ?_) (fun h => Ev.eq (by rw [if_neg h])))
  rw [if_pos h]
  have h2 := allWithin_iff.1 h
  exact (spec_KindsText_l0 l (by omega) h2.1 l.length 0 (by omega) _ (by decide)).cast (by simp)
theorem impl_KindsText_ev {l : List Int} (hl : l.length ≤ 9223372036854775806) : Ev (fun k => impl_KindsText.f k l) (kindsText l) := by
  unfold impl_KindsText.f kindsText
  have e : allWithin 12 0 4 l = (l.all (inB 0 4) && decide ((l.length : Int) ≤ 12)) := rfl
  refine Ev.ite (fun h => ?_) (fun h => ?_)
  · have h2 : ¬ allWithin 12 0 4 l = true := fun h3 => by have := (allWithin_iff.1 h3).2; omega
    rw [if_neg h2]
    refine Ev.succ ?_
    simp only [impl_KindsText.j0]
    exact Ev.pos (by trivial) (Ev.eq rfl)
  · refine Ev.bind (Ev.eq rfl) (Ev.succ ?_)
    simp only [impl_KindsText.j0]
    have hd : decide ((l.length : Int) ≤ 12) = true := decide_eq_true (by omega)
    rw [e, hd, Bool.and_true]
    by_cases ha : l.all (inB 0 4) = true
    · rw [if_pos ha, ha]
      refine Ev.neg (by simp) ?_
      have h2 : allWithin 12 0 4 l = true := by rw [e, ha, hd]; rfl
      exact (impl_KindsText_l0 l (by omega) (allWithin_iff.1 h2).1 l.length 0 (by omega) _ (by decide)).cast (by simp)
    · rw [if_neg ha, Bool.eq_false_iff.2 ha]
      exact Ev.pos (by simp) (Ev.eq rfl)
end Go.Proofs.YtjnacjdpggpiiaaDoor.PU
end
section
namespace Go.Proofs.YtjnacjdpggpiiaaDoor.Pure
open Go.RowKit Go.Proofs.YtjnacjdpggpiiaaDoorW.PrintWords Go.Proofs.YtjnacjdpggpiiaaDoorB Go.Proofs.YtjnacjdpggpiiaaDoor.PU
set_option linter.unusedVariables false
set_option linter.unusedSimpArgs false
def sumL : List Int → Int
  | [] => 0
  | x :: l => x + sumL l
theorem sumL_bound : ∀ l : List Int, (∀ x ∈ l, 0 ≤ x ∧ x ≤ 4) → 0 ≤ sumL l ∧ sumL l ≤ 4 * (l.length : Int)
  | [], _ => by simp [sumL]
  | x :: l, h => by
    have h1 := sumL_bound l (fun y hy => h y (List.mem_cons_of_mem _ hy))
    have h2 := h x (List.mem_cons_self ..)
    simp only [sumL, List.length_cons]
    omega
theorem laws_sum_ev {l : List Int} (hl : l.length ≤ 1000) (hr : ∀ x ∈ l, 0 ≤ x ∧ x ≤ 4) : Ev (fun k => laws_sum.f k l) (sumL l) := by
  have key : ∀ d i : Nat, i + d = l.length → ∀ s : Int, 0 ≤ s → s ≤ 4 * i → Ev (fun k => laws_sum.l0 k l s (i : Int)) (s + sumL (l.drop i)) := by
    intro d
    induction d with
    | zero =>
      intro i hi s h1 h2
      refine Ev.succ ?_
      simp only [laws_sum.l0]
      have h3 : l.drop i = [] := List.drop_eq_nil_of_le (by omega)
      rw [h3]
      exact Ev.neg (by omega) (Ev.eq (by simp [sumL]))
    | succ d ih =>
      intro i hi s h1 h2
      rw [getD_drop l 0 i (by omega)]
      have hm := hr _ (getD_mem l 0 i (by omega))
      have e1 : wrap64 ((i : Int) + 1) = ((i + 1 : Nat) : Int) := by rw [w64 (by omega) (by omega)]; omega
      refine Ev.succ ?_
      simp only [laws_sum.l0, rd_nat, e1]
      generalize l.getD i 0 = y at hm ⊢
      rw [w64 (x := s + y) (by omega) (by omega)]
      refine Ev.pos (by omega) (Ev.pos (by omega) ((ih (i + 1) (by omega) _ (by omega) (by omega)).cast ?_))
      simp only [sumL]; omega
  unfold laws_sum.f
  exact (key l.length 0 (by omega) 0 (by omega) (by omega)).cast (by simp)
theorem sum_cnt : ∀ l : List Int, (∀ x ∈ l, 0 ≤ x ∧ x ≤ 4) → (sumL l = 0 ↔ cntL l = 0)
  | [], _ => by simp [sumL, cntL]
  | x :: l, h => by
    have h1 := sum_cnt l (fun y hy => h y (List.mem_cons_of_mem _ hy))
    have h2 := h x (List.mem_cons_self ..)
    have h3 := sumL_bound l (fun y hy => h y (List.mem_cons_of_mem _ hy))
    have h4 := cnt_le l (fun y hy => h y (List.mem_cons_of_mem _ hy))
    have h5 : (x = 0 → mn 1 x = 0) ∧ (1 ≤ x → mn 1 x = 1) := by unfold mn; constructor <;> intro <;> split <;> omega
    simp only [sumL, cntL]
    omega
/-- No fault is told of the right block alone. -/
theorem few_zero (l : List Int) : ∀ m st pl, pl ≤ l.length → (xFew l m st pl = 0 ↔ l.drop pl = upTo (st : Int) m)
  | 0, st, pl, hp => by
    unfold xFew
    by_cases h : pl = l.length
    · simp [h, upTo]
    · rw [if_neg h]
      constructor
      · intro h2; omega
      · intro h2
        simp only [upTo, List.drop_eq_nil_iff] at h2
        omega
  | m + 1, st, pl, hp => by
    have hL : leftL st 0 = [(st : Int) + 1] := rfl
    have hx : xBehind l st pl 0 = if pl + 1 ≤ l.length ∧ (l.drop pl).take 1 = [(st : Int) + 1] then some (pl + 1) else none := by
      unfold xBehind
      rw [if_neg (by omega), hL, take_drop_iff]
      rfl
    have ec : ((st + 1 : Nat) : Int) = (st : Int) + 1 := by omega
    have hfold : xFew l (m + 1) st pl = ([0, 1, 2, 3, 4] : List Nat).foldl (xBetter l (xFew l m (st + 1)) st pl) 1000000000 := rfl
    constructor
    · intro h
      rw [hfold] at h
      rcases attain l (xFew l m (st + 1)) st pl [0, 1, 2, 3, 4] 1000000000 with h1 | ⟨k, hk, e, h1, h2⟩
      · omega
      · have hb := few_bound l m (st + 1) e
        have hk1 : 0 ≤ xOne k ∧ (¬ k = 0 → xOne k = 1) := by unfold xOne; split <;> omega
        have hk0 : k = 0 := by
          refine Decidable.byContradiction (fun hn => ?_)
          have := hk1.2 hn
          omega
        subst hk0
        rw [hx] at h1
        split at h1
        · rename_i hc
          have he := Option.some.inj h1
          subst he
          have hf := (few_zero l m (st + 1) (pl + 1) hc.1).1 (by omega)
          have hd := getD_drop l 0 pl (by omega)
          rw [hd] at hc ⊢
          rw [hf, ec]
          have h5 : l.getD pl 0 = (st : Int) + 1 := by simpa using hc.2
          rw [h5]
          rfl
        · cases h1
    · intro h
      have hlt : pl < l.length := by
        refine Nat.not_le.1 (fun h2 => ?_)
        rw [List.drop_eq_nil_of_le h2] at h
        cases h
      have hd := getD_drop l 0 pl hlt
      rw [hd] at h
      have h5 : l.getD pl 0 = (st : Int) + 1 := (List.cons.inj h).1
      have h6 : l.drop (pl + 1) = upTo ((st + 1 : Nat) : Int) m := by rw [ec]; exact (List.cons.inj h).2
      have hf := (few_zero l m (st + 1) (pl + 1) (by omega)).2 h6
      have hy : xBehind l st pl 0 = some (pl + 1) := by
        rw [hx, if_pos]
        refine ⟨by omega, ?_⟩
        rw [hd, h5]
        rfl
      have hle := fold_le l (xFew l m (st + 1)) st pl [0, 1, 2, 3, 4] 1000000000 0 (pl + 1) (List.mem_cons_self ..) hy
      rw [← hfold, hf] at hle
      have h1 : xOne 0 = 0 := rfl
      have hb := few_bound l (m + 1) st pl
      omega
/-- What is known of the first bad page. -/
theorem firstBad_ok (N : Int) (l : List Int) : ∀ d i : Nat, ((firstBad N l d i).2 = 0 → ∃ r : Nat, (firstBad N l d i).1 = (r : Int) ∧ i ≤ r ∧ r < i + d ∧ (∀ j : Nat, i ≤ j → j < r → j < l.length ∧ l.getD j 0 = (j : Int) + 1) ∧ ¬ ((r : Int) < N ∧ r < l.length ∧ l.getD r 0 = (r : Int) + 1))
    ∧ ((firstBad N l d i).2 = 5 ↔ ∀ j : Nat, i ≤ j → j < i + d → (j : Int) < N ∧ j < l.length ∧ l.getD j 0 = (j : Int) + 1)
  | 0, i => by
    refine ⟨fun h => by simp [firstBad] at h, fun _ j h1 h2 => by omega, fun _ => rfl⟩
  | d + 1, i => by
    have ih := firstBad_ok N l d (i + 1)
    have stop : ∀ e : Prop, (firstBad N l (d + 1) i = ((i : Int), 0)) → ¬ ((i : Int) < N ∧ i < l.length ∧ l.getD i 0 = (i : Int) + 1) → ((firstBad N l (d + 1) i).2 = 0 → ∃ r : Nat, (firstBad N l (d + 1) i).1 = (r : Int) ∧ i ≤ r ∧ r < i + (d + 1) ∧ (∀ j : Nat, i ≤ j → j < r → j < l.length ∧ l.getD j 0 = (j : Int) + 1) ∧ ¬ ((r : Int) < N ∧ r < l.length ∧ l.getD r 0 = (r : Int) + 1))
        ∧ ((firstBad N l (d + 1) i).2 = 5 ↔ ∀ j : Nat, i ≤ j → j < i + (d + 1) → (j : Int) < N ∧ j < l.length ∧ l.getD j 0 = (j : Int) + 1) := by
      intro _ h1 h2
      rw [h1]
      refine ⟨fun _ => ⟨i, rfl, Nat.le_refl i, by omega, fun j h3 h4 => by omega, h2⟩, fun h => by simp at h, fun h => absurd (h i (Nat.le_refl i) (by omega)) h2⟩
    by_cases c1 : N ≤ (i : Int)
    · exact stop True (by simp only [firstBad]; rw [if_pos c1]) (fun h => by omega)
    · by_cases c2 : (l.length : Int) ≤ (i : Int)
      · exact stop True (by simp only [firstBad]; rw [if_neg c1, if_pos c2]) (fun h => by omega)
      · by_cases c3 : l.getD i 0 = (i : Int) + 1
        · have e : firstBad N l (d + 1) i = firstBad N l d (i + 1) := by simp only [firstBad]; rw [if_neg c1, if_neg c2, if_pos c3]
          rw [e]
          refine ⟨fun h => ?_, fun h j h1 h2 => ?_, fun h => ih.2.2 (fun j h1 h2 => h j (by omega) (by omega))⟩
          · obtain ⟨r, g1, g2, g3, g4, g5⟩ := ih.1 h
            refine ⟨r, g1, by omega, by omega, fun j h1 h2 => ?_, g5⟩
            by_cases hj : j = i
            · subst hj; exact ⟨by omega, c3⟩
            · exact g4 j (by omega) h2
          · by_cases hj : j = i
            · subst hj; exact ⟨by omega, by omega, c3⟩
            · exact ih.2.1 h j (by omega) (by omega)
        · exact stop True (by simp only [firstBad]; rw [if_neg c1, if_neg c2, if_neg c3]) (fun h => c3 h.2.2)
theorem mx_cases (a b : Int) : a ≤ mx a b ∧ b ≤ mx a b ∧ (mx a b = a ∨ mx a b = b) := by unfold mx; split <;> omega
/-- All pages are right. -/
theorem firstBad_right (N : Nat) (l : List Int) : (firstBad (N : Int) l (mx (N : Int) (l.length : Int)).toNat 0).2 = 5 ↔ l = upTo 0 N := by
  have hm := mx_cases (N : Int) (l.length : Int)
  have hlen := upTo_length N 0
  rw [(firstBad_ok (N : Int) l (mx (N : Int) (l.length : Int)).toNat 0).2]
  generalize mx (N : Int) (l.length : Int) = M at hm
  constructor
  · intro h
    have h1 : l.length = N := by
      rcases Nat.lt_trichotomy l.length N with h2 | h2 | h2
      · have := (h l.length (by omega) (by omega)).2.1; omega
      · exact h2
      · have := (h N (by omega) (by omega)).1; omega
    refine List.ext_getElem (by rw [hlen, h1]) (fun i g1 g2 => ?_)
    have h3 := (h i (by omega) (by omega)).2.2
    have h4 := upTo_getD N 0 i (by omega)
    simp only [List.getD, List.getElem?_eq_getElem g1, List.getElem?_eq_getElem g2, Option.getD_some] at h3 h4
    rw [h3, h4]; omega
  · intro h j h1 h2
    have h3 : l.length = N := by rw [h, hlen]
    refine ⟨by omega, by omega, ?_⟩
    have h4 := upTo_getD N 0 j (by omega)
    rw [h, h4]; omega
theorem upTo_range : ∀ (d : Nat) (a : Int), ∀ s ∈ upTo a d, a < s ∧ s ≤ a + d
  | 0, _, s, h => by cases h
  | d + 1, a, s, h => by
    rcases List.mem_cons.1 h with rfl | h
    · omega
    · have := upTo_range d (a + 1) s h
      omega
theorem fits_upTo (n : Nat) : fitsB (n : Int) (upTo 0 n) = true := by
  have h := upTo_range n 0
  have h1 : (upTo 0 n).all (fun x => decide (-(n : Int) ≤ x ∧ x ≤ (n : Int))) = true := by
    rw [List.all_eq_true]
    intro x hx
    have := h x hx
    simp only [decide_eq_true_eq]; omega
  have h2 : has (upTo 0 n) 0 = false := by
    refine Bool.eq_false_iff.2 (fun h3 => ?_)
    unfold has at h3
    obtain ⟨y, hy, e⟩ := List.any_eq_true.1 h3
    have := h y hy
    simp only [decide_eq_true_eq] at e
    omega
  have h3 : decide (((upTo 0 n).length : Int) ≤ 2 * (n : Int)) = true := by rw [upTo_length]; simp; omega
  unfold fitsB
  rw [h1, h2, h3]; rfl
theorem blockOfP_ok {n u : Int} {l : List Int} (h : (blockOfP n u l).2 = 0) : lineOk n u = true ∧ good n u l (blockOfP n u l).1 = true := by
  obtain ⟨h1, h2⟩ := blockOfP_zero h
  have e : (blockOfP n u l).1 = blockS n u l := by unfold blockOfP; rw [if_pos h1, if_pos h2]
  rw [e]
  exact ⟨h1, h2⟩
theorem right_iff {n u : Int} {l : List Int} (h : (blockOfP n u l).2 = 0) : l = upTo 0 (n * u).toNat ↔ (blockOfP n u l).1 = upTo 0 n.toNat := by
  obtain ⟨h1, h2⟩ := blockOfP_ok h
  have h3 := lineOk_iff h1
  have hg := good_len h3.1 h3.2.1 h2
  have hN : (n * u).toNat = n.toNat * u.toNat := by
    obtain ⟨a, rfl⟩ := Int.eq_ofNat_of_zero_le (show 0 ≤ n by omega)
    obtain ⟨b, rfl⟩ := Int.eq_ofNat_of_zero_le (show 0 ≤ u by omega)
    rw [← Int.natCast_mul, Int.toNat_natCast, Int.toNat_natCast, Int.toNat_natCast]
  have hA : allPages u (upTo 0 n.toNat) = upTo 0 (n.toNat * u.toNat) := by
    have := allPages_upTo u (by omega) n.toNat 0
    simpa using this
  have hn : ((n.toNat : Nat) : Int) = n := Int.toNat_of_nonneg (by omega)
  rw [hN]
  constructor
  · intro hl
    have hf := fits_upTo n.toNat
    rw [hn] at hf
    have hg2 : good n u l (upTo 0 n.toNat) = true := by
      unfold good
      rw [hf, hA, ← hl]; simp
    rw [← hg.1, (good_len h3.1 h3.2.1 hg2).1]
  · intro hB
    rw [hB] at h2
    simp only [good, Bool.and_eq_true, decide_eq_true_eq] at h2
    rw [← h2.2, hA]
theorem head_append {a b : List UInt8} (h : a.head? = some 115) : (a ++ b).head? = some 115 := by
  cases a with
  | nil => cases h
  | cons x a => exact h
theorem kindsOut_head : ∀ (l : List Int) (i : Nat) (o : ByteArray), o.data.toList.head? = some 115 → (kindsOut l i o).data.toList.head? = some 115
  | [], _, _, h => h
  | x :: xs, i, o, h => by
    refine kindsOut_head xs (i + 1) _ ?_
    split
    · rw [ByteArray.data_append, Array.toList_append]
      exact head_append h
    · exact h
theorem kindsOut_zero : ∀ (l : List Int) (i : Nat) (o : ByteArray), (∀ x ∈ l, 0 ≤ x ∧ x ≤ 4) → sumL l = 0 → kindsOut l i o = o
  | [], _, _, _, _ => rfl
  | x :: xs, i, o, h, hs => by
    have h1 := h x (List.mem_cons_self ..)
    have h2 := sumL_bound xs (fun y hy => h y (List.mem_cons_of_mem _ hy))
    simp only [sumL] at hs
    simp only [kindsOut]
    rw [if_neg (by omega)]
    exact kindsOut_zero xs (i + 1) o (fun y hy => h y (List.mem_cons_of_mem _ hy)) (by omega)
theorem kindsOut_some : ∀ (l : List Int) (i : Nat), (∀ x ∈ l, 0 ≤ x ∧ x ≤ 4) → ¬ sumL l = 0 → (kindsOut l i ⟨#[]⟩).data.toList.head? = some 115
  | [], _, _, h => absurd rfl h
  | x :: xs, i, h, hs => by
    have h1 := h x (List.mem_cons_self ..)
    simp only [kindsOut]
    by_cases c : x > 0
    · rw [if_pos c]
      refine kindsOut_head xs (i + 1) _ ?_
      simp [kindLine, ByteArray.data_append]
    · rw [if_neg c]
      simp only [sumL] at hs
      exact kindsOut_some xs (i + 1) (fun y hy => h y (List.mem_cons_of_mem _ hy)) (by omega)
theorem kinds_right {l : List Int} (h : (kindsText l).2 = 0) : l.length ≤ 12 ∧ (∀ x ∈ l, 0 ≤ x ∧ x ≤ 4) ∧ (((kindsText l).1.toList == ([114, 105, 103, 104, 116, 10] : List UInt8)) != (sumL l == 0)) = false := by
  unfold kindsText at h ⊢
  by_cases c : allWithin 12 0 4 l = true
  · rw [if_pos c] at h ⊢
    have h2 := allWithin_iff.1 c
    refine ⟨by omega, h2.1, ?_⟩
    by_cases hs : sumL l = 0
    · have e : kindsOut l 0 ⟨#[]⟩ = ⟨#[]⟩ := kindsOut_zero l 0 _ h2.1 hs
      rw [e, hs]
      have e2 : (⟨#[]⟩ : ByteArray).toList = [] := by rw [Lib.toList_data]
      unfold kindsFin
      rw [if_pos e2, Lib.toList_data]
      rfl
    · have e := kindsOut_some l 0 h2.1 hs
      generalize kindsOut l 0 ⟨#[]⟩ = o at e
      have e2 : ¬ o.toList = [] := by
        rw [Lib.toList_data]
        intro h3
        rw [h3] at e; cases e
      have e3 : (o.toList == ([114, 105, 103, 104, 116, 10] : List UInt8)) = false := by
        refine Bool.eq_false_iff.2 (fun h3 => ?_)
        have h4 := eq_of_beq h3
        rw [Lib.toList_data] at h4
        rw [h4] at e
        simp at e
      have e4 : (sumL l == 0) = false := by simpa using hs
      unfold kindsFin
      rw [if_neg e2, e3, e4]
      rfl
  · rw [if_neg c] at h; cases h
theorem spec_DrawKindsText_ok {c : List Int} (hc : ∀ y ∈ c, 0 ≤ y ∧ y ≤ 255) (hl : c.length ≤ 1048576) : ∃ l, Ev (fun k => spec_DrawKindsText.f k c) l ∧ l.length ≤ 1048576 := by
  have key : ∀ d : Nat, ∀ (o : List Int) (p s : Int), o.length ≤ 100 - d → d ≤ 50 → Src c p s → ∃ l, Ev (fun k => spec_DrawKindsText.l0 k o (d : Int) c p s) l ∧ l.length ≤ 1048576 := by
    intro d
    induction d with
    | zero =>
      intro o p s ho _ hS
      obtain ⟨r, p1, s1, e1, S1, hr0, hr1⟩ := spec_l01Next_ok hS 24
      by_cases c0 : r = 0
      · obtain ⟨q, p2, s2, e2, S2, hq⟩ := spec_l01Pick_ok S1 [(-1), 5] (by simp) (by simp)
        refine ⟨o ++ [q], Ev.succ ?_, by simp; omega⟩
        simp only [spec_DrawKindsText.l0]
        exact Ev.neg (by omega) (Ev.bind (Ev.eq e1) (Ev.pos c0 (Ev.bind (Ev.eq e2) (Ev.pos (by omega) (Ev.eq rfl)))))
      · by_cases c1 : r = 1
        · obtain ⟨q, p2, s2, e2, S2, hq0, hq1⟩ := spec_l01Next_ok S1 2
          have ew : wrap64 (12 + q) = 12 + q := w64 (by omega) (by omega)
          refine ⟨List.replicate (wrap64 (12 + q)).toNat 0, Ev.succ ?_, by simp; omega⟩
          simp only [spec_DrawKindsText.l0]
          refine Ev.neg (by omega) (Ev.bind (Ev.eq e1) (Ev.neg c0 (Ev.pos c1 (Ev.bind (Ev.eq e2) ?_))))
          simp only [ew]
          exact Ev.pos (by omega) (Ev.pos (by omega) (Ev.eq rfl))
        · refine ⟨o, Ev.succ ?_, by omega⟩
          simp only [spec_DrawKindsText.l0]
          exact Ev.neg (by omega) (Ev.bind (Ev.eq e1) (Ev.neg c0 (Ev.neg c1 (Ev.eq rfl))))
    | succ d ih =>
      intro o p s ho hd hS
      obtain ⟨r, p1, s1, e1, S1, hr0, hr1⟩ := spec_l01Next_ok hS 9
      have ew : wrap64 (((d + 1 : Nat) : Int) - 1) = (d : Int) := by rw [w64 (by omega) (by omega)]; omega
      obtain ⟨l, E, hE⟩ := ih (o ++ [mx 0 (wrap64 (r - 4))]) p1 s1 (by simp; omega) (by omega) S1
      refine ⟨l, Ev.succ ?_, hE⟩
      simp only [spec_DrawKindsText.l0, ew]
      exact Ev.pos (by omega) (Ev.bind (Ev.eq e1) (Ev.pos (by omega) E))
  obtain ⟨s0, E0, S0⟩ := spec_l01From_ev hc hl
  obtain ⟨r, p1, s1, e1, S1, hr0, hr1⟩ := spec_l01Next_ok S0 8
  obtain ⟨l, E, hE⟩ := key r.toNat [] p1 s1 (by simp) (by omega) S1
  have er : ((r.toNat : Nat) : Int) = r := Int.toNat_of_nonneg hr0
  rw [er] at E
  refine ⟨l, ?_, hE⟩
  unfold spec_DrawKindsText.f
  exact Ev.bind E0 (Ev.bind (Ev.eq e1) E)
theorem impl_BlockOfPages_ev (n u : Int) {l : List Int} (hl : l.length ≤ 1048576) : Ev (fun k => impl_BlockOfPages.f k n u l) (blockOfP n u l) := by
  unfold impl_BlockOfPages.f
  exact Ev.bind (impl_blockOfPages_ev n u hl) (Ev.eq rfl)
theorem explP_ok {n : Int} {l : List Int} (hn : 1 ≤ n ∧ n ≤ 12) (h : (explP n l).2 = 0) : (explP n l).1.length ≤ 12 ∧ (∀ x ∈ (explP n l).1, 0 ≤ x ∧ x ≤ 4) ∧ (sumL (explP n l).1 = 0 ↔ l = upTo 0 n.toNat) := by
  unfold explP at h ⊢
  by_cases c : xFew l n.toNat 0 0 ≥ 1000000000
  · rw [if_pos c] at h; cases h
  · rw [if_neg c]
    have hb := run_bounds l n.toNat 0 0 (xFew l n.toNat 0 0)
    have hr := run_count l n.toNat 0 0 (by omega)
    have hz := few_zero l n.toNat 0 0 (Nat.zero_le _)
    refine ⟨by simp only; omega, hb.2, ?_⟩
    simp only
    rw [sum_cnt _ hb.2, hr, hz]
    simp
theorem law_j4 (n u : Int) {l : List Int} (hl : l.length ≤ 1048576) : Ev (fun k => laws_FnDiagnosed.j4 k n u l (diagV n u l).1 (diagV n u l).2 (firstBadV n u l).2) true := by
  refine Ev.succ ?_
  simp only [laws_FnDiagnosed.j4]
  refine Ev.ite (fun h => ?_) (fun h => Ev.eq rfl)
  have hB := impl_BlockOfPages_ev n u hl
  unfold diagV at h ⊢
  by_cases c1 : (blockOfP n u l).2 = 0
  · rw [if_pos c1] at h ⊢
    by_cases c2 : (explP n (blockOfP n u l).1).2 = 0
    · rw [if_pos c2] at h ⊢
      have hf := fits_of c1
      have hx := explP_ok hf.1 c2
      have hr := right_iff c1
      have hfb : (firstBadV n u l).2 = (firstBad (n * u) l (mx (n * u) (l.length : Int)).toNat 0).2 := by unfold firstBadV; rw [if_pos c1]
      have h3 := lineOk_iff (blockOfP_ok c1).1
      have h0 : 0 ≤ n * u := Int.mul_nonneg (by omega) (by omega)
      have hN : (((n * u).toNat : Nat) : Int) = n * u := Int.toNat_of_nonneg h0
      have hfr := firstBad_right (n * u).toNat l
      rw [hN] at hfr
      refine Ev.bind hB (Ev.bind (impl_ExplainBlock_ev hf.1 hf.2) (Ev.pos c1 (Ev.pos c2 (Ev.bind (likeInts_refl (Nat.le_trans hx.1 (by omega))) (Ev.pos rfl (Ev.bind (laws_sum_ev (Nat.le_trans hx.1 (by omega)) hx.2.1) (Ev.eq ?_)))))))
      rw [hfb]
      congr 1
      rw [beq_iff_eq]
      by_cases hs : sumL (explP n (blockOfP n u l).1).1 = 0
      · have := hfr.2 (hr.2 (hx.2.2.1 hs))
        rw [hs, this]; rfl
      · have h5 : ¬ (firstBad (n * u) l (mx (n * u) (l.length : Int)).toNat 0).2 = 5 := fun h6 => hs (hx.2.2.2 (hr.1 (hfr.1 h6)))
        have e1 : (sumL (explP n (blockOfP n u l).1).1 == 0) = false := by simpa using hs
        have e2 : ((firstBad (n * u) l (mx (n * u) (l.length : Int)).toNat 0).2 == 5) = false := by simpa using h5
        rw [e1, e2]
    · rw [if_neg c2] at h; cases h
  · rw [if_neg c1] at h; exact absurd h c1
theorem law_l0 (n u : Int) {l : List Int} (hl : l.length ≤ 1048576) (r : Nat) (hr : (firstBadV n u l).1 = (r : Int)) (hr2 : r ≤ 2000000) (ha : ∀ j : Nat, j < r → j < l.length ∧ l.getD j 0 = (j : Int) + 1) : ∀ d i : Nat, i + d = r →
    Ev (fun k => laws_FnDiagnosed.l0 k n u l (diagV n u l).1 (diagV n u l).2 (firstBadV n u l).1 (firstBadV n u l).2 (i : Int)) true := by
  have h4 := law_j4 n u hl
  rw [hr]
  intro d
  induction d with
  | zero =>
    intro i hi
    refine Ev.succ ?_
    simp only [laws_FnDiagnosed.l0]
    exact Ev.neg (by omega) h4
  | succ d ih =>
    intro i hi
    have h1 := ha i (by omega)
    have e1 : wrap64 ((i : Int) + 1) = ((i + 1 : Nat) : Int) := by rw [w64 (by omega) (by omega)]; omega
    have e2 : l.getD i 0 = ((i + 1 : Nat) : Int) := by rw [h1.2]; omega
    refine Ev.succ ?_
    simp only [laws_FnDiagnosed.l0, rd_nat, e1]
    exact Ev.pos (by omega) (Ev.pos (by omega) (Ev.pos (by omega) (Ev.pos e2 (ih (i + 1) (by omega)))))
theorem mx_small {a : Int} {b : Nat} (h1 : a ≤ 12 * 128) (h2 : b ≤ 1048576) : 0 + (mx a (b : Int)).toNat ≤ 2000000 := by
  have := mx_cases a (b : Int)
  omega
theorem law_j1 (n u : Int) {l : List Int} (hl : l.length ≤ 1048576) : Ev (fun k => laws_FnDiagnosed.j1 k n u l (diagV n u l).1 (diagV n u l).2 (firstBadV n u l).1 (firstBadV n u l).2 false) true := by
  refine Ev.succ ?_
  simp only [laws_FnDiagnosed.j1]
  refine Ev.neg (by simp) (Ev.ite (fun h => ?_) (fun h => law_j4 n u hl))
  have c1 : (blockOfP n u l).2 = 0 := by
    refine Decidable.byContradiction (fun c => ?_)
    unfold firstBadV at h
    rw [if_neg c] at h
    exact c h
  have e : firstBadV n u l = firstBad (n * u) l (mx (n * u) (l.length : Int)).toNat 0 := by unfold firstBadV; rw [if_pos c1]
  have h3 := lineOk_iff (blockOfP_ok c1).1
  have hb : 0 ≤ n * u ∧ n * u ≤ 12 * 128 := ⟨Int.mul_nonneg (by omega) (by omega), Int.mul_le_mul (by omega) (by omega) (by omega) (by omega)⟩
  have hM : 0 + (mx (n * u) (l.length : Int)).toNat ≤ 2000000 := mx_small hb.2 hl
  have hf := (firstBad_ok (n * u) l (mx (n * u) (l.length : Int)).toNat 0).1
  rw [← e] at hf
  obtain ⟨r, g1, -, g2, g3, g4⟩ := hf h
  have hr2 : r ≤ 2000000 := Nat.le_of_lt (Nat.lt_of_lt_of_le g2 hM)
  clear hM g2 h3
  have hl0 := law_l0 n u hl r g1 hr2 (fun j hj => g3 j (Nat.zero_le _) hj) r 0 (Nat.zero_add _)
  have hj2 : Ev (fun k => laws_FnDiagnosed.j2 k n u l (diagV n u l).1 (diagV n u l).2 (firstBadV n u l).1 (firstBadV n u l).2 false) true := by
    refine Ev.succ ?_
    simp only [laws_FnDiagnosed.j2]
    exact Ev.neg (by simp) hl0
  have e1 : wrap64 (n * u) = n * u := w64 (by omega) (by omega)
  have e2 : wrap64 ((r : Int) + 1) = (r : Int) + 1 := w64 (by omega) (by omega)
  refine Ev.ite (fun c2 => Ev.ite (fun c3 => Ev.pos (by omega) ?_) (fun c3 => hj2)) (fun c2 => hj2)
  rw [e1] at c3
  rw [g1] at c2 c3
  have e3 : (rd l (firstBadV n u l).1 == wrap64 ((firstBadV n u l).1 + 1)) = false := by
    rw [g1, rd_nat, e2]
    have : ¬ l.getD r 0 = (r : Int) + 1 := fun h5 => g4 ⟨by omega, by omega, h5⟩
    simpa using this
  rw [e3]
  exact hj2
theorem FnDiagnosed : laws_FnDiagnosed.Pure := by
  intro c hg
  refine Ev.rounds (g := fun k => laws_FnDiagnosed.f k c) ?_
  unfold laws_FnDiagnosed.f
  refine Ev.bind (a := decide ((c.length : Int) > 4096)) (Ev.eq rfl) (Ev.ite (fun _ => Ev.eq rfl) (fun h => ?_))
  have hc : c.length ≤ 1048576 := by
    simp only [decide_eq_true_eq] at h; omega
  obtain ⟨n, u, l, E1, hl0⟩ := spec_DrawDiagnosePages_ok hg.2 hc
  obtain ⟨ks, E2, hks⟩ := spec_DrawKindsText_ok hg.2 hc
  have hl : l.length ≤ 1048576 := by omega
  have hd := diagV_length n u l
  have hk2 := @kinds_right ks
  have hj1 := law_j1 n u hl
  refine Ev.bind E1 (Ev.bind (impl_DiagnosePages_ev n u hl) (Ev.bind (spec_DiagnosePages_ev n u hl) (Ev.bind (impl_FirstBadPage_ev n u hl) (Ev.bind (spec_FirstBadPage_ev n u hl) (Ev.bind E2 (Ev.bind (impl_KindsText_ev (by omega)) (Ev.bind (spec_KindsText_ev (by omega)) ?_)))))))
  refine Ev.pos rfl (Ev.bind (likeInts_refl (Nat.le_trans hd (by omega))) (Ev.pos rfl (Ev.pos rfl (Ev.pos rfl (Ev.pos rfl (Ev.succ ?_))))))
  simp only [laws_FnDiagnosed.j0]
  refine Ev.neg (by simp) (Ev.ite (fun h0 => ?_) (fun h0 => hj1))
  have h5 := hk2 h0
  refine Ev.bind (laws_sum_ev (by omega) h5.2.1) ?_
  rw [h5.2.2]
  exact hj1
end Go.Proofs.YtjnacjdpggpiiaaDoor.Pure
end
