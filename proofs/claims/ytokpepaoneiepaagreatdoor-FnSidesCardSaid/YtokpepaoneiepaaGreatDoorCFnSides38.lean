import Derived.Test.YtokpepaoneiepaaGreatDoorCFnSides20
import Derived.Test.YtokpepaoneiepaaGreatDoorCFnSides35
import Derived.Test.YtokpepaoneiepaaGreatDoorCFnSides37
set_option linter.unusedVariables false
set_option linter.unusedSimpArgs false
section
namespace Go.Proofs.YtokpepaoneiepaaGreatDoor.PL
open Go.RowKit Go.Proofs.YtokpepaoneiepaaGreatDoorW.PrintWords Go.Proofs.YtokpepaoneiepaaGreatDoorB
def wordAt (p h : List Int) (i : Nat) : List UInt8 := Lib.itoa (rd p (i : Int)) ++ [if rd h (i : Int) = 0 then 94 else 118]
theorem wordAt_no {p h : List Int} {i : Nat} (hp : 0 ≤ rd p (i : Int)) {c : UInt8} (hc : c.toNat < 48) : c ∉ wordAt p h i := by
 unfold wordAt
 rw [itoa_eq_nat hp, List.mem_append]
 rintro (hx | hx)
 ·have := digits_byte hx; omega
 ·rw [List.mem_singleton] at hx
  split at hx <;> (subst hx; simp at hc)
theorem side_cut {a : Int} {W : Nat} {p h : List Int} (ha : a = (W : Int)) (hW : 0 < W) (hp : ∀ x ∈ p, 1 ≤ x ∧ x ≤ 2000000000) : ∀ i, i ≤ p.length →
    ∃ (R : List (List UInt8)) (q : List UInt8) (ws : List (List UInt8)), splitL 10 (sideL a h p i) = R ++ [q] ∧ splitL 32 q = ws ++ [[]] ∧ R.flatMap (splitL 32) ++ ws = (List.range i).map (wordAt p h) ∧ R.length = i / W ∧ ws.length = i % W ∧ ∀ x ∈ R, (splitL 32 x).length = W
  | 0, _ => ⟨[], [], [], rfl, rfl, rfl, by simp, by simp, fun x hx => by cases hx⟩
  | i + 1, hi => by
    obtain ⟨R, q, ws, h1, h2, h3, h4, h5, h6⟩ := side_cut ha hW hp i (by omega)
    have hm := hp _ (getD_mem p 0 i (by omega))
    have h0 : 0 ≤ rd p (i : Int) := by rw [rd_nat]; omega
    have n10 := wordAt_no (h := h) h0 (c := 10) (by decide)
    have n32 := wordAt_no (h := h) h0 (c := 32) (by decide)
    have hL : sideL a h p (i + 1) = sideL a h p i ++ (wordAt p h i ++ [if Int.tmod (i : Int) a = a - 1 then 10 else 32]) := rfl
    have hmod : Int.tmod (i : Int) a = ((i % W : Nat) : Int) := by rw [ha]; rfl
    have hlt := Nat.mod_lt i hW
    have hdm := Nat.div_add_mod i W
    rw [hL, hmod, List.range_succ, List.map_append, List.map_singleton]
    by_cases c : ((i % W : Nat) : Int) = a - 1
    · rw [if_pos c]
      have hq : splitL 32 (q ++ wordAt p h i) = ws ++ [wordAt p h i] := splitL_end h2 n32
      have hmul : W * (i / W + 1) = i + 1 := by rw [Nat.mul_add, Nat.mul_one]; omega
      refine ⟨R ++ [q ++ wordAt p h i], [], [], ?_, rfl, ?_, ?_, ?_, ?_⟩
      · rw [splitL_cut h1 n10]; simp
      · rw [List.flatMap_append, List.flatMap_singleton, hq, List.append_nil, ← List.append_assoc, h3]
      · rw [List.length_append, h4, List.length_singleton, ← hmul, Nat.mul_div_cancel_left _ hW]
      · rw [← hmul, Nat.mul_mod_right]; rfl
      · intro x hx
        rw [List.mem_append] at hx
        rcases hx with hx | hx
        · exact h6 x hx
        · rw [List.mem_singleton] at hx
          rw [hx, hq, List.length_append, h5, List.length_singleton]
          omega
    · rw [if_neg c]
      have hne : i % W + 1 < W := by omega
      have hq : splitL 32 (q ++ (wordAt p h i ++ [32])) = ws ++ [wordAt p h i, []] := by
        rw [splitL_cut h2 n32]; simp
      have n10' : (10 : UInt8) ∉ wordAt p h i ++ [32] := by
        rw [List.mem_append]
        rintro (hx | hx)
        · exact n10 hx
        · rw [List.mem_singleton] at hx; exact absurd hx (by decide)
      have hdiv : (i + 1) / W = i / W := by
        have e : i + 1 = (i % W + 1) + W * (i / W) := by omega
        rw [e, Nat.add_mul_div_left _ _ hW, Nat.div_eq_of_lt hne, Nat.zero_add]
      have hmd : (i + 1) % W = i % W + 1 := by
        have e : i + 1 = (i % W + 1) + W * (i / W) := by omega
        rw [e, Nat.add_mul_mod_self_left, Nat.mod_eq_of_lt hne]
      refine ⟨R, q ++ (wordAt p h i ++ [32]), ws ++ [wordAt p h i], ?_, ?_, ?_, ?_, ?_, h6⟩
      · exact splitL_end h1 n10'
      · rw [hq]; simp
      · rw [← List.append_assoc, h3]
      · rw [h4, hdiv]
      · rw [List.length_append, h5, List.length_singleton, hmd]
def headOf (w : List UInt8) : Int := if w.getD (w.length - 1) 0 = 118 then 1 else 0
def parseI : List (List UInt8) → Option (List Int × List Int)
  | [] => some ([], [])
  | w :: ws => if w = [] then none else match numD w.dropLast with
    | none => none
    | some u => match parseI ws with
      | none => none
      | some r => some ((u : Int) :: r.1, headOf w :: r.2)
theorem parseI_words {p h : List Int} (hp : ∀ i, i < p.length → 1 ≤ rd p (i : Int) ∧ rd p (i : Int) ≤ 1000000000) (hh : ∀ i, i < p.length → 0 ≤ rd h (i : Int) ∧ rd h (i : Int) ≤ 1) : ∀ l : List Nat, (∀ i ∈ l, i < p.length) → parseI (l.map (wordAt p h)) = some (l.map (fun i : Nat => rd p (i : Int)), l.map (fun i : Nat => rd h (i : Int)))
  | [], _ => rfl
  | i :: l, hl => by
    have h1 := hp i (hl i (by simp))
    have h2 := hh i (hl i (by simp))
    have ih := parseI_words hp hh l (fun j hj => hl j (by simp [hj]))
    have hne : ¬ wordAt p h i = [] := by simp [wordAt]
    have hd : (wordAt p h i).dropLast = Lib.decDigits (rd p (i : Int)).toNat := by
      unfold wordAt
      rw [List.dropLast_concat, itoa_eq_nat (by omega)]
    have hlen : (Lib.decDigits (rd p (i : Int)).toNat).length ≤ 10 := decDigits_short 9 _ (by
      have e : tenTo (9 + 1) = 10000000000 := by decide
      omega)
    have hhd : headOf (wordAt p h i) = rd h (i : Int) := by
      unfold headOf wordAt
      have e : (Lib.itoa (rd p (i : Int)) ++ [if rd h (i : Int) = 0 then (94 : UInt8) else 118]).getD ((Lib.itoa (rd p (i : Int)) ++ [if rd h (i : Int) = 0 then (94 : UInt8) else 118]).length - 1) 0 = if rd h (i : Int) = 0 then 94 else 118 := by
        simp [List.getD]
      rw [e]
      by_cases c : rd h (i : Int) = 0
      · rw [if_pos c, if_neg (by decide), c]
      · rw [if_neg c, if_pos rfl]; omega
    rw [List.map_cons, parseI, if_neg hne, hd, numD_of hlen]
    simp only [ih, hhd, List.map_cons]
    congr 3
    omega
theorem range_rd (l : List Int) : (List.range l.length).map (fun i : Nat => rd l (i : Int)) = l := by
 apply List.ext_getElem
 ·simp
 ·intro i h1 h2
  rw [List.getElem_map, List.getElem_range, rd_nat, List.getD, List.getElem?_eq_getElem h2]
  rfl
theorem side_parse {a b : Int} {p h : List Int} (hs : sideOk a b p h = true) : ∃ W H : Nat, a = (W : Int) ∧ b = (H : Int) ∧ 0 < H ∧
  ∃ (R : List (List UInt8)) (q : List UInt8), splitL 10 (sideB a p h).data.toList = R ++ [q] ∧ R.length = H ∧ parseI (R.flatMap (splitL 32)) = some (p, h) ∧ ∀ x ∈ R, (splitL 32 x).length = W := by
 obtain ⟨hp, hh, hn, hl, ha, hb, h64⟩ := sideOk_all hs
 obtain ⟨W, rfl⟩ : ∃ W : Nat, a = (W : Int) := ⟨a.toNat, by omega⟩
 obtain ⟨H, rfl⟩ : ∃ H : Nat, b = (H : Int) := ⟨b.toNat, by omega⟩
 have hb2 : W * H ≤ 8 * 8 := Nat.mul_le_mul (by omega) (by omega)
 have hnn : p.length = W * H := by
  rw [← Int.natCast_mul, w64 (by omega) (by omega)] at hn
  omega
 have hW : 0 < W := by omega
 obtain ⟨R, q, ws, h1, h2, h3, h4, h5, h6⟩ := side_cut (a := (W : Int)) (h := h) rfl hW (fun x hx => ⟨(hp x hx).1, by have := (hp x hx).2; omega⟩) p.length (Nat.le_refl _)
 have hwl : ws = [] := List.length_eq_zero_iff.1 (by rw [h5, hnn, Nat.mul_mod_right])
 have hRl : R.length = H := by rw [h4, hnn, Nat.mul_div_cancel_left _ hW]
 rw [hwl, List.append_nil] at h3
 refine ⟨W, H, rfl, rfl, by omega, R, q, ?_, hRl, ?_, h6⟩
 ·unfold sideB; simpa using h1
 ·rw [h3, parseI_words (fun i hi => by have := hp _ (getD_mem p 0 i hi); rw [rd_nat]; exact this) (fun i hi => by have := hh _ (getD_mem h 0 i (by omega)); rw [rd_nat]; exact this) _ (fun i hi => by simpa using hi), range_rd]
  have e : h.length = p.length := by omega
  rw [← e, range_rd]
theorem flat_le (M : Nat) : ∀ ls : List (List UInt8), (∀ x ∈ ls, (splitL 32 x).length ≤ M) → (ls.flatMap (splitL 32)).length ≤ ls.length * M
  | [], _ => by simp
  | x :: ls, h => by
    have h1 := h x (by simp)
    have h2 := flat_le M ls (fun y hy => h y (by simp [hy]))
    rw [List.flatMap_cons, List.length_append, List.length_cons, Nat.add_mul, Nat.one_mul]
    omega
theorem mk_front (w : List UInt8) : (⟨w.toArray⟩ : ByteArray).extract 0 (w.length - 1) = ⟨w.dropLast.toArray⟩ := by
 rw [extract_list, mk_list, List.drop_zero, List.dropLast_eq_take]
theorem mk_last (w : List UInt8) (h : ¬ w = []) : bt (⟨w.toArray⟩ : ByteArray) ((w.length - 1 : Nat) : Int) = ((w.getD (w.length - 1) 0).toNat : Int) := by
 have hl : 0 < w.length := List.length_pos_iff.2 h
 rw [bt_get' _ _ (by rw [mk_list]; omega)]
 simp only [mk_list]
 rw [List.getD, List.getElem?_eq_getElem (by omega)]
 rfl
theorem headOf_eq (w : List UInt8) : headOf w = if ((w.getD (w.length - 1) 0).toNat : Int) = 118 then 1 else 0 := by
 unfold headOf
 have e : ((w.getD (w.length - 1) 0).toNat : Int) = 118 ↔ w.getD (w.length - 1) 0 = 118 := byteOf 118 (w.getD (w.length - 1) 0)
 by_cases c : w.getD (w.length - 1) 0 = 118
 ·rw [if_pos c, if_pos (e.2 c)]
 ·rw [if_neg c, if_neg (fun h => c (e.1 h))]
def fail5 : Int × Int × List Int × List Int × Int := (0, 0, [], [], 6)
def fin (t : ByteArray) (a b : Int) (p h : List Int) : Int × Int × List Int × List Int × Int := if sideOk a b p h = true then (if sideB a p h = t then (a, b, p, h, 0) else fail5) else fail5
theorem fin_cases (t : ByteArray) (a b : Int) (p h : List Int) : fin t a b p h = fail5 ∨ (sideOk a b p h = true ∧ sideB a p h = t ∧ fin t a b p h = (a, b, p, h, 0)) := by
 unfold fin
 by_cases c1 : sideOk a b p h = true
 ·rw [if_pos c1]
  by_cases c2 : sideB a p h = t
  ·rw [if_pos c2]; exact Or.inr ⟨c1, c2, rfl⟩
  ·rw [if_neg c2]; exact Or.inl rfl
 ·rw [if_neg c1]; exact Or.inl rfl
def resI (t : ByteArray) (a b : Int) (P H : List Int) (ws : List (List UInt8)) : Int × Int × List Int × List Int × Int := match parseI ws with
 | none => fail5
 | some r => fin t a b (P ++ r.1) (H ++ r.2)
theorem resI_cons {t : ByteArray} {a b : Int} {P H : List Int} {w : List UInt8} {ws : List (List UInt8)} {u : Nat} (hw : ¬ w = []) (hu : numD w.dropLast = some u) : resI t a b P H (w :: ws) = resI t a b (P ++ [(u : Int)]) (H ++ [headOf w]) ws := by
 unfold resI
 rw [parseI, if_neg hw, hu]
 cases parseI ws with
 | none => rfl
 | some r => simp
theorem impl_fin_ev (t : ByteArray) (a b : Int) (P H : List Int) : Ev (fun k => (impl_IsSide.f a b P H).bind fun t223 => (if t223 = true then ((impl_sideText.f a b P H).bind fun t224 => (if t224.toList = t.toList then (some (a, b, P, H, 0)) else (some (0, 0, ([] : List Int), ([] : List Int), 6)))) else (some (0, 0, ([] : List Int), ([] : List Int), 6)))) (fin t a b P H) := by
 unfold fin
 refine Ev.bind (Ev.eq (impl_IsSide_eq a b P H)) (Ev.ite (fun c => ?_) (fun c => Ev.eq (by rw [if_neg c]; rfl)))
 rw [if_pos c]
 refine Ev.bind (Ev.eq (impl_sideText_eq (sideW_of c))) (Ev.ite (fun c2 => Ev.eq ?_) (fun c2 => Ev.eq ?_))
 ·rw [if_pos (ba_of (by rw [← Lib.toList_data, ← Lib.toList_data]; exact c2))]
 ·rw [if_neg (fun e => c2 (by rw [e]))]; rfl
theorem impl_toInt_eq (c : Bool) : impl_toInt.f c = some (if c = true then 1 else 0) := by
 unfold impl_toInt.f
 cases c <;> rfl
theorem impl_ReadSide_l1 (t : ByteArray) (LN : List (List UInt8)) (a b : Int) (N : Nat) (hN : N < 17592186044416) (j : Nat) (WL rest : List (List UInt8)) (hW : ∀ w ∈ WL, w.length ≤ 1048576) (hWl : WL.length ≤ 1048577) (hj : j ≤ 1048577)
    (hnext : ∀ P H : List Int, P.length + rest.length ≤ N → H.length = P.length → Ev (fun k => impl_ReadSide.l0 k t (bas LN) ((bas LN).length : Int) ((j + 1 : Nat) : Int) a b P H) (resI t a b P H rest)) :
    ∀ d i, i + d = WL.length → ∀ P H : List Int, P.length + (d + rest.length) ≤ N → H.length = P.length → Ev (fun k => impl_ReadSide.l1 k t (bas LN) ((bas LN).length : Int) (j : Int) (bas WL) ((bas WL).length : Int) (i : Int) a b P H) (resI t a b P H (WL.drop i ++ rest)) := by
  have hbl := bas_length WL
  intro d
  induction d with
  | zero =>
    intro i hi P H hP hH
    have e1 : wrap64 ((j : Int) + 1) = ((j + 1 : Nat) : Int) := by rw [w64 (by omega) (by omega)]; omega
    rw [List.drop_of_length_le (by omega), List.nil_append]
    refine Ev.succ ?_
    simp only [impl_ReadSide.l1, e1]
    exact Ev.neg (by omega) (hnext P H (by omega) hH)
  | succ d ih =>
    intro i hi P H hP hH
    have hlt : i < WL.length := by omega
    have hw := rdOf_bas WL i hlt
    have hwl := hW _ (List.getElem_mem hlt)
    rw [List.drop_eq_getElem_cons hlt, List.cons_append]
    generalize (WL)[i] = w at hw hwl
    have e1 : wrap64 ((i : Int) + 1) = ((i + 1 : Nat) : Int) := by rw [w64 (by omega) (by omega)]; omega
    have f1 : (i : Int) < ((bas WL).length : Int) := by omega
    have f2 : (0 : Int) ≤ (i : Int) := Int.natCast_nonneg _
    refine Ev.succ ?_
    simp only [impl_ReadSide.l1, hw, e1, mk_toList, mk_size]
    refine Ev.pos f1 (Ev.pos f2 (Ev.pos f1 (Ev.ite (fun c1 => Ev.eq ?_) (fun c1 => ?_))))
    · unfold resI
      rw [parseI, if_pos c1]; rfl
    · have hpos : 0 < w.length := List.length_pos_iff.2 c1
      have e2 : wrap64 ((w.length : Int) - 1) = ((w.length - 1 : Nat) : Int) := by rw [w64 (by omega) (by omega)]; omega
      simp only [e2, Int.toNat_natCast, mk_front, mk_last w c1]
      have hrd := impl_readDecimal_eq (s := ⟨w.dropLast.toArray⟩) (by rw [mk_size, List.length_dropLast]; omega)
      rw [mk_list] at hrd
      have f3 : (0 : Int) ≤ ((w.length - 1 : Nat) : Int) := Int.natCast_nonneg _
      have f4 : ((w.length - 1 : Nat) : Int) ≤ (w.length : Int) := by omega
      refine Ev.pos f3 (Ev.pos f4 (Ev.bind (Ev.eq hrd) ?_))
      cases hn : numD w.dropLast with
      | none =>
        refine Ev.neg (by simp) (Ev.eq ?_)
        unfold resI
        rw [parseI, if_neg c1, hn]; rfl
      | some u =>
        have h1 := ih (i + 1) (by omega) (P ++ [(u : Int)]) (H ++ [headOf w]) (by rw [List.length_append, List.length_singleton]; omega) (by rw [List.length_append, List.length_append, hH]; rfl)
        rw [resI_cons c1 hn]
        have e3 : (if ((((w.getD (w.length - 1) 0).toNat : Int) == 118) = true) then (1 : Int) else 0) = headOf w := by
          rw [headOf_eq]
          by_cases c : ((w.getD (w.length - 1) 0).toNat : Int) = 118
          · rw [if_pos c, if_pos (by simpa using c)]
          · rw [if_neg c, if_neg (by simpa using c)]
        have g4 : P.length < 17592186044416 := by omega
        have g5 : ((w.length - 1 : Nat) : Int) < (w.length : Int) := by omega
        have g6 : H.length < 17592186044416 := by omega
        rw [← e3] at h1
        refine Ev.pos rfl (Ev.pos g4 (Ev.pos g5 (Ev.bind (Ev.eq (impl_toInt_eq _)) (Ev.pos g6 ?_))))
        rw [← e3]
        exact h1
theorem impl_ReadSide_l0 (t : ByteArray) (LN : List (List UInt8)) (a b : Int) (N : Nat) (hN : N < 17592186044416) (hL : LN.length ≤ 1048576) (hW : ∀ w ∈ LN, w.length ≤ 1048576) : ∀ d j, j + d = LN.length → ∀ P H : List Int,
    P.length + ((LN.drop j).flatMap (splitL 32)).length ≤ N → H.length = P.length → Ev (fun k => impl_ReadSide.l0 k t (bas LN) ((bas LN).length : Int) (j : Int) a b P H) (resI t a b P H ((LN.drop j).flatMap (splitL 32))) := by
  have hbl := bas_length LN
  intro d
  induction d with
  | zero =>
    intro j hj P H hP hH
    rw [List.drop_of_length_le (by omega)]
    refine Ev.succ ?_
    simp only [impl_ReadSide.l0]
    refine Ev.neg (by omega) ((impl_fin_ev t a b P H).cast ?_)
    simp [resI, parseI]
  | succ d ih =>
    intro j hj P H hP hH
    have hlt : j < LN.length := by omega
    have hw := rdOf_bas LN j hlt
    have hwl := hW _ (List.getElem_mem hlt)
    have hih := ih (j + 1) (by omega)
    rw [List.drop_eq_getElem_cons hlt, List.flatMap_cons] at hP ⊢
    generalize (LN)[j] = l at hw hwl hP
    have hsp := strings_Split_eq ⟨l.toArray⟩ 32 (by rw [mk_size]; omega)
    rw [mk_list] at hsp
    have hcl := splitL_length 32 l
    have hcc : l.count 32 ≤ l.length := List.count_le_length
    rw [List.length_append] at hP
    have h1 := impl_ReadSide_l1 t LN a b N hN j (splitL 32 l) ((LN.drop (j + 1)).flatMap (splitL 32)) (fun w hw => Nat.le_trans (splitL_piece 32 l w hw) hwl) (by omega) (by omega) hih (splitL 32 l).length 0 (by omega) P H (by omega) hH
    rw [List.drop_zero] at h1
    refine Ev.succ ?_
    simp only [impl_ReadSide.l0, hw]
    exact Ev.pos (by omega) (Ev.pos (by omega) (Ev.pos (by omega) (Ev.bind (Ev.eq hsp) h1)))
def outI (t : ByteArray) : Int × Int × List Int × List Int × Int :=
 let L := splitL 10 t.data.toList
 let a : Int := ((splitL 32 (L.headD [])).length : Int)
 let m : Int := ((L.length - 1 : Nat) : Int)
 if sideLen a = true ∧ sideLen m = true then resI t a m [] [] (L.dropLast.flatMap (splitL 32)) else fail5
theorem impl_ReadSide_ev {t : ByteArray} (ht : t.size ≤ 1048576) : Ev (fun k => impl_ReadSide.f k t) (outI t) := by
 have hsz : t.data.toList.length = t.size := data_length t
 have hs := strings_Split_eq t 10 ht
 have hLl := splitL_length 10 t.data.toList
 have hLc : t.data.toList.count 10 ≤ t.data.toList.length := List.count_le_length
 have hpc := splitL_piece 10 t.data.toList
 unfold impl_ReadSide.f outI
 generalize splitL 10 t.data.toList = L at hs hLl hpc
 have hpos : 0 < L.length := by omega
 have h0 := rdOf_bas L 0 hpos
 have hh : L.headD [] = L[0] := by cases L with | nil => simp at hpos | cons x xs => rfl
 have hl0 := hpc _ (List.getElem_mem hpos)
 have hbl := bas_length L
 simp only [hh]
 generalize L[0] = l0 at h0 hl0
 have hc : strings_Count.f (⟨l0.toArray⟩ : ByteArray) (⟨#[32]⟩ : ByteArray) = some ((l0.count 32 : Nat) : Int) := by
  unfold strings_Count.f
  have hl1 : (⟨#[32]⟩ : ByteArray).data.toList.length = 1 := rfl
  rw [if_pos hl1, mk_list]; rfl
 have hcl := splitL_length 32 l0
 have hcc : l0.count 32 ≤ l0.length := List.count_le_length
 have e1 : wrap64 (((l0.count 32 : Nat) : Int) + 1) = ((splitL 32 l0).length : Int) := by rw [w64 (by omega) (by omega)]; omega
 have e2 : wrap64 ((((bas L).length : Nat) : Int) - 1) = ((L.length - 1 : Nat) : Int) := by rw [w64 (by omega) (by omega)]; omega
 have htk : (bas L).take (L.length - 1) = bas L.dropLast := by
  unfold bas
  rw [← List.map_take, List.dropLast_eq_take]
 have hlen : impl_length_string.f (bas L) = some (((bas L).length : Nat) : Int) := rfl
 refine Ev.bind (Ev.eq hs) (Ev.bind (Ev.eq hlen) (Ev.pos (by omega) ?_))
 have h0' : rdOf ByteArray.empty (bas L) 0 = ⟨l0.toArray⟩ := h0
 simp only [h0', e2, Int.toNat_natCast, htk]
 refine Ev.bind (Ev.eq hc) ?_
 simp only [e1]
 refine Ev.bind (Ev.eq (impl_isSheet_eq _ _)) (Ev.ite (fun c => ?_) (fun c => Ev.eq ?_))
 ·rw [Bool.and_eq_true] at c
  rw [if_pos c]
  have hdl : L.dropLast.length = L.length - 1 := List.length_dropLast
  have hsub : ∀ w ∈ L.dropLast, w.length ≤ 1048576 := fun w hw => by have := hpc w (List.mem_of_mem_take (by rw [← List.dropLast_eq_take]; exact hw)); omega
  have hfl := flat_le 1048577 L.dropLast (fun x hx => by
   have h1 := hsub x hx
   have h2 := splitL_length 32 x
   have h3 : x.count 32 ≤ x.length := List.count_le_length
   omega)
  have hmul : L.dropLast.length * 1048577 ≤ 1048576 * 1048577 := Nat.mul_le_mul_right _ (by omega)
  have h1 := impl_ReadSide_l0 t L.dropLast ((splitL 32 l0).length : Int) ((L.length - 1 : Nat) : Int) (1048576 * 1048577) (by decide) (by omega) hsub L.dropLast.length 0 (by omega) [] [] (by simp only [List.length_nil, List.drop_zero]; omega) rfl
  rw [List.drop_zero] at h1
  exact Ev.pos (by omega) (Ev.pos (by omega) (Ev.bind (Ev.eq rfl) h1))
 ·rw [if_neg (fun h => c (by rw [Bool.and_eq_true]; exact h))]; rfl
theorem digits_ex (l : List UInt8) : ∃ n : Int, Ev (fun k => spec_l01Digits.f k ⟨l.toArray⟩) (n, (numD l).isSome) ∧ ∀ u, numD l = some u → n = (u : Int) := by
 have h := spec_l01Digits_ev ⟨l.toArray⟩
 rw [mk_list] at h
 exact h
noncomputable def digN (l : List UInt8) : Int := Classical.choose (digits_ex l)
theorem digN_ev (l : List UInt8) : Ev (fun k => spec_l01Digits.f k ⟨l.toArray⟩) (digN l, (numD l).isSome) := (Classical.choose_spec (digits_ex l)).1
theorem digN_of {l : List UInt8} {u : Nat} (h : numD l = some u) : digN l = (u : Int) := (Classical.choose_spec (digits_ex l)).2 u h
noncomputable def parseS : List (List UInt8) → Option (List Int × List Int)
  | [] => some ([], [])
  | w :: ws => if w = [] then none else match parseS ws with
    | none => none
    | some r => some (digN w.dropLast :: r.1, headOf w :: r.2)
theorem parseS_of : ∀ (ws : List (List UInt8)) (r : List Int × List Int), parseI ws = some r → parseS ws = some r
  | [], r, h => h
  | w :: ws, r, h => by
    rw [parseI] at h
    rw [parseS]
    by_cases c : w = []
    · rw [if_pos c] at h; cases h
    · rw [if_neg c] at h ⊢
      cases hn : numD w.dropLast with
      | none => rw [hn] at h; cases h
      | some u =>
        rw [hn] at h
        cases hp : parseI ws with
        | none => rw [hp] at h; cases h
        | some r' =>
          rw [hp] at h
          rw [parseS_of ws r' hp, digN_of hn]
          exact h
def fail4 : Int × Int × List Int × List Int × Bool := (0, 0, [], [], false)
def finS (t : ByteArray) (a b : Int) (p h : List Int) : Int × Int × List Int × List Int × Bool := if sideOk a b p h = true then (a, b, p, h, decide (sideB a p h = t)) else (a, b, p, h, false)
noncomputable def resS (t : ByteArray) (a b : Int) (P H : List Int) (ws : List (List UInt8)) : Int × Int × List Int × List Int × Bool := match parseS ws with
 | none => fail4
 | some r => finS t a b (P ++ r.1) (H ++ r.2)
theorem resS_cons {t : ByteArray} {a b : Int} {P H : List Int} {w : List UInt8} {ws : List (List UInt8)} (hw : ¬ w = []) : resS t a b P H (w :: ws) = resS t a b (P ++ [digN w.dropLast]) (H ++ [headOf w]) ws := by
 unfold resS
 rw [parseS, if_neg hw]
 cases parseS ws with
 | none => rfl
 | some r => simp
theorem spec_fin_ev (t : ByteArray) (a b : Int) (P H : List Int) (hP : P.length ≤ 1048576 * 1048577) (hH : H.length = P.length) : Ev (fun k => (spec_IsSide.f k a b P H).bind fun t158 => (if t158 = true then ((spec_l27Text.f k a b P H).bind fun t159 => (some (a, b, P, H, (t159.toList == t.toList)))) else (some (a, b, P, H, false)))) (finS t a b P H) := by
 unfold finS
 refine Ev.bind (spec_IsSide_ev' (by omega) (by omega)) (Ev.ite (fun c => ?_) (fun c => Ev.eq (by rw [if_neg c])))
 rw [if_pos c]
 refine Ev.bind (spec_l27Text_ev (sideW_of c)) (Ev.eq ?_)
 congr 5
 rw [Bool.eq_iff_iff]
 simp only [beq_iff_eq, decide_eq_true_eq]
 exact ⟨fun h => ba_of (by rw [← Lib.toList_data, ← Lib.toList_data]; exact h), fun h => by rw [h]⟩
theorem spec_l27Read_l1 (t : ByteArray) (L : List (List UInt8)) (a A b : Int) (N : Nat) (hN : N ≤ 1048576 * 1048577) (j : Nat) (WL rest : List (List UInt8)) (hW : ∀ w ∈ WL, w.length ≤ 1048576) (hWl : WL.length ≤ 1048577) (hj : j ≤ 1048577)
    (hnext : ∀ P H : List Int, P.length + rest.length ≤ N → H.length = P.length → Ev (fun k => spec_l27Read.l0 k t (bas L) ((j + 1 : Nat) : Int) a b P H) (resS t A b P H rest)) :
    ∀ d i, i + d = WL.length → ∀ P H : List Int, P.length + (d + rest.length) ≤ N → H.length = P.length → Ev (fun k => spec_l27Read.l1 k t (bas L) (j : Int) (bas WL) (i : Int) a b P H) (resS t A b P H (WL.drop i ++ rest)) := by
  have hbl := bas_length WL
  intro d
  induction d with
  | zero =>
    intro i hi P H hP hH
    have e1 : wrap64 ((j : Int) + 1) = ((j + 1 : Nat) : Int) := by rw [w64 (by omega) (by omega)]; omega
    rw [List.drop_of_length_le (by omega), List.nil_append]
    refine Ev.succ ?_
    simp only [spec_l27Read.l1, e1]
    exact Ev.neg (by omega) (hnext P H (by omega) hH)
  | succ d ih =>
    intro i hi P H hP hH
    have hlt : i < WL.length := by omega
    have hw := rdOf_bas WL i hlt
    have hwl := hW _ (List.getElem_mem hlt)
    rw [List.drop_eq_getElem_cons hlt, List.cons_append]
    generalize (WL)[i] = w at hw hwl
    have e1 : wrap64 ((i : Int) + 1) = ((i + 1 : Nat) : Int) := by rw [w64 (by omega) (by omega)]; omega
    refine Ev.succ ?_
    simp only [spec_l27Read.l1, hw, e1, mk_toList, mk_size]
    have g1 : (i : Int) < ((bas WL).length : Int) := by omega
    have g2 : (0 : Int) ≤ (i : Int) := Int.natCast_nonneg _
    refine Ev.pos g1 (Ev.pos g2 (Ev.ite (fun c1 => Ev.eq ?_) (fun c1 => ?_)))
    · unfold resS
      rw [parseS, if_pos c1]; rfl
    · have hpos : 0 < w.length := List.length_pos_iff.2 c1
      have e2 : wrap64 ((w.length : Int) - 1) = ((w.length - 1 : Nat) : Int) := by rw [w64 (by omega) (by omega)]; omega
      simp only [e2, Int.toNat_natCast, mk_front, mk_last w c1]
      have g3 : (0 : Int) ≤ ((w.length - 1 : Nat) : Int) := Int.natCast_nonneg _
      have g4 : ((w.length - 1 : Nat) : Int) ≤ (w.length : Int) := by omega
      have g5 : ((w.length - 1 : Nat) : Int) < (w.length : Int) := by omega
      have g6 : P.length < 17592186044416 := by omega
      have g7 : H.length < 17592186044416 := by omega
      have h1 := ih (i + 1) (by omega) (P ++ [digN w.dropLast]) (H ++ [headOf w]) (by rw [List.length_append, List.length_singleton]; omega) (by rw [List.length_append, List.length_append, hH]; rfl)
      rw [resS_cons c1]
      refine Ev.pos g3 (Ev.pos g4 (Ev.bind (digN_ev w.dropLast) (Ev.pos g6 (Ev.bind (Ev.eq rfl) (Ev.pos g5 (Ev.ite (fun c => ?_) (fun c => ?_)))))))
      · have e3 : headOf w = 1 := by rw [headOf_eq, if_pos c]
        rw [e3] at h1 ⊢
        exact Ev.pos g7 h1
      · have e3 : headOf w = 0 := by rw [headOf_eq, if_neg c]
        rw [e3] at h1 ⊢
        exact Ev.pos g7 h1
def wAt (L : List (List UInt8)) (j : Nat) : Int := if j = 0 then 0 else ((splitL 32 (L.getD (j - 1) [])).length : Int)
theorem spec_l27Read_l0 (t : ByteArray) (L : List (List UInt8)) (b : Int) (N : Nat) (hN : N ≤ 1048576 * 1048577) (m : Nat) (hm : L.length = m + 1) (hL : m ≤ 1048576) (hW : ∀ w ∈ L, w.length ≤ 1048576) : ∀ d j, j + d = m → ∀ P H : List Int,
    P.length + ((L.dropLast.drop j).flatMap (splitL 32)).length ≤ N → H.length = P.length → Ev (fun k => spec_l27Read.l0 k t (bas L) (j : Int) (wAt L j) b P H) (resS t (wAt L m) b P H ((L.dropLast.drop j).flatMap (splitL 32))) := by
  have hbl := bas_length L
  have hdl : L.dropLast.length = m := by rw [List.length_dropLast, hm, Nat.add_sub_cancel]
  intro d
  induction d with
  | zero =>
    intro j hj P H hP hH
    have e1 : wrap64 ((j : Int) + 1) = ((j + 1 : Nat) : Int) := by rw [w64 (by omega) (by omega)]; omega
    rw [List.drop_of_length_le (by omega)] at hP ⊢
    refine Ev.succ ?_
    simp only [spec_l27Read.l0, e1]
    have g1 : ¬ ((j + 1 : Nat) : Int) < ((bas L).length : Int) := by omega
    have hj2 : j = m := by omega
    refine Ev.neg g1 ((spec_fin_ev t (wAt L j) b P H (by simp only [List.flatMap_nil, List.length_nil] at hP; omega) hH).cast ?_)
    rw [← hj2]
    simp [resS, parseS]
  | succ d ih =>
    intro j hj P H hP hH
    have jb : j + 1 ≤ 9223372036854775807 := by omega
    have hlt : j < L.dropLast.length := by omega
    have hlt2 : j < L.length := by rw [hm]; exact Nat.lt_succ_of_lt (hdl ▸ hlt)
    have hw := rdOf_bas L j hlt2
    have hwl := hW _ (List.getElem_mem hlt2)
    have hih := ih (j + 1) (by omega)
    have hel : L.dropLast[j] = L[j] := List.getElem_dropLast hlt
    have hwa : wAt L (j + 1) = ((splitL 32 L[j]).length : Int) := by
      unfold wAt
      rw [if_neg (by omega), Nat.add_sub_cancel, List.getD, List.getElem?_eq_getElem hlt2]
      rfl
    rw [List.drop_eq_getElem_cons hlt, List.flatMap_cons, hel] at hP ⊢
    generalize (L)[j] = l at hw hwl hP hwa
    have hsp := spec_l01Split_ev ⟨l.toArray⟩ 32 (by rw [mk_size]; omega)
    rw [mk_list] at hsp
    have hcl := splitL_length 32 l
    have hcc : l.count 32 ≤ l.length := List.count_le_length
    rw [List.length_append] at hP
    have hbw := bas_length (splitL 32 l)
    rw [hwa] at hih
    have h1 := spec_l27Read_l1 t L ((splitL 32 l).length : Int) (wAt L m) b N hN j (splitL 32 l) ((L.dropLast.drop (j + 1)).flatMap (splitL 32)) (fun w hw => Nat.le_trans (splitL_piece 32 l w hw) hwl) (by omega) (by omega) hih (splitL 32 l).length 0 (by omega) P H (by omega) hH
    rw [List.drop_zero] at h1
    have g1 : ((j + 1 : Nat) : Int) < ((bas L).length : Int) := by omega
    have g2 : (0 : Int) ≤ (j : Int) := Int.natCast_nonneg _
    have g3 : (j : Int) < ((bas L).length : Int) := by omega
    have e1 : wrap64 ((j : Int) + 1) = ((j + 1 : Nat) : Int) := wrap_next jb
    refine Ev.succ ?_
    simp only [spec_l27Read.l0, hw, e1]
    refine Ev.pos g1 (Ev.pos g2 (Ev.pos g3 (Ev.bind hsp ?_)))
    rw [hbw]
    exact h1
noncomputable def outS (t : ByteArray) : Int × Int × List Int × List Int × Int :=
 match parseS ((splitL 10 t.data.toList).dropLast.flatMap (splitL 32)) with
 | none => fail5
 | some r => fin t (wAt (splitL 10 t.data.toList) ((splitL 10 t.data.toList).length - 1)) (((splitL 10 t.data.toList).length - 1 : Nat) : Int) r.1 r.2
noncomputable def readS (t : ByteArray) : Int × Int × List Int × List Int × Bool := resS t (wAt (splitL 10 t.data.toList) ((splitL 10 t.data.toList).length - 1)) (((splitL 10 t.data.toList).length - 1 : Nat) : Int) [] [] ((splitL 10 t.data.toList).dropLast.flatMap (splitL 32))
theorem spec_l27Read_ev {t : ByteArray} (ht : t.size ≤ 1048576) : Ev (fun k => spec_l27Read.f k t) (readS t) := by
 have hsz : t.data.toList.length = t.size := data_length t
 have hs := spec_l01Split_ev t 10 ht
 have hLl := splitL_length 10 t.data.toList
 have hLc : t.data.toList.count 10 ≤ t.data.toList.length := List.count_le_length
 have hpc := splitL_piece 10 t.data.toList
 unfold spec_l27Read.f readS
 generalize splitL 10 t.data.toList = L at hs hLl hpc
 have hbl := bas_length L
 have e2 : wrap64 ((((bas L).length : Nat) : Int) - 1) = ((L.length - 1 : Nat) : Int) := by rw [w64 (by omega) (by omega)]; omega
 have hdl : L.dropLast.length = L.length - 1 := List.length_dropLast
 have hsub : ∀ w ∈ L, w.length ≤ 1048576 := fun w hw => by have := hpc w hw; omega
 have hfl := flat_le 1048577 L.dropLast (fun x hx => by
  have h1 := hsub x (List.mem_of_mem_take (by rw [← List.dropLast_eq_take]; exact hx))
  have h2 := splitL_length 32 x
  have h3 : x.count 32 ≤ x.length := List.count_le_length
  omega)
 have hmul : L.dropLast.length * 1048577 ≤ 1048576 * 1048577 := Nat.mul_le_mul_right _ (by omega)
 have h1 := spec_l27Read_l0 t L ((L.length - 1 : Nat) : Int) (1048576 * 1048577) (Nat.le_refl _) (L.length - 1) (by omega) (by omega) hsub (L.length - 1) 0 (by omega) [] [] (by simp only [List.length_nil, List.drop_zero]; omega) rfl
 rw [List.drop_zero] at h1
 refine Ev.bind hs ?_
 rw [e2]
 exact h1
theorem spec_ReadSide_ev {t : ByteArray} (ht : t.size ≤ 1048576) : Ev (fun k => spec_ReadSide.f k t) (outS t) := by
  unfold spec_ReadSide.f outS
  refine Ev.bind (spec_l27Read_ev ht) ?_
  unfold readS
  generalize splitL 10 t.data.toList = L
  unfold resS
  cases parseS (L.dropLast.flatMap (splitL 32)) with
  | none => exact Ev.neg (by simp [fail4]) (Ev.eq rfl)
  | some r =>
    simp only [List.nil_append]
    unfold finS fin
    by_cases c : sideOk (wAt L (L.length - 1)) ((L.length - 1 : Nat) : Int) r.1 r.2 = true
    · simp only [if_pos c]
      refine Ev.ite (fun c2 => Ev.eq ?_) (fun c2 => Ev.eq ?_)
      · rw [if_pos (of_decide_eq_true c2)]
      · rw [if_neg (fun h => c2 (decide_eq_true h))]; rfl
    · simp only [if_neg c]
      exact Ev.neg (by simp) (Ev.eq rfl)
theorem outs_own {t : ByteArray} {a b : Int} {p h : List Int} (hs : sideOk a b p h = true) (ht : sideB a p h = t) : outI t = fin t a b p h ∧ outS t = fin t a b p h := by
 obtain ⟨W, H, rfl, rfl, hH, R, q, h1, h2, h3, h4⟩ := side_parse hs
 rw [ht] at h1
 have hl : (R ++ [q]).length - 1 = R.length := by simp
 have hd : (R ++ [q]).dropLast = R := List.dropLast_concat
 have hs' := hs
 simp only [sideOk, Bool.and_eq_true] at hs'
 obtain ⟨⟨⟨⟨⟨s1, s2⟩, _⟩, _⟩, _⟩, _⟩ := hs'
 constructor
 ·unfold outI
  simp only [h1, hl, hd, h2]
  have hh : (R ++ [q]).headD [] ∈ R := by
   cases R with
   | nil => simp at h2; omega
   | cons x xs => simp
  rw [h4 _ hh, if_pos ⟨s1, s2⟩]
  unfold resI
  rw [h3]
  simp
 ·unfold outS
  simp only [h1, hl, hd, h2, parseS_of _ _ h3]
  have hw : wAt (R ++ [q]) H = (W : Int) := by
   unfold wAt
   have hlt : H - 1 < R.length := by omega
   rw [if_neg (by omega), List.getD, List.getElem?_append_left hlt, List.getElem?_eq_getElem hlt]
   exact congrArg Int.ofNat (h4 _ (List.getElem_mem hlt))
  rw [hw]
theorem outs_eq (t : ByteArray) : outS t = outI t := by
 by_cases ex : ∃ a b p h, sideOk a b p h = true ∧ sideB a p h = t
 ·obtain ⟨a, b, p, h, h1, h2⟩ := ex
  obtain ⟨e1, e2⟩ := outs_own h1 h2
  rw [e1, e2]
 ·have fin_no : ∀ a b p h, fin t a b p h = fail5 := fun a b p h => by
   rcases fin_cases t a b p h with e | ⟨h1, h2, _⟩
   ·exact e
   ·exact absurd ⟨a, b, p, h, h1, h2⟩ ex
  have eI : outI t = fail5 := by
   unfold outI
   simp only
   split
   ·unfold resI
    split
    ·rfl
    ·exact fin_no _ _ _ _
   ·rfl
  have eS : outS t = fail5 := by
   unfold outS
   split
   ·rfl
   ·exact fin_no _ _ _ _
  rw [eI, eS]
theorem outI_length (t : ByteArray) : (outI t).2.2.1.length ≤ 64 ∧ (outI t).2.2.2.1.length ≤ 64 := by
 have hfin : ∀ a b p h, (fin t a b p h).2.2.1.length ≤ 64 ∧ (fin t a b p h).2.2.2.1.length ≤ 64 := fun a b p h => by
  rcases fin_cases t a b p h with e | ⟨h1, _, e⟩
  ·rw [e]; simp [fail5]
  ·have := sideOk_len h1
   rw [e]
   simp only
   omega
 unfold outI
 simp only
 split
 ·unfold resI
  split
  ·simp [fail5]
  ·exact hfin _ _ _ _
 ·simp [fail5]
end Go.Proofs.YtokpepaoneiepaaGreatDoor.PL
end
