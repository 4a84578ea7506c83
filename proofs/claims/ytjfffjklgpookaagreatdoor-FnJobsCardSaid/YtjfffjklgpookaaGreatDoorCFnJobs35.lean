import Derived.Test.YtjfffjklgpookaaGreatDoorCFnJobs19
import Derived.Test.YtjfffjklgpookaaGreatDoorCFnJobs31
import Derived.Test.YtjfffjklgpookaaGreatDoorCFnJobs34
set_option linter.unusedVariables false
set_option linter.unusedSimpArgs false
section
namespace Go.Proofs.YtjfffjklgpookaaGreatDoor.PJ
open Go.RowKit Go.Proofs.YtjfffjklgpookaaGreatDoorW.PrintWords Go.Proofs.YtjfffjklgpookaaGreatDoorB
def sgnI : List UInt8 → Option Int
 | [] => none
 | c :: t => if c = 45 then (match numD t with | some u => if 0 < u then some (-(u : Int)) else none | none => none) else (numD (c :: t)).map (fun u : Nat => (u : Int))
theorem sgn_minus (t : List UInt8) : sgnI (45 :: t) = (match numD t with | some u => if 0 < u then some (-(u : Int)) else none | none => none) := by simp [sgnI]
theorem sgn_other {c : UInt8} (h : ¬ c = 45) (t : List UInt8) : sgnI (c :: t) = (numD (c :: t)).map (fun u : Nat => (u : Int)) := by simp [sgnI, h]
theorem num_nil : numD [] = none := by simp [numD, Lib.decNat]
theorem num_minus (t : List UInt8) : numD (45 :: t) = none := by
  cases h : numD (45 :: t) with
  | none => rfl
  | some u =>
    obtain ⟨_, _, h3⟩ := numD_some h
    have := digits_byte (u := u) (x := 45) (by rw [h3]; simp)
    simp at this
theorem sgn_of_num {l : List UInt8} {u : Nat} (h : numD l = some u) : sgnI l = some (u : Int) := by
  cases l with
  | nil => rw [num_nil] at h; cases h
  | cons c t =>
    by_cases hc : c = 45
    · subst hc; rw [num_minus] at h; cases h
    · rw [sgn_other hc, h]; rfl
theorem num_of_sgn {l : List UInt8} {x : Int} (h : sgnI l = some x) (h0 : 0 ≤ x) : numD l = some x.toNat := by
  cases l with
  | nil => cases h
  | cons c t =>
    by_cases hc : c = 45
    · subst hc
      rw [sgn_minus] at h
      split at h
      · split at h
        · have := Option.some.inj h; omega
        · cases h
      · cases h
    · rw [sgn_other hc] at h
      cases hn : numD (c :: t) with
      | none => rw [hn] at h; cases h
      | some u =>
        rw [hn] at h
        have h' : (u : Int) = x := Option.some.inj h
        subst h'
        rfl
theorem dig_l (l : List UInt8) : ∃ n : Int, Ev (fun k => spec_l01Digits.f k ⟨l.toArray⟩) (n, (numD l).isSome) ∧ ∀ u, numD l = some u → n = (u : Int) := by
 have h := spec_l01Digits_ev ⟨l.toArray⟩
 rw [mk_list] at h
 exact h
theorem spec_l01Signed_i (l : List UInt8) : ∃ n : Int, Ev (fun k => spec_l01Signed.f k ⟨l.toArray⟩) (n, (sgnI l).isSome) ∧ ∀ x, sgnI l = some x → n = x := by
  have plain : ∃ n : Int, Ev (fun k => spec_l01Signed.j0 k ⟨l.toArray⟩ false) (n, (numD l).isSome) ∧ ∀ u, numD l = some u → n = (u : Int) := by
    obtain ⟨n, h1, h2⟩ := dig_l l
    refine ⟨n, Ev.succ ?_, h2⟩
    simp only [spec_l01Signed.j0]
    exact Ev.neg (by simp) (Ev.bind h1 (Ev.eq rfl))
  unfold spec_l01Signed.f
  cases l with
  | nil =>
    obtain ⟨n, h1, h2⟩ := plain
    rw [num_nil] at h1
    exact ⟨n, Ev.neg (by rw [mk_size]; simp) h1, fun x h => by cases h⟩
  | cons c t =>
    have hsz : (⟨(c :: t).toArray⟩ : ByteArray).size = t.length + 1 := by rw [mk_size]; rfl
    have hb : bt (⟨(c :: t).toArray⟩ : ByteArray) 0 = (c.toNat : Int) := by
      have h := bt_get' ⟨(c :: t).toArray⟩ 0 (by rw [mk_list]; simp)
      simpa using h
    by_cases hc : c = 45
    · subst hc
      obtain ⟨n, h1, h2⟩ := dig_l t
      have hex : (⟨((45 : UInt8) :: t).toArray⟩ : ByteArray).extract 1 (⟨((45 : UInt8) :: t).toArray⟩ : ByteArray).size = ⟨t.toArray⟩ := by
        rw [extract_list, mk_list, mk_size]
        simp
      have e45 : (bt (⟨((45 : UInt8) :: t).toArray⟩ : ByteArray) 0 == 45) = true := by rw [hb]; rfl
      refine ⟨wrap64 (-n), ?_, fun x hx => ?_⟩
      · refine Ev.pos (by rw [hsz]; omega) (Ev.pos (by rw [hsz]; omega) ?_)
        rw [e45, sgn_minus]
        refine Ev.succ ?_
        simp only [spec_l01Signed.j0]
        rw [hex]
        refine Ev.pos trivial (Ev.pos (by rw [hsz]; omega) (Ev.bind h1 ?_))
        cases hn : numD t with
        | none => exact Ev.neg (by simp) (Ev.eq rfl)
        | some u =>
          rw [h2 u hn]
          refine Ev.pos rfl (Ev.eq ?_)
          by_cases hu : 0 < u
          · simp [hu]
          · have : u = 0 := by omega
            subst this
            rfl
      · rw [sgn_minus] at hx
        cases hn : numD t with
        | none => rw [hn] at hx; cases hx
        | some u =>
          rw [hn] at hx
          simp only at hx
          split at hx
          · have hx := Option.some.inj hx
            have hd := (numD_some hn)
            have hs := Lib.decNat_small (l := t) (by omega) hd.2.1
            rw [h2 u hn, ← hx, w64 (by omega) (by omega)]
          · cases hx
    · have e45 : (bt (⟨(c :: t).toArray⟩ : ByteArray) 0 == 45) = false := by
        rw [hb, beq_eq_false_iff_ne]
        intro h
        exact hc ((byteOf 45 c).1 (by rw [h]; rfl))
      obtain ⟨n, h1, h2⟩ := plain
      refine ⟨n, Ev.pos (by rw [hsz]; omega) (Ev.pos (by rw [hsz]; omega) ?_), fun x hx => ?_⟩
      · rw [e45, sgn_other hc, Option.isSome_map]
        exact h1
      · rw [sgn_other hc] at hx
        cases hn : numD (c :: t) with
        | none => rw [hn] at hx; cases hx
        | some u => rw [hn] at hx; rw [h2 u hn]; exact Option.some.inj hx
theorem spec_l01Numbers_il0 (ws : List (List UInt8)) (hl : ws.length ≤ 1048577) : ∀ d i, i + d = ws.length → ∀ out : List Int, out.length = i →
    ∃ r : List Int, Ev (fun k => spec_l01Numbers.l0 k (bas ws) out (i : Int)) (r, (ws.drop i).all fun w => (sgnI w).isSome) ∧ ∀ vs, (ws.drop i).map sgnI = vs.map some → r = out ++ vs := by
  have hbl := bas_length ws
  intro d
  induction d with
  | zero =>
    intro i hi out ho
    rw [List.drop_of_length_le (by omega)]
    refine ⟨out, Ev.succ ?_, fun vs h => ?_⟩
    · simp only [spec_l01Numbers.l0]
      exact Ev.neg (by omega) (Ev.eq rfl)
    · cases vs with
      | nil => simp
      | cons => cases h
  | succ d ih =>
    intro i hi out ho
    have hlt : i < ws.length := by omega
    have hw := rdOf_bas ws i hlt
    have hdr := List.drop_eq_getElem_cons hlt
    generalize (ws)[i] = w at hw hdr
    obtain ⟨v, h1, h2⟩ := spec_l01Signed_i w
    have e1 : wrap64 ((i : Int) + 1) = ((i + 1 : Nat) : Int) := wrap_next (by omega)
    rw [hdr, List.all_cons]
    cases hv : sgnI w with
    | some x =>
      rw [hv] at h1
      obtain ⟨r, h3, h4⟩ := ih (i + 1) (by omega) (out ++ [v]) (by rw [List.length_append, List.length_singleton]; omega)
      refine ⟨r, Ev.succ ?_, fun vs h => ?_⟩
      · simp only [spec_l01Numbers.l0, hw, e1]
        exact Ev.pos (by omega) (Ev.pos (by omega) (Ev.bind h1 (Ev.pos rfl (Ev.pos (by omega) h3))))
      · cases vs with
        | nil => cases h
        | cons y vs =>
          simp only [List.map_cons, List.cons.injEq] at h
          rw [h4 vs h.2, h2 y h.1]
          simp
    | none =>
      rw [hv] at h1
      refine ⟨[], Ev.succ ?_, fun vs h => ?_⟩
      · simp only [spec_l01Numbers.l0, hw, e1]
        exact Ev.pos (by omega) (Ev.pos (by omega) (Ev.bind h1 (Ev.neg (by simp) (Ev.eq rfl))))
      · cases vs with
        | nil => cases h
        | cons y vs =>
          simp only [List.map_cons, List.cons.injEq] at h
          rw [hv] at h
          cases h.1
theorem spec_l01Numbers_i (ws : List (List UInt8)) (hl : ws.length ≤ 1048577) : ∃ r : List Int, Ev (fun k => spec_l01Numbers.f k (bas ws)) (r, ws.all fun w => (sgnI w).isSome) ∧ ∀ vs, ws.map sgnI = vs.map some → r = vs := by
 obtain ⟨r, h1, h2⟩ := spec_l01Numbers_il0 ws hl ws.length 0 (by omega) [] rfl
 rw [List.drop_zero] at h1 h2
 exact ⟨r, h1, fun vs h => by rw [h2 vs h, List.nil_append]⟩
theorem all_some : ∀ (ws : List (List UInt8)), (ws.all fun w => (sgnI w).isSome) = true → ∃ vs : List Int, ws.map sgnI = vs.map some ∧ vs.length = ws.length
  | [], _ => ⟨[], rfl, rfl⟩
  | w :: ws, h => by
    rw [List.all_cons, Bool.and_eq_true] at h
    obtain ⟨vs, h1, h2⟩ := all_some ws h.2
    obtain ⟨x, hx⟩ := Option.isSome_iff_exists.1 h.1
    exact ⟨x :: vs, by rw [List.map_cons, List.map_cons, hx, h1], by rw [List.length_cons, List.length_cons, h2]⟩
def rpOf (l : List UInt8) : Option (Int × Int) := match splitL 47 l with
  | [a, b] => (match numD a, numD b with
    | some x, some y => if paperOk x y = true then some ((x : Int), (y : Int)) else none
    | _, _ => none)
  | _ => none
def rpT (l : List UInt8) : Int × Int × Bool := match rpOf l with
 | some (x, y) => (x, y, true)
 | none => (0, 0, false)
theorem rp_two {l a b : List UInt8} (h : splitL 47 l = [a, b]) : rpOf l = (match numD a, numD b with
  | some x, some y => if paperOk x y = true then some ((x : Int), (y : Int)) else none
  | _, _ => none) := by unfold rpOf; rw [h]
theorem rp_not {l : List UInt8} (h : ¬ (splitL 47 l).length = 2) : rpT l = (0, 0, false) := by
 unfold rpT rpOf
 generalize splitL 47 l = W at h
 match W, h with
 | [], _ => rfl
 | [_], _ => rfl
 | [_, _], h => exact absurd rfl h
 | _ :: _ :: _ :: _, _ => rfl
theorem paper_pos {x y : Int} (h : paperOk x y = true) : 30 ≤ x ∧ x ≤ 500 ∧ 50 ≤ y ∧ y ≤ 300 := by simpa [paperOk] using h
theorem spec_ReadPaper_ev {l : List UInt8} (hl : l.length ≤ 1048576) : Ev (fun k => spec_ReadPaper.f k ⟨l.toArray⟩) (rpT l) := by
  have hsz := mk_size l
  have h1 := spec_l01Split_ev ⟨l.toArray⟩ 47 (by omega)
  rw [mk_list] at h1
  have hcl := splitL_length 47 l
  have hcc : l.count 47 ≤ l.length := List.count_le_length
  obtain ⟨r, h2, h3⟩ := spec_l01Numbers_i (splitL 47 l) (by omega)
  unfold spec_ReadPaper.f
  refine Ev.bind h1 (Ev.bind h2 ?_)
  by_cases hall : ((splitL 47 l).all fun w => (sgnI w).isSome) = true
  · obtain ⟨vs, h4, h5⟩ := all_some _ hall
    obtain rfl := h3 vs h4
    refine Ev.pos hall ?_
    by_cases hn : (splitL 47 l).length = 2
    · have hr : r.length = 2 := by omega
      refine Ev.pos (by dsimp only; omega) (Ev.pos (by dsimp only; omega) (Ev.pos (by dsimp only; omega) ?_))
      match hW : splitL 47 l, hn with
      | [a, b], _ =>
        rw [hW] at h4
        match r, hr with
        | [x, y], _ =>
          simp only [List.map_cons, List.map_nil, List.cons.injEq, and_true] at h4
          have e0 : rd [x, y] 0 = x := rfl
          have e1 : rd [x, y] 1 = y := rfl
          simp only [e0, e1]
          refine Ev.bind (Ev.eq (spec_IsPaper_eq x y)) ?_
          unfold rpT
          rw [rp_two hW]
          refine Ev.ite (fun c => Ev.eq ?_) (fun c => Ev.eq ?_)
          · have hp := paper_pos c
            rw [num_of_sgn h4.1 (by omega), num_of_sgn h4.2 (by omega)]
            have ex : ((x.toNat : Nat) : Int) = x := by omega
            have ey : ((y.toNat : Nat) : Int) = y := by omega
            simp only [ex, ey, if_pos c]
          · cases ha : numD a with
            | none => rfl
            | some u =>
              cases hb : numD b with
              | none => rfl
              | some v =>
                have q1 := sgn_of_num ha
                have q2 := sgn_of_num hb
                rw [h4.1] at q1
                rw [h4.2] at q2
                have q1 := Option.some.inj q1
                have q2 := Option.some.inj q2
                simp only [← q1, ← q2, if_neg c]
    · rw [rp_not hn]
      exact Ev.neg (by dsimp only; omega) (Ev.eq rfl)
  · refine Ev.neg hall (Ev.eq ?_)
    by_cases hn : (splitL 47 l).length = 2
    · unfold rpT
      match hW : splitL 47 l, hn with
      | [a, b], _ =>
        rw [rp_two hW]
        cases ha : numD a with
        | none => rfl
        | some u =>
          cases hb : numD b with
          | none => rfl
          | some v =>
            rw [hW] at hall
            exact absurd (by simp [sgn_of_num ha, sgn_of_num hb]) hall
    · rw [rp_not hn]
theorem cut_none47 {l : List UInt8} (h : (47 : UInt8) ∉ l) : Lib.cut l [47] = (l, [], false) := by
 unfold Lib.cut
 have hi : Lib.index l [47] = Lib.indexByte l 47 := Lib.index_one l 47
 have hge := Lib.indexByte_ge l 47
 rw [if_neg]
 intro h0
 obtain ⟨o, ho⟩ : ∃ o : Nat, Lib.indexByte l 47 = o := ⟨(Lib.indexByte l 47).toNat, by omega⟩
 obtain ⟨h1, _⟩ := Lib.indexByte_some ho
 exact h (List.mem_of_getElem? h1)
theorem cut_at47 {p q : List UInt8} (h : (47 : UInt8) ∉ p) : Lib.cut (p ++ 47 :: q) [47] = (p, q, true) := by
 unfold Lib.cut
 have hi : Lib.index (p ++ 47 :: q) [47] = Lib.indexByte (p ++ 47 :: q) 47 := Lib.index_one _ 47
 have hge := Lib.indexByte_ge (p ++ 47 :: q) 47
 have hmem : (p ++ 47 :: q)[p.length]? = some 47 := by simp
 have hne : ¬ Lib.indexByte (p ++ 47 :: q) 47 = -1 := fun e => Lib.indexByte_none e p.length hmem
 obtain ⟨o, ho⟩ : ∃ o : Nat, Lib.indexByte (p ++ 47 :: q) 47 = o := ⟨(Lib.indexByte (p ++ 47 :: q) 47).toNat, by omega⟩
 obtain ⟨h1, h2⟩ := Lib.indexByte_some ho
 have hop : o = p.length := by
  rcases Nat.lt_trichotomy o p.length with hlt | he | hgt
  ·rw [List.getElem?_append_left hlt] at h1
   exact absurd (List.mem_of_getElem? h1) h
  ·exact he
  ·exact absurd hmem (h2 p.length hgt)
 have hi2 : Lib.index (p ++ 47 :: q) [47] = (p.length : Int) := by rw [hi, ho, hop]
 rw [hi2, if_pos (by omega), Int.toNat_natCast]
 simp
theorem mem_split {x : UInt8} : ∀ {l : List UInt8}, x ∈ l → ∃ p q, l = p ++ x :: q ∧ x ∉ p
  | [], h => by cases h
  | y :: l, h => by
    by_cases e : y = x
    · subst e
      exact ⟨[], l, rfl, by simp⟩
    · have h2 : x ∈ l := by
        rcases List.mem_cons.1 h with h | h
        · exact absurd h.symm e
        · exact h
      obtain ⟨p, q, h3, h4⟩ := mem_split h2
      refine ⟨y :: p, q, by rw [h3]; rfl, ?_⟩
      rw [List.mem_cons]
      rintro (h | h)
      · exact e h.symm
      · exact h4 h
theorem num_slash {q : List UInt8} (h : (47 : UInt8) ∈ q) : numD q = none := by
  cases hn : numD q with
  | none => rfl
  | some u =>
    obtain ⟨_, _, h3⟩ := numD_some hn
    have := digits_byte (u := u) (x := 47) (by rw [h3]; exact h)
    simp at this
def numT (w : List UInt8) : Int × Bool := match numD w with
 | some u => ((u : Int), true)
 | none => (0, false)
theorem readDecimal_l {w : List UInt8} (h : w.length ≤ 1048576) : impl_readDecimal.f ⟨w.toArray⟩ = some (numT w) := by
 have h1 := impl_readDecimal_eq (s := ⟨w.toArray⟩) (by rw [mk_size]; exact h)
 rw [mk_list] at h1
 exact h1
theorem impl_PaperText_l {x y : Nat} (h : paperOk x y = true) : impl_PaperText.f (x : Int) (y : Int) = some (⟨(Lib.decDigits x ++ 47 :: Lib.decDigits y).toArray⟩) := by
 have hp := paper_pos h
 have sx := itoaB_le (n := (x : Int)) (by omega) (by omega)
 have sy := itoaB_le (n := (y : Int)) (by omega) (by omega)
 have z47 : (⟨#[47]⟩ : ByteArray).size = 1 := rfl
 have hz : (itoaB (x : Int) ++ (⟨#[47]⟩ : ByteArray)).size = (itoaB (x : Int)).size + 1 := by rw [ByteArray.size_append]; rfl
 unfold impl_PaperText.f
 rw [impl_IsPaper_eq, Option.bind_some, if_pos h, impl_decimal_eq (by omega) (by omega), Option.bind_some, if_pos (by omega), impl_decimal_eq (by omega) (by omega), Option.bind_some, if_pos (by omega)]
 congr 1
 refine ba_ext ?_
 simp [ByteArray.data_append, itoaB_data, Lib.itoa_nonneg]
theorem impl_ReadPaper_eq {l : List UInt8} (hl : l.length ≤ 1048576) : impl_ReadPaper.f ⟨l.toArray⟩ = some (rpT l) := by
  have hsz := mk_size l
  unfold impl_ReadPaper.f strings_Cut.f
  rw [if_pos (by omega), Option.bind_some]
  simp only [mk_list]
  by_cases hm : (47 : UInt8) ∈ l
  · obtain ⟨p, q, hq, hp⟩ := mem_split hm
    subst hq
    rw [List.length_append, List.length_cons] at hl
    rw [cut_at47 hp]
    simp only
    rw [readDecimal_l (by omega), Option.bind_some, readDecimal_l (by omega), Option.bind_some]
    have hsp : splitL 47 (p ++ 47 :: q) = p :: splitL 47 q := by rw [splitL_app _ _ hp, splitL_cons_eq]; simp [inFront]
    by_cases hq2 : (47 : UInt8) ∈ q
    · have hc : 0 < q.count 47 := List.count_pos_iff.2 hq2
      rw [rp_not (by rw [hsp, List.length_cons, splitL_length]; omega)]
      have hn : numT q = (0, false) := by unfold numT; rw [num_slash hq2]
      rw [hn]
      simp
    · have hsp2 : splitL 47 (p ++ 47 :: q) = [p, q] := by rw [hsp, splitL_none hq2]
      unfold rpT
      rw [rp_two hsp2]
      unfold numT
      cases ha : numD p with
      | none => simp
      | some u =>
        cases hb : numD q with
        | none => simp
        | some v =>
          simp only [if_true, impl_IsPaper_eq, Option.bind_some]
          by_cases c : paperOk u v = true
          · rw [if_pos c, if_pos c, impl_PaperText_l c, Option.bind_some, if_pos]
            rw [mk_toList, mk_toList, (numD_some ha).2.2, (numD_some hb).2.2]
          · rw [if_neg c, if_neg c]
  · rw [cut_none47 hm]
    simp only
    rw [readDecimal_l (by omega), Option.bind_some, readDecimal_l (by simp), Option.bind_some, rp_not (by rw [splitL_none hm]; simp)]
    have hn : numT [] = (0, false) := by unfold numT; rw [num_nil]
    rw [hn]
    simp
structure JJ where
 n : ByteArray
 p : Int
 t0 : Int
 t1 : Int
 t2 : Int
 t3 : Int
 g : Int
 b : Int
 u : Int
 c : Int
abbrev wName : List UInt8 := [110, 97, 109, 101]
abbrev wPages : List UInt8 := [112, 97, 103, 101, 115]
abbrev wTrim : List UInt8 := [116, 114, 105, 109]
abbrev wPaper : List UInt8 := [112, 97, 112, 101, 114]
abbrev wUnit : List UInt8 := [117, 110, 105, 116]
abbrev wCopies : List UInt8 := [99, 111, 112, 105, 101, 115]
def digs : List (List UInt8) → Option (List Int)
  | [] => some []
  | v :: vs => match numD v, digs vs with
    | some u, some us => some ((u : Int) :: us)
    | _, _ => none
theorem digs_length : ∀ {vs : List (List UInt8)} {us : List Int}, digs vs = some us → us.length = vs.length
  | [], us, h => by cases h; rfl
  | v :: vs, us, h => by
    unfold digs at h
    split at h
    · rename_i u us' h1 h2
      cases h
      rw [List.length_cons, List.length_cons, digs_length h2]
    · cases h
def some_of : List (List UInt8) → List Int
  | [] => []
  | v :: vs => match numD v with
    | some u => (u : Int) :: some_of vs
    | none => some_of vs
theorem some_le : ∀ vs : List (List UInt8), (some_of vs).length ≤ vs.length
  | [] => Nat.le_refl _
  | v :: vs => by
    unfold some_of
    have := some_le vs
    split
    · rw [List.length_cons, List.length_cons]; omega
    · rw [List.length_cons]; omega
theorem some_digs : ∀ {vs : List (List UInt8)} {us : List Int}, digs vs = some us → some_of vs = us
  | [], us, h => by cases h; rfl
  | v :: vs, us, h => by
    unfold digs at h
    unfold some_of
    split at h
    · rename_i u us' h1 h2
      cases h
      rw [h1, some_digs h2]
    · cases h
theorem some_few : ∀ {vs : List (List UInt8)}, digs vs = none → (some_of vs).length < vs.length
  | [], h => by cases h
  | v :: vs, h => by
    unfold digs at h
    unfold some_of
    have := some_le vs
    cases h1 : numD v with
    | none => rw [List.length_cons]; simp only; omega
    | some u =>
      cases h2 : digs vs with
      | some us => rw [h1, h2] at h; cases h
      | none =>
        have := some_few h2
        simp only [List.length_cons]
        omega
def lineOf (j : JJ) (w : List UInt8) (vs : List (List UInt8)) : Option (JJ × Nat) :=
 if w = wName then (match vs with | [v] => some ({ j with n := ⟨v.toArray⟩ }, 0) | _ => none)
 else if w = wPaper then (match vs with | [v] => (match rpOf v with | some (x, y) => some ({ j with g := x, b := y }, 3) | none => none) | _ => none)
 else if w = wPages then (match digs vs with | some [a] => some ({ j with p := a }, 1) | _ => none)
 else if w = wUnit then (match digs vs with | some [a] => some ({ j with u := a }, 4) | _ => none)
 else if w = wCopies then (match digs vs with | some [a] => some ({ j with c := a }, 5) | _ => none)
 else if w = wTrim then (match digs vs with | some [a, b, c, d] => some ({ j with t0 := a, t1 := b, t2 := c, t3 := d }, 2) | _ => none)
 else none
noncomputable def goodOf (j : JJ) : Nat → Bool
 | 0 => nameOk j.n
 | 1 => decide (1 ≤ j.p ∧ j.p ≤ 4096)
 | 2 => trimOk j.t0 j.t1 j.t2 j.t3
 | 4 => unitOk j.u
 | 5 => decide (1 ≤ j.c ∧ j.c ≤ 1000000)
 | _ => true
def wordOf : Nat → List UInt8
 | 0 => wName
 | 1 => wPages
 | 2 => wTrim
 | 3 => wPaper
 | 4 => wUnit
 | _ => wCopies
abbrev sT (j : JJ) (kd : Int) : ByteArray × Int × Int × Int × Int × Int × Int × Int × Int × Int × Int := (j.n, j.p, j.t0, j.t1, j.t2, j.t3, j.g, j.b, j.u, j.c, kd)
abbrev iT (w : ByteArray) (e : Int) (j : JJ) : ByteArray × Int × ByteArray × Int × Int × Int × Int × Int × Int × Int × Int × Int := (w, e, j.n, j.p, j.t0, j.t1, j.t2, j.t3, j.g, j.b, j.u, j.c)
theorem line_word {j j' : JJ} {w : List UInt8} {vs : List (List UInt8)} {kd : Nat} (h : lineOf j w vs = some (j', kd)) : kd < 6 ∧ w = wordOf kd := by
 unfold lineOf at h
 repeat' split at h
 all_goals first
  | (cases h; done)
  | (obtain ⟨_, rfl⟩ := Prod.mk.inj (Option.some.inj h); exact ⟨by omega, by assumption⟩)
theorem spec_l26Good_ev {j : JJ} (hn : j.n.size ≤ 1048576) {kd : Nat} (hk : kd < 6) : Ev (fun k => spec_l26Good.f k j.n j.p j.t0 j.t1 j.t2 j.t3 j.g j.b j.u j.c (kd : Int)) (goodOf j kd) := by
 unfold spec_l26Good.f
 match kd, hk with
 | 0, _ => exact Ev.pos rfl (Ev.bind (spec_l26Name_ev (by omega)) (Ev.eq rfl))
 | 1, _ => exact Ev.neg (by simp) (Ev.pos rfl (Ev.bind (Ev.eq (spec_l01In_eq _ _ _)) (Ev.eq rfl)))
 | 2, _ => exact Ev.neg (by simp) (Ev.neg (by simp) (Ev.pos rfl (Ev.bind (Ev.eq (spec_IsTrim_eq _ _ _ _)) (Ev.eq rfl))))
 | 3, _ => exact Ev.neg (by simp) (Ev.neg (by simp) (Ev.neg (by simp) (Ev.neg (by simp) (Ev.neg (by simp) (Ev.eq rfl)))))
 | 4, _ => exact Ev.neg (by simp) (Ev.neg (by simp) (Ev.neg (by simp) (Ev.pos rfl (Ev.bind (spec_IsUnit_ev _) (Ev.eq rfl)))))
 | 5, _ => exact Ev.neg (by simp) (Ev.neg (by simp) (Ev.neg (by simp) (Ev.neg (by simp) (Ev.pos rfl (Ev.bind (Ev.eq (spec_l01In_eq _ _ _)) (Ev.eq rfl))))))
theorem spec_line_some (W : List (List UInt8)) (hW : W.length ≤ 1048577) (kd cnt : Int) (j : JJ) (r : ByteArray × Int × Int × Int × Int × Int × Int × Int × Int × Int × Int) : ∀ d i, i + d = W.length → ∀ (out us : List Int), out.length ≤ i → digs (W.drop i) = some us →
    Ev (fun k => spec_l26Line.l0 k (bas W) kd cnt (out ++ us) (W.length : Int) j.n j.p j.t0 j.t1 j.t2 j.t3 j.g j.b j.u j.c) r → Ev (fun k => spec_l26Line.l0 k (bas W) kd cnt out (i : Int) j.n j.p j.t0 j.t1 j.t2 j.t3 j.g j.b j.u j.c) r := by
  have hbl := bas_length W
  intro d
  induction d with
  | zero =>
    intro i hi out us ho hd h
    rw [List.drop_of_length_le (by omega)] at hd
    cases hd
    rw [List.append_nil] at h
    have e : i = W.length := by omega
    rw [e]
    exact h
  | succ d ih =>
    intro i hi out us ho hd h
    have hlt : i < W.length := by omega
    have hw := rdOf_bas W i hlt
    have hdr := List.drop_eq_getElem_cons hlt
    generalize (W)[i] = w at hw hdr
    rw [hdr] at hd
    unfold digs at hd
    split at hd
    · rename_i u us' q1 q2
      cases hd
      obtain ⟨n, h1, h2⟩ := dig_l w
      rw [q1] at h1
      rw [h2 u q1] at h1
      have e1 : wrap64 ((i : Int) + 1) = ((i + 1 : Nat) : Int) := wrap_next (by omega)
      have h3 := ih (i + 1) (by omega) (out ++ [(u : Int)]) us' (by rw [List.length_append, List.length_singleton]; omega) q2 (by rw [List.append_assoc]; exact h)
      refine Ev.succ ?_
      simp only [spec_l26Line.l0, hw, e1]
      exact Ev.pos (by omega) (Ev.pos (by omega) (Ev.bind h1 (Ev.pos rfl (Ev.pos (by omega) h3))))
    · cases hd
theorem spec_line_none (W : List (List UInt8)) (hW : W.length ≤ 1048577) (kd cnt : Int) (j : JJ) : ∀ d i, i + d = W.length → ∀ (out : List Int), out.length ≤ i → digs (W.drop i) = none →
    Ev (fun k => spec_l26Line.l0 k (bas W) kd cnt out (i : Int) j.n j.p j.t0 j.t1 j.t2 j.t3 j.g j.b j.u j.c) (sT j (-1)) := by
  have hbl := bas_length W
  intro d
  induction d with
  | zero =>
    intro i hi out ho hd
    rw [List.drop_of_length_le (by omega)] at hd
    cases hd
  | succ d ih =>
    intro i hi out ho hd
    have hlt : i < W.length := by omega
    have hw := rdOf_bas W i hlt
    have hdr := List.drop_eq_getElem_cons hlt
    generalize (W)[i] = w at hw hdr
    rw [hdr] at hd
    obtain ⟨n, h1, h2⟩ := dig_l w
    have e1 : wrap64 ((i : Int) + 1) = ((i + 1 : Nat) : Int) := wrap_next (by omega)
    cases q1 : numD w with
    | none =>
      rw [q1] at h1
      refine Ev.succ ?_
      simp only [spec_l26Line.l0, hw, e1]
      exact Ev.pos (by omega) (Ev.pos (by omega) (Ev.bind h1 (Ev.neg (by simp) (Ev.eq rfl))))
    | some u =>
      rw [q1] at h1
      have q2 : digs (W.drop (i + 1)) = none := by
        cases q : digs (W.drop (i + 1)) with
        | none => rfl
        | some us => unfold digs at hd; rw [q1, q] at hd; cases hd
      have h3 := ih (i + 1) (by omega) (out ++ [n]) (by rw [List.length_append, List.length_singleton]; omega) q2
      refine Ev.succ ?_
      simp only [spec_l26Line.l0, hw, e1]
      exact Ev.pos (by omega) (Ev.pos (by omega) (Ev.bind h1 (Ev.pos rfl (Ev.pos (by omega) h3))))
theorem impl_line_l0 (vs : List (List UInt8)) (hL : vs.length ≤ 1048577) (hv : ∀ w ∈ vs, w.length ≤ 1048576) (x7 : ByteArray) (j : JJ) (r : ByteArray × Int × ByteArray × Int × Int × Int × Int × Int × Int × Int × Int × Int) : ∀ d i, i + d = vs.length → ∀ (out : List Int), out.length ≤ i →
    Ev (fun k => impl_jobLine.l0 k x7 (bas vs) (out ++ some_of (vs.drop i)) (bas vs) (vs.length : Int) (vs.length : Int) j.n j.p j.t0 j.t1 j.t2 j.t3 j.g j.b j.u j.c) r → Ev (fun k => impl_jobLine.l0 k x7 (bas vs) out (bas vs) (vs.length : Int) (i : Int) j.n j.p j.t0 j.t1 j.t2 j.t3 j.g j.b j.u j.c) r := by
  have hbl := bas_length vs
  intro d
  induction d with
  | zero =>
    intro i hi out ho h
    rw [List.drop_of_length_le (by omega)] at h
    have e : i = vs.length := by omega
    rw [e]
    simpa [some_of] using h
  | succ d ih =>
    intro i hi out ho h
    have hlt : i < vs.length := by omega
    have hw := rdOf_bas vs i hlt
    have hwl := hv _ (List.getElem_mem hlt)
    have hdr := List.drop_eq_getElem_cons hlt
    generalize (vs)[i] = w at hw hdr hwl
    rw [hdr] at h
    have hd := readDecimal_l (w := w) hwl
    have e1 : wrap64 ((i : Int) + 1) = ((i + 1 : Nat) : Int) := wrap_next (by omega)
    cases q1 : numD w with
    | none =>
      have hn : numT w = (0, false) := by unfold numT; rw [q1]
      rw [hn] at hd
      simp only [some_of, q1] at h
      have h3 := ih (i + 1) (by omega) out (by omega) h
      refine Ev.succ ?_
      simp only [impl_jobLine.l0, hw, e1]
      exact Ev.pos (by omega) (Ev.pos (by omega) (Ev.pos (by omega) (Ev.bind (Ev.eq hd) (Ev.neg (by simp) h3))))
    | some u =>
      have hn : numT w = ((u : Int), true) := by unfold numT; rw [q1]
      rw [hn] at hd
      simp only [some_of, q1] at h
      have h3 := ih (i + 1) (by omega) (out ++ [(u : Int)]) (by rw [List.length_append, List.length_singleton]; omega) (by rw [List.append_assoc]; exact h)
      refine Ev.succ ?_
      simp only [impl_jobLine.l0, hw, e1]
      exact Ev.pos (by omega) (Ev.pos (by omega) (Ev.pos (by omega) (Ev.bind (Ev.eq hd) (Ev.pos rfl (Ev.pos (by omega) h3)))))
def SaysS (j : JJ) (w : List UInt8) (vs : List (List UInt8)) (r : ByteArray × Int × Int × Int × Int × Int × Int × Int × Int × Int × Int) : Prop := match lineOf j w vs with
 | some (j', kd) => r = sT j' (kd : Int)
 | none => r.2.2.2.2.2.2.2.2.2.2 = -1
def SaysI (j : JJ) (w : List UInt8) (vs : List (List UInt8)) (r : ByteArray × Int × ByteArray × Int × Int × Int × Int × Int × Int × Int × Int × Int) : Prop := match lineOf j w vs with
 | some (j', kd) => r = iT ⟨w.toArray⟩ (if goodOf j' kd = true then 0 else 2) j'
 | none => ∃ j', r = iT ⟨#[]⟩ 6 j'
theorem word_cases (w : List UInt8) : w = wName ∨ w = wPaper ∨ w = wPages ∨ w = wUnit ∨ w = wCopies ∨ w = wTrim ∨ (¬ w = wName ∧ ¬ w = wPaper ∧ ¬ w = wPages ∧ ¬ w = wUnit ∧ ¬ w = wCopies ∧ ¬ w = wTrim) := by
 by_cases h0 : w = wName
 ·exact .inl h0
 by_cases h1 : w = wPaper
 ·exact .inr (.inl h1)
 by_cases h2 : w = wPages
 ·exact .inr (.inr (.inl h2))
 by_cases h3 : w = wUnit
 ·exact .inr (.inr (.inr (.inl h3)))
 by_cases h4 : w = wCopies
 ·exact .inr (.inr (.inr (.inr (.inl h4))))
 by_cases h5 : w = wTrim
 ·exact .inr (.inr (.inr (.inr (.inr (.inl h5)))))
 exact .inr (.inr (.inr (.inr (.inr (.inr ⟨h0, h1, h2, h3, h4, h5⟩)))))
theorem spec_l26Kind_eq (w : List UInt8) : spec_l26Kind.f ⟨w.toArray⟩ = some (if w = wName then (0, 0) else if w = wPages then (1, 1) else if w = wTrim then (2, 4) else if w = wPaper then (3, 0) else if w = wUnit then (4, 1) else if w = wCopies then (5, 1) else (-1, 0)) := by
 unfold spec_l26Kind.f
 rw [mk_toList]
 repeat' split
 all_goals rfl
theorem saysS_some {j j' : JJ} {w : List UInt8} {vs : List (List UInt8)} {kd : Nat} (h : lineOf j w vs = some (j', kd)) : SaysS j w vs (sT j' (kd : Int)) := by unfold SaysS; rw [h]
theorem saysS_none {j : JJ} {w : List UInt8} {vs : List (List UInt8)} {r : ByteArray × Int × Int × Int × Int × Int × Int × Int × Int × Int × Int} (h : lineOf j w vs = none) (hr : r.2.2.2.2.2.2.2.2.2.2 = -1) : SaysS j w vs r := by unfold SaysS; rw [h]; exact hr
theorem saysI_some {j j' : JJ} {w : List UInt8} {vs : List (List UInt8)} {kd : Nat} (h : lineOf j w vs = some (j', kd)) : SaysI j w vs (iT ⟨w.toArray⟩ (if goodOf j' kd = true then 0 else 2) j') := by unfold SaysI; rw [h]
theorem saysI_none {j j' : JJ} {w : List UInt8} {vs : List (List UInt8)} (h : lineOf j w vs = none) : SaysI j w vs (iT ⟨#[]⟩ 6 j') := by unfold SaysI; rw [h]; exact ⟨j', rfl⟩
theorem line_name (j : JJ) (vs : List (List UInt8)) : lineOf j wName vs = (match vs with | [v] => some ({ j with n := ⟨v.toArray⟩ }, 0) | _ => none) := by unfold lineOf; rw [if_pos rfl]; try (rcases vs with _ | ⟨a, _ | ⟨b, l⟩⟩ <;> rfl)
theorem line_paper (j : JJ) (vs : List (List UInt8)) : lineOf j wPaper vs = (match vs with | [v] => (match rpOf v with | some (x, y) => some ({ j with g := x, b := y }, 3) | none => none) | _ => none) := by unfold lineOf; rw [if_neg (by decide), if_pos rfl]; try (rcases vs with _ | ⟨a, _ | ⟨b, l⟩⟩ <;> rfl)
theorem line_pages (j : JJ) (vs : List (List UInt8)) : lineOf j wPages vs = (match digs vs with | some [a] => some ({ j with p := a }, 1) | _ => none) := by unfold lineOf; rw [if_neg (by decide), if_neg (by decide), if_pos rfl]; try (cases digs vs with | none => rfl | some us => rcases us with _ | ⟨a, _ | ⟨b, l⟩⟩ <;> rfl)
theorem line_unit (j : JJ) (vs : List (List UInt8)) : lineOf j wUnit vs = (match digs vs with | some [a] => some ({ j with u := a }, 4) | _ => none) := by unfold lineOf; rw [if_neg (by decide), if_neg (by decide), if_neg (by decide), if_pos rfl]; try (cases digs vs with | none => rfl | some us => rcases us with _ | ⟨a, _ | ⟨b, l⟩⟩ <;> rfl)
theorem line_copies (j : JJ) (vs : List (List UInt8)) : lineOf j wCopies vs = (match digs vs with | some [a] => some ({ j with c := a }, 5) | _ => none) := by unfold lineOf; rw [if_neg (by decide), if_neg (by decide), if_neg (by decide), if_neg (by decide), if_pos rfl]; try (cases digs vs with | none => rfl | some us => rcases us with _ | ⟨a, _ | ⟨b, l⟩⟩ <;> rfl)
theorem line_trim (j : JJ) (vs : List (List UInt8)) : lineOf j wTrim vs = (match digs vs with | some [a, b, c, d] => some ({ j with t0 := a, t1 := b, t2 := c, t3 := d }, 2) | _ => none) := by unfold lineOf; rw [if_neg (by decide), if_neg (by decide), if_neg (by decide), if_neg (by decide), if_neg (by decide), if_pos rfl]; try (cases digs vs with | none => rfl | some us => rcases us with _ | ⟨a, _ | ⟨b, _ | ⟨c, _ | ⟨d, _ | ⟨e, l⟩⟩⟩⟩⟩ <;> rfl)
theorem line_else (j : JJ) {w : List UInt8} (vs : List (List UInt8)) (h : ¬ w = wName ∧ ¬ w = wPaper ∧ ¬ w = wPages ∧ ¬ w = wUnit ∧ ¬ w = wCopies ∧ ¬ w = wTrim) : lineOf j w vs = none := by unfold lineOf; rw [if_neg h.1, if_neg h.2.1, if_neg h.2.2.1, if_neg h.2.2.2.1, if_neg h.2.2.2.2.1, if_neg h.2.2.2.2.2]
theorem spec_numeric (w : List UInt8) (vs : List (List UInt8)) (hL : vs.length ≤ 1048576) (kd cnt : Int) (j : JJ) :
  (digs vs = none → Ev (fun k => spec_l26Line.l0 k (bas (w :: vs)) kd cnt [] 1 j.n j.p j.t0 j.t1 j.t2 j.t3 j.g j.b j.u j.c) (sT j (-1))) ∧
  (∀ us, digs vs = some us → ∀ r, Ev (fun k => if kd < 0 then spec_l26Line.j2 k kd us true j.n j.p j.t0 j.t1 j.t2 j.t3 j.g j.b j.u j.c else spec_l26Line.j2 k kd us ((us.length : Int) != cnt) j.n j.p j.t0 j.t1 j.t2 j.t3 j.g j.b j.u j.c) r →
   Ev (fun k => spec_l26Line.l0 k (bas (w :: vs)) kd cnt [] 1 j.n j.p j.t0 j.t1 j.t2 j.t3 j.g j.b j.u j.c) r) := by
 have hlen : (w :: vs).length = vs.length + 1 := rfl
 have hbl := bas_length (w :: vs)
 refine ⟨fun h => ?_, fun us h r hr => ?_⟩
 ·-- at most one word has been read: the first
  have h1 := spec_line_none (w :: vs) (by omega) kd cnt j vs.length 1 (by omega) [] (by simp) h
  exact h1
 ·refine spec_line_some (w :: vs) (by omega) kd cnt j r vs.length 1 (by omega) [] us (by simp) h ?_
  rw [List.nil_append]
  refine Ev.succ ?_
  simp only [spec_l26Line.l0]
  exact Ev.neg (by omega) hr
theorem spec_not (kd : Int) (us : List Int) (j : JJ) : Ev (fun k => spec_l26Line.j2 k kd us true j.n j.p j.t0 j.t1 j.t2 j.t3 j.g j.b j.u j.c) (sT j (-1)) := by
 refine Ev.succ ?_
 simp only [spec_l26Line.j2]
 exact Ev.pos trivial (Ev.eq rfl)
theorem spec_pages (w : List UInt8) (vs : List (List UInt8)) (hL : vs.length ≤ 1048576) (j : JJ) : ∃ r, Ev (fun k => spec_l26Line.l0 k (bas (w :: vs)) 1 1 [] 1 j.n j.p j.t0 j.t1 j.t2 j.t3 j.g j.b j.u j.c) r ∧ SaysS j wPages vs r := by
  obtain ⟨h1, h2⟩ := spec_numeric w vs hL 1 1 j
  cases hd : digs vs with
  | none => exact ⟨_, h1 hd, saysS_none (by rw [line_pages, hd]) rfl⟩
  | some us =>
    match us, hd with
    | [], hd => exact ⟨_, h2 _ hd _ (Ev.neg (by omega) (spec_not _ _ _)), saysS_none (by rw [line_pages, hd]) rfl⟩
    | [a], hd =>
      refine ⟨sT { j with p := a } 1, h2 _ hd _ (Ev.neg (by omega) (Ev.succ ?_)), saysS_some (kd := 1) (by rw [line_pages, hd])⟩
      simp only [spec_l26Line.j2]
      refine Ev.neg (by simp) ?_
      exact Ev.pos (by trivial) (Ev.pos (by simp) (Ev.eq rfl))
    | a :: b :: us, hd => exact ⟨_, h2 _ hd _ (Ev.neg (by omega) (by rw [show (((a :: b :: us).length : Int) != 1) = true from by simp; omega]; exact spec_not _ _ _)), saysS_none (by rw [line_pages, hd]) rfl⟩
theorem spec_unit (w : List UInt8) (vs : List (List UInt8)) (hL : vs.length ≤ 1048576) (j : JJ) : ∃ r, Ev (fun k => spec_l26Line.l0 k (bas (w :: vs)) 4 1 [] 1 j.n j.p j.t0 j.t1 j.t2 j.t3 j.g j.b j.u j.c) r ∧ SaysS j wUnit vs r := by
  obtain ⟨h1, h2⟩ := spec_numeric w vs hL 4 1 j
  cases hd : digs vs with
  | none => exact ⟨_, h1 hd, saysS_none (by rw [line_unit, hd]) rfl⟩
  | some us =>
    match us, hd with
    | [], hd => exact ⟨_, h2 _ hd _ (Ev.neg (by omega) (spec_not _ _ _)), saysS_none (by rw [line_unit, hd]) rfl⟩
    | [a], hd =>
      refine ⟨sT { j with u := a } 4, h2 _ hd _ (Ev.neg (by omega) (Ev.succ ?_)), saysS_some (kd := 4) (by rw [line_unit, hd])⟩
      simp only [spec_l26Line.j2]
      refine Ev.neg (by simp) ?_
      refine Ev.neg (by simp) (Ev.neg (by simp) ?_)
      exact Ev.pos (by trivial) (Ev.pos (by simp) (Ev.eq rfl))
    | a :: b :: us, hd => exact ⟨_, h2 _ hd _ (Ev.neg (by omega) (by rw [show (((a :: b :: us).length : Int) != 1) = true from by simp; omega]; exact spec_not _ _ _)), saysS_none (by rw [line_unit, hd]) rfl⟩
theorem spec_copies (w : List UInt8) (vs : List (List UInt8)) (hL : vs.length ≤ 1048576) (j : JJ) : ∃ r, Ev (fun k => spec_l26Line.l0 k (bas (w :: vs)) 5 1 [] 1 j.n j.p j.t0 j.t1 j.t2 j.t3 j.g j.b j.u j.c) r ∧ SaysS j wCopies vs r := by
  obtain ⟨h1, h2⟩ := spec_numeric w vs hL 5 1 j
  cases hd : digs vs with
  | none => exact ⟨_, h1 hd, saysS_none (by rw [line_copies, hd]) rfl⟩
  | some us =>
    match us, hd with
    | [], hd => exact ⟨_, h2 _ hd _ (Ev.neg (by omega) (spec_not _ _ _)), saysS_none (by rw [line_copies, hd]) rfl⟩
    | [a], hd =>
      refine ⟨sT { j with c := a } 5, h2 _ hd _ (Ev.neg (by omega) (Ev.succ ?_)), saysS_some (kd := 5) (by rw [line_copies, hd])⟩
      simp only [spec_l26Line.j2]
      refine Ev.neg (by simp) ?_
      refine Ev.neg (by simp) (Ev.neg (by simp) (Ev.neg (by simp) ?_))
      exact Ev.pos (by trivial) (Ev.pos (by simp) (Ev.eq rfl))
    | a :: b :: us, hd => exact ⟨_, h2 _ hd _ (Ev.neg (by omega) (by rw [show (((a :: b :: us).length : Int) != 1) = true from by simp; omega]; exact spec_not _ _ _)), saysS_none (by rw [line_copies, hd]) rfl⟩
theorem spec_trim (w : List UInt8) (vs : List (List UInt8)) (hL : vs.length ≤ 1048576) (j : JJ) : ∃ r, Ev (fun k => spec_l26Line.l0 k (bas (w :: vs)) 2 4 [] 1 j.n j.p j.t0 j.t1 j.t2 j.t3 j.g j.b j.u j.c) r ∧ SaysS j wTrim vs r := by
  obtain ⟨h1, h2⟩ := spec_numeric w vs hL 2 4 j
  cases hd : digs vs with
  | none => exact ⟨_, h1 hd, saysS_none (by rw [line_trim, hd]) rfl⟩
  | some us =>
    have bad : ¬ us.length = 4 → lineOf j wTrim vs = none → ∃ r, Ev (fun k => spec_l26Line.l0 k (bas (w :: vs)) 2 4 [] 1 j.n j.p j.t0 j.t1 j.t2 j.t3 j.g j.b j.u j.c) r ∧ SaysS j wTrim vs r := fun hn hl =>
      ⟨_, h2 _ hd _ (Ev.neg (by omega) (by rw [show ((us.length : Int) != 4) = true from by simp; omega]; exact spec_not _ _ _)), saysS_none hl rfl⟩
    match us, hd, bad with
    | [], hd, bad => exact bad (by simp) (by rw [line_trim, hd])
    | [_], hd, bad => exact bad (by simp) (by rw [line_trim, hd])
    | [_, _], hd, bad => exact bad (by simp) (by rw [line_trim, hd])
    | [_, _, _], hd, bad => exact bad (by simp) (by rw [line_trim, hd])
    | [a, b, c, d], hd, _ =>
      refine ⟨sT { j with t0 := a, t1 := b, t2 := c, t3 := d } 2, h2 _ hd _ (Ev.neg (by omega) (Ev.succ ?_)), saysS_some (kd := 2) (by rw [line_trim, hd])⟩
      simp only [spec_l26Line.j2]
      exact Ev.neg (by simp) (Ev.neg (by simp) (Ev.pos (by trivial) (Ev.pos (by simp) (Ev.pos (by simp) (Ev.pos (by simp) (Ev.pos (by simp) (Ev.eq rfl)))))))
    | _ :: _ :: _ :: _ :: _ :: _, hd, bad => exact bad (by simp) (by rw [line_trim, hd])
theorem spec_l26Line_ev {l : List UInt8} (hl : l.length ≤ 1000000) (j : JJ) {w : List UInt8} {vs : List (List UInt8)} (hsp : splitL 32 l = w :: vs) : ∃ r, Ev (fun k => spec_l26Line.f k j.n j.p j.t0 j.t1 j.t2 j.t3 j.g j.b j.u j.c ⟨l.toArray⟩) r ∧ SaysS j w vs r := by
  have h1 := spec_l01Split_ev ⟨l.toArray⟩ 32 (by rw [mk_size]; omega)
  rw [mk_list, hsp] at h1
  have hcl := splitL_length 32 l
  have hcc : l.count 32 ≤ l.length := List.count_le_length
  have hpc := splitL_piece 32 l
  rw [hsp, List.length_cons] at hcl
  rw [hsp] at hpc
  have hbl := bas_length (w :: vs)
  rw [List.length_cons] at hbl
  have hb0 : rdOf ByteArray.empty (bas (w :: vs)) 0 = ⟨w.toArray⟩ := rfl
  have hk := spec_l26Kind_eq w
  have start : ∀ (kd cnt : Int) (r : _), spec_l26Kind.f ⟨w.toArray⟩ = some (kd, cnt) → ¬ kd = 0 → Ev (fun k => spec_l26Line.j0 k (bas (w :: vs)) kd cnt (kd == 3) j.n j.p j.t0 j.t1 j.t2 j.t3 j.g j.b j.u j.c) r → Ev (fun k => spec_l26Line.f k j.n j.p j.t0 j.t1 j.t2 j.t3 j.g j.b j.u j.c ⟨l.toArray⟩) r := fun kd cnt r e n h => by
    unfold spec_l26Line.f
    refine Ev.bind h1 (Ev.pos (by omega) ?_)
    rw [hb0]
    exact Ev.bind (Ev.eq e) (Ev.neg n h)
  have number : ∀ (kd cnt : Int), spec_l26Kind.f ⟨w.toArray⟩ = some (kd, cnt) → ¬ kd = 0 → ¬ kd = 3 → (∃ r, Ev (fun k => spec_l26Line.l0 k (bas (w :: vs)) kd cnt [] 1 j.n j.p j.t0 j.t1 j.t2 j.t3 j.g j.b j.u j.c) r ∧ SaysS j w vs r) → ∃ r, Ev (fun k => spec_l26Line.f k j.n j.p j.t0 j.t1 j.t2 j.t3 j.g j.b j.u j.c ⟨l.toArray⟩) r ∧ SaysS j w vs r := fun kd cnt e n0 n3 ⟨r, h2, h3⟩ => by
    refine ⟨r, start kd cnt r e n0 (Ev.succ ?_), h3⟩
    simp only [spec_l26Line.j0]
    exact Ev.neg (by simpa using n3) h2
  rcases word_cases w with rfl | rfl | rfl | rfl | rfl | rfl | hno
  · -- a name
    rw [if_pos rfl] at hk
    have go : ∀ r, Ev (fun k => spec_l26Line.j0 k (bas (wName :: vs)) 0 0 true j.n j.p j.t0 j.t1 j.t2 j.t3 j.g j.b j.u j.c) r → Ev (fun k => spec_l26Line.f k j.n j.p j.t0 j.t1 j.t2 j.t3 j.g j.b j.u j.c ⟨l.toArray⟩) r := fun r h => by
      unfold spec_l26Line.f
      refine Ev.bind h1 (Ev.pos (by omega) ?_)
      rw [hb0]
      exact Ev.bind (Ev.eq hk) (Ev.pos rfl h)
    match vs, hbl, hpc, go with
    | [], hbl, hpc, go =>
      refine ⟨sT j (-1), go _ (Ev.succ ?_), saysS_none (by rw [line_name]) rfl⟩
      simp only [spec_l26Line.j0]
      exact Ev.pos trivial (Ev.neg (by simp [bas]) (Ev.eq rfl))
    | [v], hbl, hpc, go =>
      have hb1 : rdOf ByteArray.empty (bas [wName, v]) 1 = ⟨v.toArray⟩ := rfl
      have hvl := hpc v (by simp)
      refine ⟨sT { j with n := ⟨v.toArray⟩ } 0, go _ (Ev.succ ?_), saysS_some (kd := 0) (by rw [line_name])⟩
      simp only [spec_l26Line.j0, hb1]
      exact Ev.pos trivial (Ev.pos (by simp [bas]) (Ev.pos (by simp [bas]) (Ev.bind (spec_ReadPaper_ev (by omega)) (Ev.neg (by simp) (Ev.eq rfl)))))
    | _ :: _ :: _, hbl, hpc, go =>
      refine ⟨sT j (-1), go _ (Ev.succ ?_), saysS_none (by rw [line_name]) rfl⟩
      simp only [spec_l26Line.j0]
      exact Ev.pos trivial (Ev.neg (by rw [hbl]; simp only [List.length_cons]; omega) (Ev.eq rfl))
  · -- a paper
    rw [if_neg (by decide), if_neg (by decide), if_neg (by decide), if_pos rfl] at hk
    have go : ∀ r, Ev (fun k => spec_l26Line.j0 k (bas (wPaper :: vs)) 3 0 true j.n j.p j.t0 j.t1 j.t2 j.t3 j.g j.b j.u j.c) r → Ev (fun k => spec_l26Line.f k j.n j.p j.t0 j.t1 j.t2 j.t3 j.g j.b j.u j.c ⟨l.toArray⟩) r := fun r h => start 3 0 r hk (by decide) h
    match vs, hbl, hpc, go with
    | [], hbl, hpc, go =>
      refine ⟨sT j (-1), go _ (Ev.succ ?_), saysS_none (by rw [line_paper]) rfl⟩
      simp only [spec_l26Line.j0]
      exact Ev.pos trivial (Ev.neg (by simp [bas]) (Ev.eq rfl))
    | [v], hbl, hpc, go =>
      have hb1 : rdOf ByteArray.empty (bas [wPaper, v]) 1 = ⟨v.toArray⟩ := rfl
      have hvl := hpc v (by simp)
      have hrp := spec_ReadPaper_ev (l := v) (by omega)
      cases hr : rpOf v with
      | none =>
        have ht : rpT v = (0, 0, false) := by unfold rpT; rw [hr]
        rw [ht] at hrp
        refine ⟨sT { j with g := 0, b := 0 } (-1), go _ (Ev.succ ?_), saysS_none (by rw [line_paper]; simp only [hr]) rfl⟩
        simp only [spec_l26Line.j0, hb1]
        exact Ev.pos trivial (Ev.pos (by simp [bas]) (Ev.pos (by simp [bas]) (Ev.bind hrp (Ev.pos (by trivial) (Ev.neg (by simp) (Ev.eq rfl))))))
      | some xy =>
        obtain ⟨x, y⟩ := xy
        have ht : rpT v = (x, y, true) := by unfold rpT; rw [hr]
        rw [ht] at hrp
        refine ⟨sT { j with g := x, b := y } 3, go _ (Ev.succ ?_), saysS_some (kd := 3) (by rw [line_paper]; simp only [hr])⟩
        simp only [spec_l26Line.j0, hb1]
        exact Ev.pos trivial (Ev.pos (by simp [bas]) (Ev.pos (by simp [bas]) (Ev.bind hrp (Ev.pos (by trivial) (Ev.pos (by trivial) (Ev.eq rfl))))))
    | _ :: _ :: _, hbl, hpc, go =>
      refine ⟨sT j (-1), go _ (Ev.succ ?_), saysS_none (by rw [line_paper]) rfl⟩
      simp only [spec_l26Line.j0]
      exact Ev.pos trivial (Ev.neg (by rw [hbl]; simp only [List.length_cons]; omega) (Ev.eq rfl))
  · rw [if_neg (by decide), if_pos rfl] at hk
    exact number 1 1 hk (by decide) (by decide) (spec_pages _ vs (by omega) j)
  · rw [if_neg (by decide), if_neg (by decide), if_neg (by decide), if_neg (by decide), if_pos rfl] at hk
    exact number 4 1 hk (by decide) (by decide) (spec_unit _ vs (by omega) j)
  · rw [if_neg (by decide), if_neg (by decide), if_neg (by decide), if_neg (by decide), if_neg (by decide), if_pos rfl] at hk
    exact number 5 1 hk (by decide) (by decide) (spec_copies _ vs (by omega) j)
  · rw [if_neg (by decide), if_neg (by decide), if_pos rfl] at hk
    exact number 2 4 hk (by decide) (by decide) (spec_trim _ vs (by omega) j)
  · obtain ⟨n0, n3, n1, n4, n5, n2⟩ := hno
    rw [if_neg n0, if_neg n1, if_neg n2, if_neg n3, if_neg n4, if_neg n5] at hk
    refine number (-1) 0 hk (by decide) (by decide) ?_
    obtain ⟨q1, q2⟩ := spec_numeric w vs (by omega) (-1) 0 j
    have hl := line_else j (w := w) vs ⟨n0, n3, n1, n4, n5, n2⟩
    cases hd : digs vs with
    | none => exact ⟨_, q1 hd, saysS_none hl rfl⟩
    | some us => exact ⟨_, q2 us hd _ (Ev.pos (by decide) (spec_not _ _ _)), saysS_none hl rfl⟩
theorem eqw (w : List UInt8) : ((⟨w.toArray⟩ : ByteArray).toList == w) = true := by rw [mk_toList]; exact beq_self_eq_true w
theorem new (w v : List UInt8) (h : ¬ w = v) : ((⟨w.toArray⟩ : ByteArray).toList == v) = false := by rw [mk_toList]; exact beq_eq_false_iff_ne.2 h
theorem iswl (w : List UInt8) : (⟨w.toArray⟩ : ByteArray).toList = w := mk_toList w
theorem notw {w v : List UInt8} (h : ¬ w = v) : ¬ (⟨w.toArray⟩ : ByteArray).toList = v := by rw [mk_toList]; exact h
theorem impl_line_start {l : List UInt8} (hl : l.length ≤ 1000000) (j : JJ) {w : List UInt8} {vs : List (List UInt8)} (hsp : splitL 32 l = w :: vs) (r : ByteArray × Int × ByteArray × Int × Int × Int × Int × Int × Int × Int × Int × Int) (h : Ev (fun k => impl_jobLine.l0 k ⟨w.toArray⟩ (bas vs) (some_of vs) (bas vs) (vs.length : Int) (vs.length : Int) j.n j.p j.t0 j.t1 j.t2 j.t3 j.g j.b j.u j.c) r) :
  Ev (fun k => impl_jobLine.f k j.n j.p j.t0 j.t1 j.t2 j.t3 j.g j.b j.u j.c ⟨l.toArray⟩) r := by
 have h1 := strings_Split_eq ⟨l.toArray⟩ 32 (by rw [mk_size]; omega)
 rw [mk_list, hsp] at h1
 have hcl := splitL_length 32 l
 have hcc : l.count 32 ≤ l.length := List.count_le_length
 have hpc := splitL_piece 32 l
 rw [hsp, List.length_cons] at hcl
 rw [hsp] at hpc
 have hbl := bas_length (w :: vs)
 rw [List.length_cons] at hbl
 have hb0 : rdOf ByteArray.empty (bas (w :: vs)) 0 = ⟨w.toArray⟩ := rfl
 have hbt : (bas (w :: vs)).drop (1 : Int).toNat = bas vs := rfl
 have h2 := impl_line_l0 vs (by omega) (fun x hx => by have := hpc x (List.mem_cons_of_mem _ hx); omega) ⟨w.toArray⟩ j r vs.length 0 (by omega) [] (by simp) (by rw [List.drop_zero, List.nil_append]; exact h)
 unfold impl_jobLine.f
 refine Ev.bind (Ev.eq h1) (Ev.pos (by omega) (Ev.pos (by omega) (Ev.bind (Ev.eq (congrArg some hbt)) ?_)))
 rw [hb0, bas_length]
 exact h2
theorem impl_none (w : ByteArray) (xs : List Int) (j : JJ) : Ev (fun k => impl_jobLine.j2 k w xs true j.n j.p j.t0 j.t1 j.t2 j.t3 j.g j.b j.u j.c) (iT ⟨#[]⟩ 6 j) ∧ Ev (fun k => impl_jobLine.j3 k w xs true j.n j.p j.t0 j.t1 j.t2 j.t3 j.g j.b j.u j.c) (iT ⟨#[]⟩ 6 j) := by
 constructor
 ·refine Ev.succ ?_
  simp only [impl_jobLine.j2]
  exact Ev.pos trivial (Ev.eq rfl)
 ·refine Ev.succ ?_
  simp only [impl_jobLine.j3]
  exact Ev.pos trivial (Ev.eq rfl)
theorem impl_one (w : List UInt8) (vs : List (List UInt8)) (j : JJ) (f : Int → JJ) (kd : Nat) (hw : lineOf j w vs = (match digs vs with | some [a] => some (f a, kd) | _ => none))
    (h : ∀ a, Ev (fun k => impl_jobLine.j2 k ⟨w.toArray⟩ [a] false j.n j.p j.t0 j.t1 j.t2 j.t3 j.g j.b j.u j.c) (iT ⟨w.toArray⟩ (if goodOf (f a) kd = true then 0 else 2) (f a))) :
    ∃ r, Ev (fun k => impl_jobLine.j1 k ⟨w.toArray⟩ (bas vs) (some_of vs) ⟨w.toArray⟩ true j.n j.p j.t0 j.t1 j.t2 j.t3 j.g j.b j.u j.c) r ∧ SaysI j w vs r := by
  have hbl := bas_length vs
  by_cases h1 : vs.length = 1
  · cases hd : digs vs with
    | none =>
      have hf := some_few hd
      rw [hd] at hw
      refine ⟨_, Ev.succ ?_, saysI_none (j' := j) hw⟩
      simp only [impl_jobLine.j1]
      refine Ev.pos trivial (Ev.pos (by omega) ?_)
      rw [show (((some_of vs).length : Int) != 1) = true from by simp; omega]
      exact (impl_none _ _ j).1
    | some us =>
      have hl := digs_length hd
      have hs := some_digs hd
      rw [hd] at hw
      match us, hl, hs, hw with
      | [], hl, _, _ => simp at hl; omega
      | [a], hl, hs, hw =>
        refine ⟨_, Ev.succ ?_, saysI_some hw⟩
        simp only [impl_jobLine.j1, hs]
        exact Ev.pos trivial (Ev.pos (by omega) (h a))
      | _ :: _ :: _, hl, _, _ => simp at hl; omega
  · have hn : lineOf j w vs = none := by
      rw [hw]
      cases hd : digs vs with
      | none => rfl
      | some us =>
        have hl := digs_length hd
        match us, hl with
        | [], _ => rfl
        | [a], hl => simp at hl; omega
        | _ :: _ :: _, _ => rfl
    refine ⟨_, Ev.succ ?_, saysI_none (j' := j) hn⟩
    simp only [impl_jobLine.j1]
    exact Ev.pos trivial (Ev.neg (by omega) (impl_none _ _ j).1)
theorem impl_line_trim (vs : List (List UInt8)) (j : JJ) : ∃ r, Ev (fun k => impl_jobLine.j1 k ⟨wTrim.toArray⟩ (bas vs) (some_of vs) ⟨wTrim.toArray⟩ false j.n j.p j.t0 j.t1 j.t2 j.t3 j.g j.b j.u j.c) r ∧ SaysI j wTrim vs r := by
  have hbl := bas_length vs
  have hw := line_trim j vs
  have it : (⟨wTrim.toArray⟩ : ByteArray).toList = ([116, 114, 105, 109] : List UInt8) := iswl wTrim
  by_cases h1 : vs.length = 4
  · cases hd : digs vs with
    | none =>
      have hf := some_few hd
      rw [hd] at hw
      refine ⟨_, Ev.succ ?_, saysI_none (j' := j) hw⟩
      simp only [impl_jobLine.j1]
      refine Ev.neg (by simp) (Ev.pos it (Ev.pos (by omega) ?_))
      rw [show (((some_of vs).length : Int) != 4) = true from by simp; omega]
      exact (impl_none _ _ j).2
    | some us =>
      have hl := digs_length hd
      have hs := some_digs hd
      rw [hd] at hw
      match us, hl, hs, hw with
      | [], hl, _, _ => simp at hl; omega
      | [_], hl, _, _ => simp at hl; omega
      | [_, _], hl, _, _ => simp at hl; omega
      | [_, _, _], hl, _, _ => simp at hl; omega
      | [a, b, c, d], hl, hs, hw =>
        refine ⟨_, Ev.succ ?_, saysI_some hw⟩
        simp only [impl_jobLine.j1, hs]
        refine Ev.neg (by simp) (Ev.pos it (Ev.pos (by omega) (Ev.succ ?_)))
        simp only [impl_jobLine.j3]
        refine Ev.neg (by simp) (Ev.pos (by simp) (Ev.pos (by simp) (Ev.pos (by simp) (Ev.pos (by simp) (Ev.bind (Ev.eq (impl_IsTrim_eq _ _ _ _)) ?_)))))
        exact Ev.ite (fun q => Ev.eq (by show _ = some (iT _ (if trimOk a b c d = true then 0 else 2) _); rw [if_pos (show trimOk a b c d = true from q)]; rfl)) (fun q => Ev.eq (by show _ = some (iT _ (if trimOk a b c d = true then 0 else 2) _); rw [if_neg (show ¬ trimOk a b c d = true from q)]; rfl))
      | _ :: _ :: _ :: _ :: _ :: _, hl, _, _ => simp at hl; omega
  · have hn : lineOf j wTrim vs = none := by
      rw [hw]
      cases hd : digs vs with
      | none => rfl
      | some us =>
        have hl := digs_length hd
        match us, hl with
        | [], _ => rfl
        | [_], _ => rfl
        | [_, _], _ => rfl
        | [_, _, _], _ => rfl
        | [a, b, c, d], hl => simp at hl; omega
        | _ :: _ :: _ :: _ :: _ :: _, _ => rfl
    refine ⟨_, Ev.succ ?_, saysI_none (j' := j) hn⟩
    simp only [impl_jobLine.j1]
    exact Ev.neg (by simp) (Ev.pos it (Ev.neg (by omega) (impl_none _ _ j).2))
theorem impl_jobLine_ev {l : List UInt8} (hl : l.length ≤ 1000000) (j : JJ) {w : List UInt8} {vs : List (List UInt8)} (hsp : splitL 32 l = w :: vs) : ∃ r, Ev (fun k => impl_jobLine.f k j.n j.p j.t0 j.t1 j.t2 j.t3 j.g j.b j.u j.c ⟨l.toArray⟩) r ∧ SaysI j w vs r := by
  have hpc := splitL_piece 32 l
  rw [hsp] at hpc
  have hbl := bas_length vs
  suffices h : ∃ r, Ev (fun k => impl_jobLine.l0 k ⟨w.toArray⟩ (bas vs) (some_of vs) (bas vs) (vs.length : Int) (vs.length : Int) j.n j.p j.t0 j.t1 j.t2 j.t3 j.g j.b j.u j.c) r ∧ SaysI j w vs r by
    obtain ⟨r, h1, h2⟩ := h
    exact ⟨r, impl_line_start hl j hsp r h1, h2⟩
  rcases word_cases w with rfl | rfl | rfl | rfl | rfl | rfl | hno
  · match vs, hpc with
    | [], hpc =>
      refine ⟨_, Ev.succ ?_, saysI_none (j' := j) (by rw [line_name])⟩
      simp only [impl_jobLine.l0]
      exact Ev.neg (by simp) (Ev.pos (iswl wName) (Ev.neg (by simp [bas]) (Ev.eq rfl)))
    | [v], hpc =>
      have hvl := hpc v (by simp)
      have hb0 : rdOf ByteArray.empty (bas [v]) 0 = ⟨v.toArray⟩ := rfl
      refine ⟨_, Ev.succ ?_, saysI_some (kd := 0) (j' := { j with n := ⟨v.toArray⟩ }) (by rw [line_name])⟩
      simp only [impl_jobLine.l0, hb0]
      refine Ev.neg (by simp) (Ev.pos (iswl wName) (Ev.pos (by simp [bas]) (Ev.pos (by simp [bas]) (Ev.bind (impl_isJobName_ev (by rw [mk_size]; omega)) ?_))))
      exact Ev.ite (fun q => Ev.eq (by show _ = some (iT _ (if nameOk (⟨v.toArray⟩ : ByteArray) = true then 0 else 2) _); rw [if_pos (show nameOk (⟨v.toArray⟩ : ByteArray) = true from q)])) (fun q => Ev.eq (by show _ = some (iT _ (if nameOk (⟨v.toArray⟩ : ByteArray) = true then 0 else 2) _); rw [if_neg (show ¬ nameOk (⟨v.toArray⟩ : ByteArray) = true from q)]))
    | _ :: _ :: _, hpc =>
      refine ⟨_, Ev.succ ?_, saysI_none (j' := j) (by rw [line_name])⟩
      simp only [impl_jobLine.l0]
      exact Ev.neg (by omega) (Ev.pos (iswl wName) (Ev.neg (by rw [bas_length]; simp only [List.length_cons]; omega) (Ev.eq rfl)))
  · have n0 := notw (w := wPaper) (v := wName) (by decide)
    match vs, hpc with
    | [], hpc =>
      refine ⟨_, Ev.succ ?_, saysI_none (j' := j) (by rw [line_paper])⟩
      simp only [impl_jobLine.l0]
      exact Ev.neg (by simp) (Ev.neg n0 (Ev.pos (iswl wPaper) (Ev.neg (by simp [bas]) (Ev.eq rfl))))
    | [v], hpc =>
      have hvl := hpc v (by simp)
      have hb0 : rdOf ByteArray.empty (bas [v]) 0 = ⟨v.toArray⟩ := rfl
      have hrp := impl_ReadPaper_eq (l := v) (by omega)
      cases hr : rpOf v with
      | none =>
        have ht : rpT v = (0, 0, false) := by unfold rpT; rw [hr]
        rw [ht] at hrp
        refine ⟨_, Ev.succ ?_, saysI_none (j' := { j with g := 0, b := 0 }) (by rw [line_paper]; simp only [hr])⟩
        simp only [impl_jobLine.l0, hb0]
        exact Ev.neg (by simp) (Ev.neg n0 (Ev.pos (iswl wPaper) (Ev.pos (by simp [bas]) (Ev.pos (by simp [bas]) (Ev.bind (Ev.eq hrp) (Ev.neg (by simp) (Ev.eq rfl)))))))
      | some xy =>
        obtain ⟨x, y⟩ := xy
        have ht : rpT v = (x, y, true) := by unfold rpT; rw [hr]
        rw [ht] at hrp
        refine ⟨_, Ev.succ ?_, saysI_some (kd := 3) (j' := { j with g := x, b := y }) (by rw [line_paper]; simp only [hr])⟩
        simp only [impl_jobLine.l0, hb0]
        exact Ev.neg (by simp) (Ev.neg n0 (Ev.pos (iswl wPaper) (Ev.pos (by simp [bas]) (Ev.pos (by simp [bas]) (Ev.bind (Ev.eq hrp) (Ev.pos (by trivial) (Ev.eq rfl)))))))
    | _ :: _ :: _, hpc =>
      refine ⟨_, Ev.succ ?_, saysI_none (j' := j) (by rw [line_paper])⟩
      simp only [impl_jobLine.l0]
      exact Ev.neg (by omega) (Ev.neg n0 (Ev.pos (iswl wPaper) (Ev.neg (by rw [bas_length]; simp only [List.length_cons]; omega) (Ev.eq rfl))))
  · obtain ⟨r, h1, h2⟩ := impl_one wPages vs j (fun a => { j with p := a }) 1 (line_pages j vs) (fun a => by
      refine Ev.succ ?_
      simp only [impl_jobLine.j2]
      have hp : impl_isPages.f (rd [a] 0) = some (decide (1 ≤ a ∧ a ≤ 4096)) := by unfold impl_isPages.f; rw [impl_inRange_eq]; rfl
      refine Ev.neg (by simp) (Ev.pos (by simp) (Ev.pos (iswl wPages) (Ev.bind (Ev.eq hp) ?_)))
      exact Ev.ite (fun q => Ev.eq (by show _ = some (iT _ (if decide (1 ≤ a ∧ a ≤ 4096) = true then 0 else 2) _); rw [if_pos (show decide (1 ≤ a ∧ a ≤ 4096) = true from q)]; rfl)) (fun q => Ev.eq (by show _ = some (iT _ (if decide (1 ≤ a ∧ a ≤ 4096) = true then 0 else 2) _); rw [if_neg (show ¬ decide (1 ≤ a ∧ a ≤ 4096) = true from q)]; rfl)))
    refine ⟨r, Ev.succ ?_, h2⟩
    simp only [impl_jobLine.l0, eqw]
    refine Ev.neg (by omega) (Ev.neg (notw (by decide)) (Ev.neg (notw (by decide)) (Ev.pos (iswl wPages) ?_)))
    exact h1
  · obtain ⟨r, h1, h2⟩ := impl_one wUnit vs j (fun a => { j with u := a }) 4 (line_unit j vs) (fun a => by
      refine Ev.succ ?_
      simp only [impl_jobLine.j2]
      refine Ev.neg (by simp) (Ev.pos (by simp) (Ev.neg (notw (by decide)) (Ev.pos (iswl wUnit) (Ev.bind (Ev.eq (impl_IsUnit_eq _)) ?_))))
      exact Ev.ite (fun q => Ev.eq (by show _ = some (iT _ (if unitOk a = true then 0 else 2) _); rw [if_pos (show unitOk a = true from q)]; rfl)) (fun q => Ev.eq (by show _ = some (iT _ (if unitOk a = true then 0 else 2) _); rw [if_neg (show ¬ unitOk a = true from q)]; rfl)))
    refine ⟨r, Ev.succ ?_, h2⟩
    simp only [impl_jobLine.l0, eqw]
    refine Ev.neg (by omega) (Ev.neg (notw (by decide)) (Ev.neg (notw (by decide)) (Ev.neg (notw (by decide)) (Ev.pos (iswl wUnit) ?_))))
    exact h1
  · obtain ⟨r, h1, h2⟩ := impl_one wCopies vs j (fun a => { j with c := a }) 5 (line_copies j vs) (fun a => by
      refine Ev.succ ?_
      simp only [impl_jobLine.j2]
      refine Ev.neg (by simp) (Ev.pos (by simp) (Ev.neg (notw (by decide)) (Ev.neg (notw (by decide)) (Ev.bind (Ev.eq (impl_inRange_eq _ _ _)) ?_))))
      exact Ev.ite (fun q => Ev.eq (by show _ = some (iT _ (if decide (1 ≤ a ∧ a ≤ 1000000) = true then 0 else 2) _); rw [if_pos (show decide (1 ≤ a ∧ a ≤ 1000000) = true from q)]; rfl)) (fun q => Ev.eq (by show _ = some (iT _ (if decide (1 ≤ a ∧ a ≤ 1000000) = true then 0 else 2) _); rw [if_neg (show ¬ decide (1 ≤ a ∧ a ≤ 1000000) = true from q)]; rfl)))
    refine ⟨r, Ev.succ ?_, h2⟩
    simp only [impl_jobLine.l0, eqw]
    refine Ev.neg (by omega) (Ev.neg (notw (by decide)) (Ev.neg (notw (by decide)) (Ev.neg (notw (by decide)) (Ev.neg (notw (by decide)) ?_))))
    exact h1
  · obtain ⟨r, h1, h2⟩ := impl_line_trim vs j
    refine ⟨r, Ev.succ ?_, h2⟩
    simp only [impl_jobLine.l0]
    refine Ev.neg (by omega) (Ev.neg (notw (by decide)) (Ev.neg (notw (by decide)) (Ev.neg (notw (by decide)) (Ev.neg (notw (by decide)) ?_))))
    rw [show ((⟨wTrim.toArray⟩ : ByteArray).toList == ([99, 111, 112, 105, 101, 115] : List UInt8)) = false from new wTrim _ (by decide)]
    exact h1
  · obtain ⟨n0, n3, n1, n4, n5, n2⟩ := hno
    refine ⟨_, Ev.succ ?_, saysI_none (j' := j) (line_else j (w := w) vs ⟨n0, n3, n1, n4, n5, n2⟩)⟩
    simp only [impl_jobLine.l0]
    refine Ev.neg (by omega) (Ev.neg (notw n0) (Ev.neg (notw n3) (Ev.neg (notw n1) (Ev.neg (notw n4) ?_))))
    rw [show ((⟨w.toArray⟩ : ByteArray).toList == ([99, 111, 112, 105, 101, 115] : List UInt8)) = false from new w _ n5]
    refine Ev.succ ?_
    simp only [impl_jobLine.j1]
    exact Ev.neg (by simp) (Ev.neg (notw n2) (Ev.eq rfl))
end Go.Proofs.YtjfffjklgpookaaGreatDoor.PJ
end
