import Derived.Test.YtjfffjklgpookaaGreatDoorCFnJobs37
import Derived.Test.YtjfffjklgpookaaGreatDoorCFnJobs40
set_option linter.unusedVariables false
set_option linter.unusedSimpArgs false
section
namespace Go.Proofs.YtjfffjklgpookaaGreatDoor.PJ
open Go.RowKit Go.Proofs.YtjfffjklgpookaaGreatDoorW.PrintWords Go.Proofs.YtjfffjklgpookaaGreatDoorB
noncomputable def okK (j : JJ) (k : Nat) : Bool := if k = 3 then paperOk j.g j.b else goodOf j k
theorem rp_ok {l : List UInt8} {x y : Int} (h : rpOf l = some (x, y)) : paperOk x y = true := by
 unfold rpOf at h
 split at h
 ·split at h
  ·split at h
   ·cases h; assumption
   ·cases h
  ·cases h
 ·cases h
theorem line_keep {j j' : JJ} {w : List UInt8} {vs : List (List UInt8)} {kd : Nat} (h : lineOf j w vs = some (j', kd)) : (∀ k, k < 6 → ¬ k = kd → okK j' k = okK j k) ∧ (kd = 3 → paperOk j'.g j'.b = true) := by
 have fin : ∀ P : Nat → Prop, P 0 → P 1 → P 2 → P 3 → P 4 → P 5 → ∀ k, k < 6 → P k := by
  intro P h0 h1 h2 h3 h4 h5 k hk
  match k, hk with
  | 0, _ => exact h0
  | 1, _ => exact h1
  | 2, _ => exact h2
  | 3, _ => exact h3
  | 4, _ => exact h4
  | 5, _ => exact h5
 unfold lineOf at h
 split at h
 ·split at h
  ·obtain ⟨rfl, rfl⟩ := Prod.mk.inj (Option.some.inj h)
   exact ⟨fin _ (fun h => absurd rfl h) (fun _ => rfl) (fun _ => rfl) (fun _ => rfl) (fun _ => rfl) (fun _ => rfl), fun h => by cases h⟩
  ·cases h
 split at h
 ·split at h
  ·split at h
   ·rename_i hr
    obtain ⟨rfl, rfl⟩ := Prod.mk.inj (Option.some.inj h)
    exact ⟨fin _ (fun _ => rfl) (fun _ => rfl) (fun _ => rfl) (fun h => absurd rfl h) (fun _ => rfl) (fun _ => rfl), fun _ => rp_ok hr⟩
   ·cases h
  ·cases h
 split at h
 ·split at h
  ·obtain ⟨rfl, rfl⟩ := Prod.mk.inj (Option.some.inj h)
   exact ⟨fin _ (fun _ => rfl) (fun h => absurd rfl h) (fun _ => rfl) (fun _ => rfl) (fun _ => rfl) (fun _ => rfl), fun h => by cases h⟩
  ·cases h
 split at h
 ·split at h
  ·obtain ⟨rfl, rfl⟩ := Prod.mk.inj (Option.some.inj h)
   exact ⟨fin _ (fun _ => rfl) (fun _ => rfl) (fun _ => rfl) (fun _ => rfl) (fun h => absurd rfl h) (fun _ => rfl), fun h => by cases h⟩
  ·cases h
 split at h
 ·split at h
  ·obtain ⟨rfl, rfl⟩ := Prod.mk.inj (Option.some.inj h)
   exact ⟨fin _ (fun _ => rfl) (fun _ => rfl) (fun _ => rfl) (fun _ => rfl) (fun _ => rfl) (fun h => absurd rfl h), fun h => by cases h⟩
  ·cases h
 split at h
 ·split at h
  ·obtain ⟨rfl, rfl⟩ := Prod.mk.inj (Option.some.inj h)
   exact ⟨fin _ (fun _ => rfl) (fun _ => rfl) (fun h => absurd rfl h) (fun _ => rfl) (fun _ => rfl) (fun _ => rfl), fun h => by cases h⟩
  ·cases h
 ·cases h
theorem comp_ok : ∀ (ls : List (List UInt8)) (j : JJ) (S R : List Nat) (i : Nat), S.length + R.length = 6 → (∀ k, k < 6 → k ∈ S ∨ k ∈ R) → (∀ k ∈ S, okK j k = true) → (comp ls j S i).2.2 = 0 → (comp ls j S i).2.1 = 0 ∧ ∀ k, k < 6 → okK (comp ls j S i).1 k = true
  | [], j, S, R, i, hl, hR, hS, h => by
    by_cases c : S.length < 6
    · rw [comp, if_pos c] at h; cases h
    · rw [comp, if_neg c]
      have hn : R = [] := List.eq_nil_of_length_eq_zero (by omega)
      subst hn
      refine ⟨rfl, fun k hk => hS k ?_⟩
      rcases hR k hk with h1 | h1
      · exact h1
      · cases h1
  | l :: ls, j, S, R, i, hl, hR, hS, h => by
    cases hs : splitL 32 l with
    | nil => exact absurd hs (splitL_ne 32 l)
    | cons w vs =>
      cases hf : lineOf j w vs with
      | none => rw [comp_none hs hf] at h; cases h
      | some q =>
        obtain ⟨j', kd⟩ := q
        rw [comp_some hs hf] at h ⊢
        by_cases c1 : kd ∈ S
        · rw [if_pos c1] at h; cases h
        · rw [if_neg c1] at h ⊢
          by_cases c2 : goodOf j' kd = true
          · rw [if_pos c2] at h ⊢
            have hk := (line_word hf).1
            have hkeep := line_keep hf
            have hm : kd ∈ R := (hR kd hk).resolve_left c1
            refine comp_ok ls j' (S ++ [kd]) (R.erase kd) (i + 1) ?_ ?_ ?_ h
            · rw [List.length_append, List.length_singleton, List.length_erase_of_mem hm]
              have := List.length_pos_of_mem hm
              omega
            · intro k hk2
              by_cases e : k = kd
              · subst e; exact .inl (List.mem_append.2 (.inr (List.mem_singleton.2 rfl)))
              · rcases hR k hk2 with h1 | h1
                · exact .inl (List.mem_append.2 (.inl h1))
                · exact .inr ((List.mem_erase_of_ne e).2 h1)
            · intro k hm2
              rcases List.mem_append.1 hm2 with h1 | h1
              · by_cases e : k = kd
                · subst e; exact absurd h1 c1
                · by_cases hk6 : k < 6
                  · rw [hkeep.1 k hk6 e]; exact hS k h1
                  · have h5 := hS k h1
                    unfold okK at h5 ⊢
                    rw [if_neg (by omega)] at h5 ⊢
                    match k, hk6 with
                    | 0, g => exact absurd (by decide) g
                    | 1, g => exact absurd (by decide) g
                    | 2, g => exact absurd (by decide) g
                    | 3, g => exact absurd (by decide) g
                    | 4, g => exact absurd (by decide) g
                    | 5, g => exact absurd (by decide) g
                    | _ + 6, _ => rfl
              · rw [List.mem_singleton.1 h1]
                unfold okK
                by_cases e : kd = 3
                · rw [if_pos e]; exact hkeep.2 e
                · rw [if_neg e]; exact c2
          · rw [if_neg c2] at h; cases h
theorem compOf_ok {s : ByteArray} (h : (compOf s).2.2 = 0) : (compOf s).2.1 = 0 ∧ jobOk (compOf s).1.n (compOf s).1.p (compOf s).1.t0 (compOf s).1.t1 (compOf s).1.t2 (compOf s).1.t3 (compOf s).1.g (compOf s).1.b (compOf s).1.u (compOf s).1.c = true := by
 unfold compOf at h ⊢
 by_cases c1 : s.size > 1000
 ·rw [if_pos c1] at h; cases h
 ·rw [if_neg c1] at h ⊢
  by_cases c2 : (splitL 10 s.data.toList).getLast (splitL_ne 10 s.data.toList) = []
  ·rw [if_pos c2] at h ⊢
   obtain ⟨h1, h2⟩ := comp_ok _ zJ [] [0, 1, 2, 3, 4, 5] 0 rfl (by decide) (fun k hk => by cases hk) h
   refine ⟨h1, ?_⟩
   have k0 := h2 0 (by decide)
   have k1 := h2 1 (by decide)
   have k2 := h2 2 (by decide)
   have k3 := h2 3 (by decide)
   have k4 := h2 4 (by decide)
   have k5 := h2 5 (by decide)
   simp only [okK, if_true, if_neg (show ¬ (0 = 3) by decide), if_neg (show ¬ (1 = 3) by decide), if_neg (show ¬ (2 = 3) by decide), if_neg (show ¬ (4 = 3) by decide), if_neg (show ¬ (5 = 3) by decide), goodOf] at k0 k1 k2 k3 k4 k5
   unfold jobOk
   rw [k0, k1, k2, k3, k4, k5]; rfl
  ·rw [if_neg c2] at h; cases h
theorem comp_n : ∀ (ls : List (List UInt8)) (hl : ∀ l ∈ ls, l.length ≤ 1000) (j : JJ) (S : List Nat) (i : Nat), j.n.size ≤ 1000000 → (comp ls j S i).1.n.size ≤ 1000000
  | [], hl, j, S, i, h => by
    rw [comp]
    split
    · exact Nat.zero_le _
    · exact h
  | l :: ls, hl, j, S, i, h => by
    obtain ⟨w, vs, hs, hv⟩ := line_parts (l := l) (by have := hl l (List.mem_cons_self ..); omega)
    cases hf : lineOf j w vs with
    | none => rw [comp_none hs hf]; exact Nat.zero_le _
    | some q =>
      obtain ⟨j', kd⟩ := q
      rw [comp_some hs hf]
      split
      · exact Nat.zero_le _
      · split
        · refine comp_n ls (fun y hy => hl y (List.mem_cons_of_mem _ hy)) j' _ _ ?_
          rcases line_n hf with h1 | ⟨v, hm, h1⟩
          · rw [h1]; exact h
          · rw [h1, mk_size]; exact hv v hm
        · exact Nat.zero_le _
theorem comp_name (t : ByteArray) : (compOf t).1.n.size ≤ 9223372036854775806 := by
 unfold compOf
 split
 ·exact Nat.zero_le _
 ·split
  ·have h1 := splitL_piece 10 t.data.toList
   have h2 := data_length t
   have := comp_n (splitL 10 t.data.toList).dropLast (fun l hl => by
    have := h1 l (List.mem_of_mem_take (by rw [← List.dropLast_eq_take]; exact hl))
    omega) zJ [] 0 (by decide)
   omega
  ·exact Nat.zero_le _
theorem split_at {c : UInt8} {p : List UInt8} (h : c ∉ p) (l : List UInt8) : splitL c (p ++ c :: l) = p :: splitL c l := by
 rw [splitL_app p _ h, splitL_cons_eq]
 simp [inFront]
def dd (n : Int) : List UInt8 := Lib.decDigits n.toNat
theorem itoa_dd {n : Int} (h : Small n) : (itoaB n).data.toList = dd n := by rw [itoaB_data, itoa_eq_nat h.1]; rfl
theorem dd_not {n : Int} {c : UInt8} (h : c.toNat < 48) : c ∉ dd n := fun hm => by have := digits_byte hm; omega
theorem dd_num {n : Int} (h : Small n) : numD (dd n) = some n.toNat := numD_of (by have := decDigits_short 6 n.toNat (by have := h.2; simp only [tenTo]; omega); omega)
theorem dd_back {n : Int} (h : Small n) : ((n.toNat : Nat) : Int) = n := Int.toNat_of_nonneg h.1
theorem digs_one {v : List UInt8} {n : Int} (h : Small n) : digs [dd n] = some [n] := by
 simp only [digs, dd_num h, dd_back h]
theorem digs_four {a b c d : Int} (ha : Small a) (hb : Small b) (hc : Small c) (hd : Small d) : digs [dd a, dd b, dd c, dd d] = some [a, b, c, d] := by
 simp only [digs, dd_num ha, dd_num hb, dd_num hc, dd_num hd, dd_back ha, dd_back hb, dd_back hc, dd_back hd]
open Classical in
theorem name_not {s : ByteArray} (h : nameOk s = true) {c : UInt8} (hc : c.toNat < 97) : c ∉ s.data.toList := by
 intro hm
 obtain ⟨i, hi, rfl⟩ := List.getElem_of_mem hm
 have h2 : lettersFrom s 0 ∧ 1 ≤ s.size ∧ s.size ≤ 12 := by unfold nameOk at h; rw [decide_eq_true_eq] at h; exact h
 have h3 := h2.1 i (Nat.zero_le _) (by rw [← data_length]; exact hi)
 rw [bt_get' s i hi] at h3
 omega
theorem paperB_data {a b : Int} (ha : Small a) (hb : Small b) : (paperB a b).data.toList = dd a ++ 47 :: dd b := by
 unfold paperB
 simp only [ByteArray.data_append, Array.toList_append, itoa_dd ha, itoa_dd hb, List.append_assoc]
 rfl
theorem trimB_data {a b c d : Int} (ha : Small a) (hb : Small b) (hc : Small c) (hd : Small d) : (trimB a b c d).data.toList = dd a ++ 32 :: (dd b ++ 32 :: (dd c ++ 32 :: dd d)) := by
 rw [trimB_eq]
 simp only [ByteArray.data_append, Array.toList_append, itoa_dd ha, itoa_dd hb, itoa_dd hc, itoa_dd hd, List.append_assoc]
 rfl
theorem small_paper {a b : Int} (h : paperOk a b = true) : Small a ∧ Small b := by
 have := paper_pos h
 exact ⟨⟨by omega, by omega⟩, ⟨by omega, by omega⟩⟩
theorem jobB_data {s : ByteArray} {p t0 t1 t2 t3 a b u c : Int} (h : jobOk s p t0 t1 t2 t3 a b u c = true) : (jobB s p t0 t1 t2 t3 a b u c).data.toList =
  (wName ++ 32 :: s.data.toList) ++ 10 :: ((wPages ++ 32 :: dd p) ++ 10 :: ((wTrim ++ 32 :: (dd t0 ++ 32 :: (dd t1 ++ 32 :: (dd t2 ++ 32 :: dd t3)))) ++ 10 :: ((wPaper ++ 32 :: (dd a ++ 47 :: dd b)) ++ 10 :: ((wUnit ++ 32 :: dd u) ++ 10 :: ((wCopies ++ 32 :: dd c) ++ 10 :: []))))) := by
 obtain ⟨h1, h2, h3, h4, h5, h6, h7, h8, h9⟩ := jobOk_small h
 have hp := small_paper h7
 unfold jobB
 simp only [ByteArray.data_append, Array.toList_append, itoa_dd h2, trimB_data h3 h4 h5 h6, paperB_data hp.1 hp.2, itoa_dd h8, itoa_dd h9, List.append_assoc, wName, wPages, wTrim, wPaper, wUnit, wCopies, List.cons_append, List.nil_append]
theorem app_not {c : UInt8} {a b : List UInt8} (h1 : c ∉ a) (h2 : c ∉ b) : c ∉ a ++ b := fun h => (List.mem_append.1 h).elim h1 h2
theorem cons_not {c x : UInt8} {b : List UInt8} (h1 : ¬ c = x) (h2 : c ∉ b) : c ∉ x :: b := fun h => (List.mem_cons.1 h).elim h1 h2
theorem comp_step {w v : List UInt8} {vs ls : List (List UInt8)} {j j' : JJ} {S : List Nat} {i kd : Nat} (hw : (32 : UInt8) ∉ w) (hv : splitL 32 v = vs) (hf : lineOf j w vs = some (j', kd)) (hk : kd ∉ S) (hg : goodOf j' kd = true) :
  comp ((w ++ 32 :: v) :: ls) j S i = comp ls j' (S ++ [kd]) (i + 1) := by
 rw [comp_some (w := w) (vs := vs) (by rw [split_at hw, hv]) hf, if_neg hk, if_pos hg]
theorem round_trip {s : ByteArray} {p t0 t1 t2 t3 a b u c : Int} (h : jobOk s p t0 t1 t2 t3 a b u c = true) (hz : (jobB s p t0 t1 t2 t3 a b u c).size ≤ 1000) : compOf (jobB s p t0 t1 t2 t3 a b u c) = (⟨s, p, t0, t1, t2, t3, a, b, u, c⟩, 0, 0) := by
 have hd := jobB_data h
 obtain ⟨h1, h2, h3, h4, h5, h6, h7, h8, h9⟩ := jobOk_small h
 obtain ⟨g1, g2, g3, g4, g5, g6⟩ := jobOk_iff h
 have hp := small_paper h7
 have n10 : ∀ n : Int, (10 : UInt8) ∉ dd n := fun n => dd_not (by decide)
 have n32 : ∀ n : Int, (32 : UInt8) ∉ dd n := fun n => dd_not (by decide)
 have n47 : ∀ n : Int, (47 : UInt8) ∉ dd n := fun n => dd_not (by decide)
 have s10 : (10 : UInt8) ∉ s.data.toList := name_not g1 (by decide)
 have s32 : (32 : UInt8) ∉ s.data.toList := name_not g1 (by decide)
 have k : ¬ (10 : UInt8) = 32 := by decide
 have k2 : ¬ (10 : UInt8) = 47 := by decide
 have k3 : ¬ (32 : UInt8) = 47 := by decide
 have hsp : splitL 10 (jobB s p t0 t1 t2 t3 a b u c).data.toList = [wName ++ 32 :: s.data.toList, wPages ++ 32 :: dd p, wTrim ++ 32 :: (dd t0 ++ 32 :: (dd t1 ++ 32 :: (dd t2 ++ 32 :: dd t3))), wPaper ++ 32 :: (dd a ++ 47 :: dd b), wUnit ++ 32 :: dd u, wCopies ++ 32 :: dd c, []] := by
  rw [hd, split_at (app_not (by decide) (cons_not k s10)), split_at (app_not (by decide) (cons_not k (n10 p))), split_at (app_not (by decide) (cons_not k (app_not (n10 _) (cons_not k (app_not (n10 _) (cons_not k (app_not (n10 _) (cons_not k (n10 _))))))))),
   split_at (app_not (by decide) (cons_not k (app_not (n10 a) (cons_not k2 (n10 b))))), split_at (app_not (by decide) (cons_not k (n10 u))), split_at (app_not (by decide) (cons_not k (n10 c)))]
  rfl
 have v1 : ∀ n : Int, splitL 32 (dd n) = [dd n] := fun n => splitL_none (n32 n)
 have v0 : splitL 32 s.data.toList = [s.data.toList] := splitL_none s32
 have v2 : splitL 32 (dd t0 ++ 32 :: (dd t1 ++ 32 :: (dd t2 ++ 32 :: dd t3))) = [dd t0, dd t1, dd t2, dd t3] := by rw [split_at (n32 _), split_at (n32 _), split_at (n32 _), v1]
 have v3 : splitL 32 (dd a ++ 47 :: dd b) = [dd a ++ 47 :: dd b] := splitL_none (app_not (n32 a) (cons_not k3 (n32 b)))
 have hr : rpOf (dd a ++ 47 :: dd b) = some (a, b) := by
  rw [rp_two (a := dd a) (b := dd b) (by rw [split_at (n47 a), splitL_none (n47 b)])]
  simp only [dd_num hp.1, dd_num hp.2, dd_back hp.1, dd_back hp.2]
  rw [if_pos g4]
 unfold compOf
 rw [if_neg (by omega)]
 have hlast : (splitL 10 (jobB s p t0 t1 t2 t3 a b u c).data.toList).getLast (splitL_ne 10 _) = [] := by
  simp only [hsp]; rfl
 have hdrop : (splitL 10 (jobB s p t0 t1 t2 t3 a b u c).data.toList).dropLast = [wName ++ 32 :: s.data.toList, wPages ++ 32 :: dd p, wTrim ++ 32 :: (dd t0 ++ 32 :: (dd t1 ++ 32 :: (dd t2 ++ 32 :: dd t3))), wPaper ++ 32 :: (dd a ++ 47 :: dd b), wUnit ++ 32 :: dd u, wCopies ++ 32 :: dd c] := by rw [hsp]; rfl
 rw [if_pos hlast, hdrop]
 have w1 : ¬ wPages = wName := by decide
 have w2 : ¬ wPages = wPaper := by decide
 have w3 : ¬ wTrim = wName := by decide
 have w4 : ¬ wTrim = wPaper := by decide
 have w5 : ¬ wTrim = wPages := by decide
 have w6 : ¬ wTrim = wUnit := by decide
 have w7 : ¬ wTrim = wCopies := by decide
 have w8 : ¬ wPaper = wName := by decide
 have w9 : ¬ wUnit = wName := by decide
 have x1 : ¬ wUnit = wPaper := by decide
 have x2 : ¬ wUnit = wPages := by decide
 have x3 : ¬ wCopies = wName := by decide
 have x4 : ¬ wCopies = wPaper := by decide
 have x5 : ¬ wCopies = wPages := by decide
 have x6 : ¬ wCopies = wUnit := by decide
 rw [comp_step (j' := ⟨s, 0, 0, 0, 0, 0, 0, 0, 0, 0⟩) (kd := 0) (by decide) v0 (by unfold lineOf; first | (rw [if_pos rfl]; done) | (rw [if_pos rfl]; simp only [mk_self])) (by simp) g1,
  comp_step (j' := ⟨s, p, 0, 0, 0, 0, 0, 0, 0, 0⟩) (kd := 1) (by decide) (v1 p) (by unfold lineOf; rw [if_neg w1, if_neg w2, if_pos rfl, digs_one (v := []) h2]) (by decide) (decide_eq_true g2),
  comp_step (j' := ⟨s, p, t0, t1, t2, t3, 0, 0, 0, 0⟩) (kd := 2) (by decide) v2 (by unfold lineOf; rw [if_neg w3, if_neg w4, if_neg w5, if_neg w6, if_neg w7, if_pos rfl, digs_four h3 h4 h5 h6]) (by decide) g3,
  comp_step (j' := ⟨s, p, t0, t1, t2, t3, a, b, 0, 0⟩) (kd := 3) (by decide) v3 (by unfold lineOf; rw [if_neg w8, if_pos rfl]; first | (simp only [hr]; done) | (rw [hr]) | rfl) (by decide) rfl,
  comp_step (j' := ⟨s, p, t0, t1, t2, t3, a, b, u, 0⟩) (kd := 4) (by decide) (v1 u) (by unfold lineOf; rw [if_neg w9, if_neg x1, if_neg x2, if_pos rfl, digs_one (v := []) h8]) (by decide) g5,
  comp_step (j' := ⟨s, p, t0, t1, t2, t3, a, b, u, c⟩) (kd := 5) (by decide) (v1 c) (by unfold lineOf; rw [if_neg x3, if_neg x4, if_neg x5, if_neg x6, if_pos rfl, digs_one (v := []) h9]) (by decide) (decide_eq_true g6)]
 rfl
end Go.Proofs.YtjfffjklgpookaaGreatDoor.PJ
end
