import Derived.Test.YtjfffjklgpookaaGreatDoorCFnJobs21
import Derived.Test.YtjfffjklgpookaaGreatDoorCFnJobs35
import Derived.Test.YtjfffjklgpookaaGreatDoorCFnJobs36
set_option linter.unusedVariables false
set_option linter.unusedSimpArgs false
section
namespace Go.Proofs.YtjfffjklgpookaaGreatDoor.PJ
open Go.RowKit Go.Proofs.YtjfffjklgpookaaGreatDoorW.PrintWords Go.Proofs.YtjfffjklgpookaaGreatDoorB
abbrev zJ : JJ := ⟨⟨#[]⟩, 0, 0, 0, 0, 0, 0, 0, 0, 0⟩
abbrev cT (r : JJ × Int × Int) : ByteArray × Int × Int × Int × Int × Int × Int × Int × Int × Int × Int × Int := (r.1.n, r.1.p, r.1.t0, r.1.t1, r.1.t2, r.1.t3, r.1.g, r.1.b, r.1.u, r.1.c, r.2.1, r.2.2)
noncomputable def comp : List (List UInt8) → JJ → List Nat → Nat → JJ × Int × Int
  | [], j, S, _ => if S.length < 6 then (zJ, 0, 4) else (j, 0, 0)
  | l :: ls, j, S, i => match splitL 32 l with
    | [] => (zJ, (i : Int) + 1, 6)
    | w :: vs => match lineOf j w vs with
      | none => (zJ, (i : Int) + 1, 6)
      | some (j', kd) => if kd ∈ S then (zJ, (i : Int) + 1, 5) else if goodOf j' kd = true then comp ls j' (S ++ [kd]) (i + 1) else (zJ, (i : Int) + 1, 2)
theorem comp_none {l : List UInt8} {ls : List (List UInt8)} {j : JJ} {S : List Nat} {i : Nat} {w : List UInt8} {vs : List (List UInt8)} (hs : splitL 32 l = w :: vs) (h : lineOf j w vs = none) : comp (l :: ls) j S i = (zJ, (i : Int) + 1, 6) := by
 rw [comp, hs]; simp only [h]
theorem comp_some {l : List UInt8} {ls : List (List UInt8)} {j j' : JJ} {S : List Nat} {i kd : Nat} {w : List UInt8} {vs : List (List UInt8)} (hs : splitL 32 l = w :: vs) (h : lineOf j w vs = some (j', kd)) :
  comp (l :: ls) j S i = if kd ∈ S then (zJ, (i : Int) + 1, 5) else if goodOf j' kd = true then comp ls j' (S ++ [kd]) (i + 1) else (zJ, (i : Int) + 1, 2) := by
 rw [comp, hs]; simp only [h]
theorem line_n {j j' : JJ} {w : List UInt8} {vs : List (List UInt8)} {kd : Nat} (h : lineOf j w vs = some (j', kd)) : j'.n = j.n ∨ ∃ v ∈ vs, j'.n = ⟨v.toArray⟩ := by
 unfold lineOf at h
 repeat' split at h
 all_goals first
  | (cases h; done)
  | (obtain ⟨rfl, _⟩ := Prod.mk.inj (Option.some.inj h); exact Or.inl rfl)
  | (obtain ⟨rfl, _⟩ := Prod.mk.inj (Option.some.inj h); exact Or.inr ⟨_, by simp, rfl⟩)
theorem word_inj : ∀ a b : Fin 6, wordOf a.val = wordOf b.val → a = b := by decide
theorem mem_words {S : List Nat} {kd : Nat} (hS : ∀ x ∈ S, x < 6) (hk : kd < 6) : wordOf kd ∈ S.map wordOf ↔ kd ∈ S := by
 rw [List.mem_map]
 constructor
 ·rintro ⟨x, hx, he⟩
  have h := word_inj ⟨x, hS x hx⟩ ⟨kd, hk⟩ he
  have h2 : x = kd := congrArg Fin.val h
  rw [← h2]; exact hx
 ·intro h; exact ⟨kd, h, rfl⟩
theorem has_kinds (S : List Nat) (kd : Nat) : has (S.map fun x : Nat => (x : Int)) (kd : Int) = decide (kd ∈ S) := by
 rw [Bool.eq_iff_iff]
 unfold has
 simp only [List.any_eq_true, List.mem_map, decide_eq_true_eq]
 constructor
 ·rintro ⟨y, ⟨x, hx, rfl⟩, h⟩
  have : x = kd := by omega
  rw [← this]; exact hx
 ·intro h; exact ⟨(kd : Int), ⟨kd, h, rfl⟩, rfl⟩
theorem word_ne {kd : Nat} (h : kd < 6) : ¬ wordOf kd = [] := (by decide : ∀ a : Fin 6, ¬ wordOf a.val = []) ⟨kd, h⟩
theorem index_l0 (ws : List (List UInt8)) (hl : ws.length ≤ 1048576) (w : List UInt8) : ∀ d i, i + d = ws.length → ∃ r : Int, Ev (fun k => slices_Index_string_string.l0 k (bas ws) ⟨w.toArray⟩ (ws.length : Int) (i : Int)) r ∧ decide (r ≥ 0) = decide (w ∈ ws.drop i) := by
  have hbl := bas_length ws
  intro d
  induction d with
  | zero =>
    intro i hi
    rw [List.drop_of_length_le (by omega)]
    refine ⟨-1, Ev.succ ?_, by simp⟩
    simp only [slices_Index_string_string.l0]
    exact Ev.neg (by omega) (Ev.eq rfl)
  | succ d ih =>
    intro i hi
    have hlt : i < ws.length := by omega
    have hw := rdOf_bas ws i hlt
    have hdr := List.drop_eq_getElem_cons hlt
    generalize (ws)[i] = v at hw hdr
    have e1 : wrap64 ((i : Int) + 1) = ((i + 1 : Nat) : Int) := wrap_next (by omega)
    rw [hdr]
    by_cases c : w = v
    · refine ⟨(i : Int), Ev.succ ?_, by rw [c]; simp⟩
      simp only [slices_Index_string_string.l0, hw]
      exact Ev.pos (by omega) (Ev.pos (by omega) (Ev.pos (by omega) (Ev.pos (by rw [mk_toList, mk_toList]; exact c) (Ev.eq rfl))))
    · obtain ⟨r, h1, h2⟩ := ih (i + 1) (by omega)
      refine ⟨r, Ev.succ ?_, by rw [h2]; simp [c]⟩
      simp only [slices_Index_string_string.l0, hw, e1]
      exact Ev.pos (by omega) (Ev.pos (by omega) (Ev.pos (by omega) (Ev.neg (by rw [mk_toList, mk_toList]; exact c) h1)))
theorem contains_ev (ws : List (List UInt8)) (hl : ws.length ≤ 1048576) (w : List UInt8) : Ev (fun k => slices_Contains_string_string.f k (bas ws) ⟨w.toArray⟩) (decide (w ∈ ws)) := by
 obtain ⟨r, h1, h2⟩ := index_l0 ws hl w ws.length 0 (by omega)
 unfold slices_Contains_string_string.f slices_Index_string_string.f
 rw [bas_length]
 exact Ev.bind h1 (Ev.eq (by rw [h2, List.drop_zero]))
theorem line_parts {l : List UInt8} (hl : l.length ≤ 1000000) : ∃ (w : List UInt8) (vs : List (List UInt8)), splitL 32 l = w :: vs ∧ ∀ v ∈ vs, v.length ≤ 1000000 := by
  have hp := splitL_piece 32 l
  cases h : splitL 32 l with
  | nil => exact absurd h (splitL_ne _ _)
  | cons w vs =>
    rw [h] at hp
    exact ⟨w, vs, rfl, fun v hv => by have := hp v (List.mem_cons_of_mem _ hv); omega⟩
theorem kinds_app (S : List Nat) (kd : Nat) : (S ++ [kd]).map (fun x : Nat => (x : Int)) = S.map (fun x : Nat => (x : Int)) ++ [(kd : Int)] := by simp
theorem words_app (S : List Nat) (kd : Nat) : bas ((S ++ [kd]).map wordOf) = bas (S.map wordOf) ++ [⟨(wordOf kd).toArray⟩] := by simp [bas]
theorem spec_comp_l0 (L : List (List UInt8)) (M : Nat) (hM : L.length = M + 1) (hL : M ≤ 1000000) (hW : ∀ w ∈ L, w.length ≤ 1000000) : ∀ d i, i + d = M → ∀ (j : JJ) (S : List Nat), S.length ≤ i → (∀ x ∈ S, x < 6) → j.n.size ≤ 1000000 →
    Ev (fun k => spec_CompileJob.l0 k (bas L) (S.map fun x : Nat => (x : Int)) (i : Int) j.n j.p j.t0 j.t1 j.t2 j.t3 j.g j.b j.u j.c) (cT (comp (L.dropLast.drop i) j S i)) := by
  have hbl := bas_length L
  have hdl : L.dropLast.length = M := by rw [List.length_dropLast, hM, Nat.add_sub_cancel]
  intro d
  induction d with
  | zero =>
    intro i hi j S ho hS hn
    have e1 : wrap64 ((i : Int) + 1) = ((i + 1 : Nat) : Int) := wrap_next (by omega)
    rw [List.drop_of_length_le (by omega), comp]
    refine Ev.succ ?_
    simp only [spec_CompileJob.l0, e1]
    refine Ev.neg (by omega) (Ev.ite (fun c => Ev.eq ?_) (fun c => Ev.eq ?_))
    · rw [List.length_map] at c
      rw [if_pos (by omega)]
    · rw [List.length_map] at c
      rw [if_neg (by omega)]
  | succ d ih =>
    intro i hi j S ho hS hn
    have e1 : wrap64 ((i : Int) + 1) = ((i + 1 : Nat) : Int) := wrap_next (by omega)
    have e2 : ((i + 1 : Nat) : Int) = (i : Int) + 1 := by omega
    have hlt : i < L.dropLast.length := by omega
    have hlt2 : i < L.length := by omega
    have hw := rdOf_bas L i hlt2
    have hwl := hW _ (List.getElem_mem hlt2)
    have hel : L.dropLast[i] = L[i] := List.getElem_dropLast hlt
    have hih := ih (i + 1) (by omega)
    rw [List.drop_eq_getElem_cons hlt, hel]
    generalize (L)[i] = l at hw hwl
    obtain ⟨w, vs, hsp, hvl⟩ := line_parts hwl
    obtain ⟨r, h1, h2⟩ := spec_l26Line_ev hwl j hsp
    unfold SaysS at h2
    refine Ev.succ ?_
    simp only [spec_CompileJob.l0, hw, e1]
    refine Ev.pos (by omega) (Ev.pos (by omega) (Ev.pos (by omega) (Ev.bind h1 ?_)))
    cases hl : lineOf j w vs with
    | none =>
      rw [hl] at h2
      simp only at h2
      rw [comp_none hsp hl]
      exact Ev.pos (by omega) (Ev.neg (by decide) (Ev.eq (by rw [e2])))
    | some q =>
      obtain ⟨j', kd⟩ := q
      rw [hl] at h2
      simp only at h2
      subst h2
      obtain ⟨hk, hwd⟩ := line_word hl
      rw [comp_some hsp hl]
      have hn' : j'.n.size ≤ 1000000 := by
        rcases line_n hl with h | ⟨v, hv, h⟩
        · rw [h]; exact hn
        · rw [h, mk_size]; exact hvl v hv
      have hh := spec_l01Has_ev (l := S.map fun x : Nat => (x : Int)) (by rw [List.length_map]; omega) (kd : Int)
      rw [has_kinds] at hh
      refine Ev.neg (by dsimp only; omega) (Ev.bind hh ?_)
      by_cases c : kd ∈ S
      · rw [if_pos c]
        exact Ev.pos (decide_eq_true c) (Ev.neg (by decide) (Ev.eq (by rw [e2])))
      · rw [if_neg c]
        refine Ev.neg (by simpa using c) (Ev.bind (spec_l26Good_ev (j := j') (by omega) hk) ?_)
        by_cases g : goodOf j' kd = true
        · rw [if_pos g]
          have h3 := hih j' (S ++ [kd]) (by rw [List.length_append, List.length_singleton]; omega) (fun x hx => by
            rcases List.mem_append.1 hx with h | h
            · exact hS x h
            · rw [List.mem_singleton] at h; omega) hn'
          rw [kinds_app] at h3
          exact Ev.pos g (Ev.pos (by trivial) (Ev.pos (by rw [List.length_map]; omega) h3))
        · rw [if_neg g]
          exact Ev.neg g (Ev.neg (by decide) (Ev.eq (by rw [e2])))
theorem impl_comp_l0 (ls : List (List UInt8)) (hL : ls.length ≤ 1000000) (hW : ∀ w ∈ ls, w.length ≤ 1000000) : ∀ d i, i + d = ls.length → ∀ (j : JJ) (S : List Nat), S.length ≤ i → (∀ x ∈ S, x < 6) →
    Ev (fun k => impl_CompileJob.l0 k (bas (S.map wordOf)) (bas ls) (ls.length : Int) (i : Int) j.n j.p j.t0 j.t1 j.t2 j.t3 j.g j.b j.u j.c) (cT (comp (ls.drop i) j S i)) := by
  have hbl := bas_length ls
  intro d
  induction d with
  | zero =>
    intro i hi j S ho hS
    rw [List.drop_of_length_le (by omega), comp]
    refine Ev.succ ?_
    simp only [impl_CompileJob.l0]
    refine Ev.neg (by omega) (Ev.ite (fun c => Ev.eq ?_) (fun c => Ev.eq ?_))
    · rw [bas_length, List.length_map] at c
      rw [if_pos (by omega)]
    · rw [bas_length, List.length_map] at c
      rw [if_neg (by omega)]
  | succ d ih =>
    intro i hi j S ho hS
    have e1 : wrap64 ((i : Int) + 1) = ((i + 1 : Nat) : Int) := wrap_next (by omega)
    have e2 : ((i + 1 : Nat) : Int) = (i : Int) + 1 := by omega
    have hlt : i < ls.length := by omega
    have hw := rdOf_bas ls i hlt
    have hwl := hW _ (List.getElem_mem hlt)
    have hih := ih (i + 1) (by omega)
    have hsz : (bas (S.map wordOf)).length = S.length := by rw [bas_length, List.length_map]
    rw [List.drop_eq_getElem_cons hlt]
    generalize (ls)[i] = l at hw hwl
    obtain ⟨w, vs, hsp, hvl⟩ := line_parts hwl
    obtain ⟨r, h1, h2⟩ := impl_jobLine_ev hwl j hsp
    unfold SaysI at h2
    refine Ev.succ ?_
    simp only [impl_CompileJob.l0, hw]
    refine Ev.pos (by omega) (Ev.pos (by omega) (Ev.pos (by omega) (Ev.bind h1 ?_)))
    cases hl : lineOf j w vs with
    | none =>
      rw [hl] at h2
      simp only at h2
      obtain ⟨j', rfl⟩ := h2
      rw [comp_none hsp hl]
      refine Ev.pos (mk_toList []) (Ev.succ ?_)
      simp only [impl_CompileJob.j2, e1]
      exact Ev.neg (by simp) (Ev.neg (by decide) (Ev.eq (by rw [e2])))
    | some q =>
      obtain ⟨j', kd⟩ := q
      rw [hl] at h2
      simp only at h2
      subst h2
      obtain ⟨hk, hwd⟩ := line_word hl
      rw [comp_some hsp hl]
      subst hwd
      have hc := contains_ev (S.map wordOf) (by rw [List.length_map]; omega) (wordOf kd)
      refine Ev.neg (by dsimp only; rw [mk_toList]; exact word_ne hk) (Ev.bind hc (Ev.succ ?_))
      simp only [impl_CompileJob.j2, e1]
      by_cases c : kd ∈ S
      · rw [if_pos c]
        exact Ev.pos (decide_eq_true ((mem_words hS hk).2 c)) (Ev.neg (by decide) (Ev.eq (by rw [e2])))
      · rw [if_neg c]
        refine Ev.neg (fun h => c ((mem_words hS hk).1 (of_decide_eq_true h))) ?_
        by_cases g : goodOf j' kd = true
        · simp only [if_pos g]
          have h3 := hih j' (S ++ [kd]) (by rw [List.length_append, List.length_singleton]; omega) (fun x hx => by
            rcases List.mem_append.1 hx with h | h
            · exact hS x h
            · rw [List.mem_singleton] at h; omega)
          rw [words_app] at h3
          exact Ev.pos (by trivial) (Ev.pos (by omega) h3)
        · simp only [if_neg g]
          exact Ev.neg (by decide) (Ev.eq (by rw [e2]))
theorem last_nil (c : UInt8) : ∀ l : List UInt8, (splitL c l).getLast (splitL_ne c l) = [] ↔ l = [] ∨ [c] <:+ l
  | [] => by simp [splitL]
  | b :: t => by
    have ih := last_nil c t
    by_cases hb : b = c
    · subst hb
      have h1 : (splitL b (b :: t)).getLast (splitL_ne b (b :: t)) = (splitL b t).getLast (splitL_ne b t) := by
        simp only [splitL_cons_eq]
        exact List.getLast_cons (splitL_ne b t)
      rw [h1, ih, List.suffix_cons_iff]
      constructor
      · rintro (rfl | h)
        · exact .inr (.inl rfl)
        · exact .inr (.inr h)
      · rintro (h | h | h)
        · cases h
        · exact .inl (List.cons.inj h).2.symm
        · exact .inr h
    · have hsp := splitL_cons_ne hb t
      have hle := splitL_length c t
      cases hs : splitL c t with
      | nil => exact absurd hs (splitL_ne c t)
      | cons x xs =>
        rw [hs] at hsp hle
        simp only [inFront, List.cons_append, List.nil_append] at hsp
        have hno : ¬ [c] = b :: t := fun h => hb (List.cons.inj h).1.symm
        cases xs with
        | nil =>
          have h1 : (splitL c (b :: t)).getLast (splitL_ne c (b :: t)) = b :: x := by simp only [hsp]; rfl
          have hct : c ∉ t := by
            rw [← List.count_eq_zero]
            simp at hle
            omega
          rw [h1, List.suffix_cons_iff]
          constructor
          · intro h; cases h
          · rintro (h | h | h)
            · cases h
            · exact absurd h hno
            · exact absurd (h.subset (List.mem_singleton.2 rfl)) hct
        | cons y ys =>
          have h1 : (splitL c (b :: t)).getLast (splitL_ne c (b :: t)) = (splitL c t).getLast (splitL_ne c t) := by
            simp only [hsp, hs]
            rw [List.getLast_cons (List.cons_ne_nil y ys), List.getLast_cons (List.cons_ne_nil y ys)]
          have hne : ¬ t = [] := by
            rintro rfl
            simp [splitL] at hs
          rw [h1, ih, List.suffix_cons_iff]
          constructor
          · rintro (h | h)
            · exact absurd h hne
            · exact .inr (.inr h)
          · rintro (h | h | h)
            · cases h
            · exact absurd h hno
            · exact .inr h
open Classical in
noncomputable def compOf (s : ByteArray) : JJ × Int × Int := if s.size > 1000 then (zJ, 0, 3) else if (splitL 10 s.data.toList).getLast (splitL_ne 10 s.data.toList) = [] then comp (splitL 10 s.data.toList).dropLast zJ [] 0 else (zJ, 0, 6)
theorem spec_CompileJob_ev (s : ByteArray) : Ev (fun k => spec_CompileJob.f k s) (cT (compOf s)) := by
 have hsz : s.data.toList.length = s.size := data_length s
 unfold spec_CompileJob.f compOf
 refine Ev.ite (fun c => Ev.eq (by rw [if_pos (by omega)])) (fun c => ?_)
 rw [if_neg (by omega)]
 have h1 := spec_l01Split_ev s 10 (by omega)
 have hLl := splitL_length 10 s.data.toList
 have hLc : s.data.toList.count 10 ≤ s.data.toList.length := List.count_le_length
 have hpc := splitL_piece 10 s.data.toList
 have hne := splitL_ne 10 s.data.toList
 refine Ev.bind h1 ?_
 have hbl := bas_length (splitL 10 s.data.toList)
 have e2 : wrap64 (((bas (splitL 10 s.data.toList)).length : Int) - 1) = (((splitL 10 s.data.toList).length - 1 : Nat) : Int) := by rw [w64 (by omega) (by omega)]; omega
 have hrd : rdOf ByteArray.empty (bas (splitL 10 s.data.toList)) (((splitL 10 s.data.toList).length - 1 : Nat) : Int) = ⟨((splitL 10 s.data.toList).getLast hne).toArray⟩ := by rw [rdOf_bas (splitL 10 s.data.toList) _ (by omega), List.getLast_eq_getElem]
 rw [e2, hrd, mk_toList]
 have h2 := spec_comp_l0 (splitL 10 s.data.toList) ((splitL 10 s.data.toList).length - 1) (by omega) (by omega) (fun w hw => by have := hpc w hw; omega) ((splitL 10 s.data.toList).length - 1) 0 (by omega) zJ [] (by simp) (by simp) (by decide)
 rw [List.drop_zero] at h2
 refine Ev.pos (by omega) (Ev.pos (by omega) (Ev.ite (fun c2 => ?_) (fun c2 => Ev.eq (by rw [if_neg c2]))))
 rw [if_pos c2]
 exact h2
theorem impl_CompileJob_any (s : ByteArray) : Ev (fun k => impl_CompileJob.f k s) (cT (compOf s)) := by
 have hsz : s.data.toList.length = s.size := data_length s
 have hlast := last_nil 10 s.data.toList
 unfold impl_CompileJob.f compOf
 refine Ev.ite (fun c => Ev.eq (by rw [if_pos (by omega)])) (fun c => ?_)
 rw [if_neg (by omega)]
 have h1 := strings_Split_eq s 10 (by omega)
 have hLl := splitL_length 10 s.data.toList
 have hLc : s.data.toList.count 10 ≤ s.data.toList.length := List.count_le_length
 have hpc := splitL_piece 10 s.data.toList
 have hj : Ev (fun k => impl_CompileJob.j0 k s) (cT (comp (splitL 10 s.data.toList).dropLast zJ [] 0)) := by
  refine Ev.succ ?_
  simp only [impl_CompileJob.j0]
  refine Ev.bind (Ev.eq h1) ?_
  generalize splitL 10 s.data.toList = L at hLl hpc
  have hbl := bas_length L
  have e2 : wrap64 (((bas L).length : Int) - 1) = ((L.length - 1 : Nat) : Int) := by rw [w64 (by omega) (by omega)]; omega
  have htk : (bas L).take (L.length - 1) = bas L.dropLast := by rw [List.dropLast_eq_take, bas, bas, List.map_take]
  have h2 := impl_comp_l0 L.dropLast (by rw [List.length_dropLast]; omega) (fun w hw => by
   have := hpc w (List.mem_of_mem_take (by rw [← List.dropLast_eq_take]; exact hw))
   omega) L.dropLast.length 0 (by omega) zJ [] (by simp) (by simp)
  rw [List.drop_zero] at h2
  simp only [e2, Int.toNat_natCast, htk]
  refine Ev.pos (by omega) (Ev.pos (by omega) (Ev.bind (Ev.eq rfl) ?_))
  rw [bas_length]
  exact h2
 by_cases c0 : s.toList = []
 ·refine Ev.pos c0 ?_
  have hd : s.data.toList = [] := by rw [← Lib.toList_data]; exact c0
  rw [if_pos (hlast.2 (.inl hd))]
  exact hj
 ·have hd : ¬ s.data.toList = [] := by rw [← Lib.toList_data]; exact c0
  have hsf : strings_HasSuffix.f s (⟨#[10]⟩ : ByteArray) = some (Lib.hasSuffix s.data.toList [10]) := by unfold strings_HasSuffix.f; rw [if_pos (by omega)]
  have hiff : Lib.hasSuffix s.data.toList [10] = true ↔ [10] <:+ s.data.toList := by unfold Lib.hasSuffix; exact List.isSuffixOf_iff_suffix
  refine Ev.neg c0 (Ev.bind (Ev.eq hsf) (Ev.ite (fun c1 => ?_) (fun c1 => Ev.eq ?_)))
  ·rw [if_pos (hlast.2 (.inr (hiff.1 c1)))]
   exact hj
  ·rw [if_neg]
   intro h
   rcases hlast.1 h with h | h
   ·exact hd h
   ·exact c1 (hiff.2 h)
end Go.Proofs.YtjfffjklgpookaaGreatDoor.PJ
end
