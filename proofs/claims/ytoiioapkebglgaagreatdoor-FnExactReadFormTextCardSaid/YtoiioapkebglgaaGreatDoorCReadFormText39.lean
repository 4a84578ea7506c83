-- Gathered by this session's program wip/tool/shake.py out of its own texts and of what the kit's print and the session's patches of it wrote for this claim.
import Derived.Test.YtoiioapkebglgaaGreatDoorCReadFormText8
import Derived.Test.YtoiioapkebglgaaGreatDoorCReadFormText9
import Derived.Test.YtoiioapkebglgaaGreatDoorCReadFormText12
import Derived.Test.YtoiioapkebglgaaGreatDoorCReadFormText24
import Derived.Test.YtoiioapkebglgaaGreatDoorCReadFormText25
import Derived.Test.YtoiioapkebglgaaGreatDoorCReadFormText26
import Derived.Test.YtoiioapkebglgaaGreatDoorCReadFormText35
import Derived.Test.YtoiioapkebglgaaGreatDoorCReadFormText38
section
namespace Go.Proofs.YtoiioapkebglgaaGreatDoor.PF
open Go.RowKit Go.Proofs.YtoiioapkebglgaaGreatDoorW.PrintWords Go.Proofs.YtoiioapkebglgaaGreatDoorB
set_option linter.unusedVariables false
set_option linter.unusedSimpArgs false
theorem cut_at {x y : List UInt8} (h : (61 : UInt8) ∉ x) : Lib.cut (x ++ 61 :: 10 :: y) [61, 10] = (x, y, true) := by
  have hocc : Lib.occAt (x ++ 61 :: 10 :: y) [61, 10] x.length = true := by simp [Lib.occAt, List.isPrefixOf]
  rcases Lib.index_spec (x ++ 61 :: 10 :: y) [61, 10] with ⟨_, h1⟩ | ⟨i, h1, h2, h3, h4⟩
  · have := h1 x.length (by simp)
    rw [hocc] at this; cases this
  · have hi : i = x.length := by
      rcases Nat.lt_trichotomy i x.length with g | g | g
      · have h5 := Lib.occAt_head rfl h3
        rw [List.getElem?_append_left g, List.getElem?_eq_getElem g] at h5
        exact absurd (Option.some.inj h5 ▸ List.getElem_mem g) h
      · exact g
      · have := h4 x.length g
        rw [hocc] at this; cases this
    unfold Lib.cut
    rw [h1, if_pos (by omega), hi]
    simp
/-- A text is that of a form whose sides are sides. -/
def goodF (t : ByteArray) (a b : Int) (p q h : List Int) : Prop := formOk a b p q h = true ∧ sideOk a b p h = true ∧ sideOk a b q (mirror a.toNat h h.length) = true ∧ formB a b p q h = t
def failF : Int × Int × List Int × List Int × List Int × Int := (0, 0, [], [], [], 6)
theorem outI_cases (t : ByteArray) : outI t = fail5 ∨ ∃ a b p h, outI t = (a, b, p, h, 0) ∧ sideOk a b p h = true ∧ sideB a p h = t := by
  have hfin : ∀ a b p h, fin t a b p h = fail5 ∨ ∃ a' b' p' h', fin t a b p h = (a', b', p', h', 0) ∧ sideOk a' b' p' h' = true ∧ sideB a' p' h' = t := fun a b p h => by
    rcases fin_cases t a b p h with e | ⟨h1, h2, e⟩
    · exact Or.inl e
    · exact Or.inr ⟨a, b, p, h, e, h1, h2⟩
  unfold outI
  simp only
  split
  · unfold resI
    split
    · exact Or.inl rfl
    · exact hfin _ _ _ _
  · exact Or.inl rfl
theorem outI_own {t : ByteArray} {a b : Int} {p h : List Int} (hs : sideOk a b p h = true) (ht : sideB a p h = t) : outI t = (a, b, p, h, 0) := by
  rw [(outs_own hs ht).1]
  unfold fin
  rw [if_pos hs, if_pos ht]
theorem readS_own {t : ByteArray} {a b : Int} {p h : List Int} (hs : sideOk a b p h = true) (ht : sideB a p h = t) : readS t = (a, b, p, h, true) := by
  obtain ⟨W, H, rfl, rfl, hH, R, q, h1, h2, h3, h4⟩ := side_parse hs
  rw [ht] at h1
  have hl : (R ++ [q]).length - 1 = R.length := by simp
  have hd : (R ++ [q]).dropLast = R := List.dropLast_concat
  have hw : wAt (R ++ [q]) H = (W : Int) := by
    unfold wAt
    have hlt : H - 1 < R.length := by omega
    rw [if_neg (by omega), List.getD, List.getElem?_append_left hlt, List.getElem?_eq_getElem hlt]
    exact congrArg Int.ofNat (h4 _ (List.getElem_mem hlt))
  unfold readS resS
  simp only [h1, hl, hd, h2, parseS_of _ _ h3, List.nil_append]
  rw [hw]
  unfold finS
  rw [if_pos hs, decide_eq_true ht]
theorem readS_ok {t : ByteArray} (h : (readS t).2.2.2.2 = true) : sideOk (readS t).1 (readS t).2.1 (readS t).2.2.1 (readS t).2.2.2.1 = true ∧ sideB (readS t).1 (readS t).2.2.1 (readS t).2.2.2.1 = t := by
  have hfin : ∀ a b p q, (finS t a b p q).2.2.2.2 = true → sideOk (finS t a b p q).1 (finS t a b p q).2.1 (finS t a b p q).2.2.1 (finS t a b p q).2.2.2.1 = true ∧ sideB (finS t a b p q).1 (finS t a b p q).2.2.1 (finS t a b p q).2.2.2.1 = t := fun a b p q hh => by
    unfold finS at hh ⊢
    by_cases c : sideOk a b p q = true
    · rw [if_pos c] at hh ⊢
      exact ⟨c, of_decide_eq_true hh⟩
    · rw [if_neg c] at hh; cases hh
  unfold readS at h ⊢
  unfold resS at h ⊢
  split at h
  · cases h
  · rename_i r hr
    exact hfin _ _ _ _ h
/-- Where both sides are read, the heads of the second are told by the first, too. -/
theorem side_second {a b a2 b2 : Int} {p q h h2 : List Int} (hf : formOk a b p q h = true) (hs2 : sideOk a2 b2 q h2 = true) : sideOk a b q (mirror a.toNat h h.length) = true := by
  have hw : SideW a b q (mirror a.toNat h h.length) := sideW_form hf 1
  obtain ⟨w1, w2, w3, w4, w5, w6, w7⟩ := hw
  obtain ⟨g1, _⟩ := sideOk_all hs2
  obtain ⟨c1, c2, c3, _⟩ := formOk_iff hf
  simp only [sideOk, Bool.and_eq_true, decide_eq_true_eq, List.all_eq_true]
  exact ⟨⟨⟨⟨⟨c1, c2⟩, w3⟩, by omega⟩, g1⟩, w2⟩
theorem side_no {a b : Int} {p h : List Int} (hs : sideOk a b p h = true) : (61 : UInt8) ∉ (sideB a p h).data.toList := by
  obtain ⟨g1, _⟩ := sideOk_all hs
  have key : ∀ i, i ≤ p.length → (61 : UInt8) ∉ sideL a h p i := by
    intro i
    induction i with
    | zero => intro _ hx; cases hx
    | succ i ih =>
      intro hi hx
      have hm := g1 _ (getD_mem p 0 i (by omega))
      have hL : sideL a h p (i + 1) = sideL a h p i ++ (wordAt p h i ++ [if Int.tmod (i : Int) a = a - 1 then 10 else 32]) := rfl
      rw [hL, List.mem_append, List.mem_append] at hx
      rcases hx with hx | hx | hx
      · exact ih (by omega) hx
      · unfold wordAt at hx
        rw [rd_nat, itoa_eq_nat (by omega), List.mem_append] at hx
        rcases hx with hx | hx
        · have := digits_byte hx
          simp at this
        · rw [List.mem_singleton] at hx
          split at hx <;> exact absurd hx (by decide)
      · rw [List.mem_singleton] at hx
        split at hx <;> exact absurd hx (by decide)
  unfold sideB
  rw [mk_list]
  exact key p.length (Nat.le_refl _)
theorem formB_data (a b : Int) (p q h : List Int) : (formB a b p q h).data.toList = (sideB a p h).data.toList ++ 61 :: 10 :: (sideB a q (mirror a.toNat h h.length)).data.toList := by
  have e0 : sideT a b p q h 0 = sideB a p h := rfl
  have e1 : sideT a b p q h 1 = sideB a q (mirror a.toNat h h.length) := rfl
  unfold formB
  rw [e0, e1]
  simp only [ByteArray.data_append, Array.toList_append, List.append_assoc, List.cons_append, List.nil_append]
theorem ba_mk (t : ByteArray) : (⟨t.data.toList.toArray⟩ : ByteArray) = t := ba_of (mk_list _)
theorem cut_len (s sep : List UInt8) : (Lib.cut s sep).1.length ≤ s.length ∧ (Lib.cut s sep).2.1.length ≤ s.length := by
  unfold Lib.cut
  split
  · simp only [List.length_take, List.length_drop]; omega
  · simp
theorem Cut_eq {t : ByteArray} (ht : t.size ≤ 1048576) : strings_Cut.f t ⟨#[61, 10]⟩ = some (⟨(Lib.cut t.data.toList [61, 10]).1.toArray⟩, ⟨(Lib.cut t.data.toList [61, 10]).2.1.toArray⟩, (Lib.cut t.data.toList [61, 10]).2.2) := by
  unfold strings_Cut.f
  rw [if_pos (by omega)]
theorem good_cut {t : ByteArray} {a b : Int} {p q h : List Int} (hg : goodF t a b p q h) : Lib.cut t.data.toList [61, 10] = ((sideB a p h).data.toList, (sideB a q (mirror a.toNat h h.length)).data.toList, true) := by
  obtain ⟨h1, h2, h3, h4⟩ := hg
  rw [← h4, formB_data]
  exact cut_at (side_no h2)
theorem impl_good {t : ByteArray} (ht : t.size ≤ 1048576) {a b : Int} {p q h : List Int} (hg : goodF t a b p q h) : Ev (fun k => impl_ReadFormText.f k t) (a, b, p, q, h, 0) := by
  have hc := Cut_eq ht
  rw [good_cut hg, ba_mk, ba_mk] at hc
  obtain ⟨h1, h2, h3, h4⟩ := hg
  have z1 := sideB_size (sideW_of h2)
  have z2 := sideB_size (sideW_of h3)
  have r1 := impl_ReadSide_ev (t := sideB a p h) (by omega)
  have r2 := impl_ReadSide_ev (t := sideB a q (mirror a.toNat h h.length)) (by omega)
  rw [outI_own h2 rfl] at r1
  rw [outI_own h3 rfl] at r2
  unfold impl_ReadFormText.f
  refine Ev.bind (Ev.eq hc) (Ev.bind r1 (Ev.bind r2 (Ev.pos rfl (Ev.pos rfl (Ev.succ ?_)))))
  simp only [impl_ReadFormText.j0]
  exact Ev.neg (by simp) (Ev.bind (Ev.eq (impl_IsForm_eq a b p q h)) (Ev.pos h1 (Ev.bind (impl_formText_ev h1) (Ev.pos (by rw [h4]) (Ev.eq rfl)))))
theorem impl_bad {t : ByteArray} (ht : t.size ≤ 1048576) (hg : ¬ ∃ a b p q h, goodF t a b p q h) : Ev (fun k => impl_ReadFormText.f k t) failF := by
  have hc := Cut_eq ht
  obtain ⟨l1, l2⟩ := cut_len t.data.toList [61, 10]
  have hsz : t.data.toList.length = t.size := data_length t
  generalize Lib.cut t.data.toList [61, 10] = c at hc l1 l2
  have r1 := impl_ReadSide_ev (t := ⟨c.1.toArray⟩) (by rw [mk_size]; omega)
  have r2 := impl_ReadSide_ev (t := ⟨c.2.1.toArray⟩) (by rw [mk_size]; omega)
  have hno : ∀ v : Int × Int × List Int × List Int × Int, ∀ w : Int × Int × List Int × List Int × Int, Ev (fun k => impl_ReadFormText.j0 k t true v.1 v.2.1 v.2.2.1 v.2.2.2.1 w.1 w.2.1 w.2.2.1 w.2.2.2.1) failF := fun v w => by
    refine Ev.succ ?_
    simp only [impl_ReadFormText.j0]
    exact Ev.pos trivial (Ev.eq rfl)
  unfold impl_ReadFormText.f
  refine Ev.bind (Ev.eq hc) (Ev.bind r1 (Ev.bind r2 (Ev.ite (fun c1 => Ev.ite (fun c2 => ?_) (fun _ => hno _ _)) (fun _ => hno _ _))))
  rcases outI_cases ⟨c.1.toArray⟩ with e | ⟨a, b, p, h, e, s1, s2⟩
  · rw [e] at c2; exact absurd c2 (by decide)
  rcases outI_cases ⟨c.2.1.toArray⟩ with e' | ⟨a2, b2, q, h2, e', s3, s4⟩
  · rw [e']
    exact hno _ fail5
  rw [e, e']
  refine Ev.succ ?_
  simp only [impl_ReadFormText.j0]
  refine Ev.neg (by simp) (Ev.bind (Ev.eq (impl_IsForm_eq a b p q h)) (Ev.ite (fun c3 => ?_) (fun _ => Ev.eq rfl)))
  refine Ev.bind (impl_formText_ev c3) (Ev.neg ?_ (Ev.eq rfl))
  intro hq
  rw [Lib.toList_data, Lib.toList_data] at hq
  exact hg ⟨a, b, p, q, h, c3, s1, side_second c3 s3, ba_of hq⟩
theorem spec_l01Same_l0 (l m : List Int) (hlm : l.length = m.length) (hl : l.length ≤ 1048576) : ∀ d i, i + d = l.length → Ev (fun k => spec_l01Same.l0 k l m (i : Int)) (decide (l.drop i = m.drop i)) := by
  intro d
  induction d with
  | zero =>
    intro i hi
    refine Ev.succ ?_
    simp only [spec_l01Same.l0]
    refine Ev.neg (by omega) (Ev.eq ?_)
    rw [List.drop_of_length_le (by omega), List.drop_of_length_le (by omega)]
    simp
  | succ d ih =>
    intro i hi
    have e1 : wrap64 ((i : Int) + 1) = ((i + 1 : Nat) : Int) := wrap_next (by omega)
    have h1 := ih (i + 1) (by omega)
    rw [getD_drop l 0 i (by omega), getD_drop m 0 i (by omega)]
    refine Ev.succ ?_
    simp only [spec_l01Same.l0, rd_nat, e1]
    generalize l.getD i 0 = u
    generalize m.getD i 0 = v
    refine Ev.pos (by omega) (Ev.pos (by omega) (Ev.pos (by omega) (Ev.ite (fun c => ?_) (fun c => Ev.eq ?_))))
    · refine h1.cast ?_
      simp [c]
    · simp [c]
theorem spec_l01Same_ev (l m : List Int) (hl : l.length ≤ 1048576) : Ev (fun k => spec_l01Same.f k l m) (decide (l = m)) := by
  unfold spec_l01Same.f
  refine Ev.ite (fun c => ?_) (fun c => Ev.eq ?_)
  · have h := spec_l01Same_l0 l m (by omega) hl l.length 0 (by omega)
    exact h
  · rw [decide_eq_false (fun e => c (by rw [e]))]
theorem splitL_one {c : UInt8} : ∀ (l z : List UInt8), splitL c l = [z] → l = z
  | [], z, h => by
    have h1 : ([[]] : List (List UInt8)) = [z] := h
    simpa using h1
  | b :: l, z, h => by
    by_cases hb : b = c
    · subst hb
      rw [splitL_cons_eq] at h
      have h2 : splitL b l = [] := (List.cons.inj h).2
      exact absurd h2 (splitL_ne b l)
    · rw [splitL_cons_ne hb] at h
      cases hs : splitL c l with
      | nil => exact absurd hs (splitL_ne c l)
      | cons y ys =>
        rw [hs] at h
        have h' : (b :: y) :: ys = [z] := h
        obtain ⟨e1, e2⟩ := List.cons.inj h'
        subst e2
        rw [splitL_one l y hs, ← e1]
theorem splitL_two {c : UInt8} : ∀ (l x z : List UInt8), splitL c l = [x, z] → l = x ++ c :: z
  | [], x, z, h => by
    have h1 : ([[]] : List (List UInt8)) = [x, z] := h
    simp at h1
  | b :: l, x, z, h => by
    by_cases hb : b = c
    · subst hb
      rw [splitL_cons_eq] at h
      obtain ⟨e1, e2⟩ := List.cons.inj h
      rw [← e1, splitL_one l z e2]; rfl
    · rw [splitL_cons_ne hb] at h
      cases hs : splitL c l with
      | nil => exact absurd hs (splitL_ne c l)
      | cons y ys =>
        rw [hs] at h
        have h' : (b :: y) :: ys = [x, z] := h
        obtain ⟨e1, e2⟩ := List.cons.inj h'
        subst e2
        rw [splitL_two l y z hs, ← e1]; rfl
theorem rdOf_zero (x : List UInt8) (ls : List (List UInt8)) : rdOf ByteArray.empty (bas (x :: ls)) 0 = ⟨x.toArray⟩ := rdOf_bas (x :: ls) 0 (by simp)
theorem rdOf_one (x z : List UInt8) (ls : List (List UInt8)) : rdOf ByteArray.empty (bas (x :: z :: ls)) 1 = ⟨z.toArray⟩ := rdOf_bas (x :: z :: ls) 1 (by simp)
theorem tail_cut (c : UInt8) (y : List UInt8) : (⟨(c :: y).toArray⟩ : ByteArray).extract 1 (⟨(c :: y).toArray⟩ : ByteArray).size = ⟨y.toArray⟩ := by
  rw [extract_list, mk_list, mk_size]
  simp
theorem head_bt (c : UInt8) (y : List UInt8) : bt (⟨(c :: y).toArray⟩ : ByteArray) 0 = (c.toNat : Int) := by
  have h := bt_get' ⟨(c :: y).toArray⟩ 0 (by rw [mk_list]; simp)
  simpa using h
theorem spec_good {t : ByteArray} (ht : t.size ≤ 1048576) {a b : Int} {p q h : List Int} (hg : goodF t a b p q h) : Ev (fun k => spec_ReadFormText.f k t) (a, b, p, q, h, 0) := by
  obtain ⟨h1, h2, h3, h4⟩ := hg
  have hs := spec_l01Split_ev t 61 ht
  have n0 := side_no h2
  have n1 := side_no h3
  have z1 := sideB_size (sideW_of h2)
  have z2 := sideB_size (sideW_of h3)
  rw [← h4, formB_data, splitL_app _ _ n0, splitL_cons_eq, splitL_none (by rw [List.mem_cons]; rintro (e | e); exact absurd e (by decide); exact n1 e)] at hs
  have hin : inFront (sideB a p h).data.toList ([[], 10 :: (sideB a q (mirror a.toNat h h.length)).data.toList]) = [(sideB a p h).data.toList, 10 :: (sideB a q (mirror a.toNat h h.length)).data.toList] := by simp [inFront]
  rw [hin, h4] at hs
  have q1 := spec_l27Read_ev (t := sideB a p h) (by omega)
  have q2 := spec_l27Read_ev (t := sideB a q (mirror a.toNat h h.length)) (by omega)
  rw [readS_own h2 rfl] at q1
  rw [readS_own h3 rfl] at q2
  have e0 := rdOf_zero (sideB a p h).data.toList [10 :: (sideB a q (mirror a.toNat h h.length)).data.toList]
  have e1 := rdOf_one (sideB a p h).data.toList (10 :: (sideB a q (mirror a.toNat h h.length)).data.toList) []
  have e2 := tail_cut 10 (sideB a q (mirror a.toNat h h.length)).data.toList
  have e3 := head_bt 10 (sideB a q (mirror a.toNat h h.length)).data.toList
  rw [ba_mk] at e0 e2
  have hsz : (⟨(10 :: (sideB a q (mirror a.toNat h h.length)).data.toList).toArray⟩ : ByteArray).size = (sideB a q (mirror a.toNat h h.length)).data.toList.length + 1 := by rw [mk_size]; rfl
  have hlen : (bas [(sideB a p h).data.toList, 10 :: (sideB a q (mirror a.toNat h h.length)).data.toList]).length = 2 := by rw [bas_length]; rfl
  have hp : p.length ≤ 64 ∧ h.length ≤ 64 := by have := sideOk_len h2; omega
  have hq : q.length ≤ 64 := by have := sideOk_len h3; omega
  have hf := spec_IsForm_ev (a := a) (b := b) (p := p) (q := q) (h := h) (by omega) (by omega) (by omega)
  rw [h1] at hf
  obtain ⟨W, H, rfl, rfl, hW, hW8, hH8, hl, h64, _, _⟩ := form_nat h1
  have hm := spec_l27Mirror_ev W H h hW hW8 hl h64
  have hsm := spec_l01Same_ev (mirror W h h.length) (mirror W h h.length) (by rw [mirror_length]; omega)
  simp only [Int.toNat_natCast] at hs q2 e0 e1 e2 e3 hsz hlen
  unfold spec_ReadFormText.f
  refine Ev.bind hs ?_
  simp only [e1, e3, hlen]
  refine Ev.pos (by decide) (Ev.pos (by decide) (Ev.neg (by rw [mk_toList]; simp) (Ev.pos (by rw [hsz]; omega) (Ev.succ ?_))))
  simp only [spec_ReadFormText.j0, e0, e1, e2, hlen]
  refine Ev.neg (by decide) (Ev.pos (by decide) (Ev.bind q1 (Ev.pos (by decide) (Ev.pos (by rw [hsz]; omega) (Ev.bind q2 (Ev.pos rfl (Ev.pos rfl (Ev.pos rfl (Ev.bind hf (Ev.pos rfl (Ev.bind hm (Ev.bind hsm (Ev.pos (by simp) (Ev.eq rfl))))))))))))))
theorem spec_bad {t : ByteArray} (ht : t.size ≤ 1048576) (hg : ¬ ∃ a b p q h, goodF t a b p q h) : Ev (fun k => spec_ReadFormText.f k t) failF := by
  have hs := spec_l01Split_ev t 61 ht
  have hsz : t.data.toList.length = t.size := data_length t
  have hno : ∀ L : List ByteArray, Ev (fun k => spec_ReadFormText.j0 k L true) failF := fun L => by
    refine Ev.succ ?_
    simp only [spec_ReadFormText.j0]
    exact Ev.pos trivial (Ev.eq rfl)
  have hpc := splitL_piece 61 t.data.toList
  have htwo := splitL_two (c := 61) t.data.toList
  unfold spec_ReadFormText.f
  generalize splitL 61 t.data.toList = L at hs hpc htwo
  refine Ev.bind hs (Ev.ite (fun c1 => ?_) (fun _ => hno _))
  have hL2 : L.length = 2 := by rw [bas_length] at c1; omega
  obtain ⟨x, z, rfl⟩ : ∃ x z, L = [x, z] := by
    match L, hL2 with
    | [x, z], _ => exact ⟨x, z, rfl⟩
  have ht2 := htwo x z rfl
  have hx := hpc x (by simp)
  have hz := hpc z (by simp)
  have hlen : (bas [x, z]).length = 2 := by rw [bas_length]; rfl
  have e0 := rdOf_zero x [z]
  have e1 := rdOf_one x z []
  refine Ev.pos (by rw [hlen]; decide) ?_
  simp only [e1]
  refine Ev.ite (fun _ => hno _) (fun c2 => ?_)
  rw [mk_toList] at c2
  obtain ⟨c, y, rfl⟩ : ∃ c y, z = c :: y := by
    cases z with
    | nil => exact absurd rfl c2
    | cons c y => exact ⟨c, y, rfl⟩
  have e2 := tail_cut c y
  have e3 := head_bt c y
  have hs1 : (⟨(c :: y).toArray⟩ : ByteArray).size = y.length + 1 := by rw [mk_size]; rfl
  refine Ev.pos (by rw [hs1]; omega) ?_
  rw [e3]
  by_cases c3 : c = 10
  · subst c3
    have q1 := spec_l27Read_ev (t := ⟨x.toArray⟩) (by rw [mk_size]; omega)
    have q2 := spec_l27Read_ev (t := ⟨y.toArray⟩) (by rw [mk_size]; simp only [List.length_cons] at hz; omega)
    have o1 := readS_ok (t := ⟨x.toArray⟩)
    have o2 := readS_ok (t := ⟨y.toArray⟩)
    generalize readS ⟨x.toArray⟩ = r1 at q1 o1
    generalize readS ⟨y.toArray⟩ = r2 at q2 o2
    obtain ⟨a, b, p, h, s1⟩ := r1
    obtain ⟨a2, b2, q, h2, s2⟩ := r2
    simp only at o1 o2
    refine Ev.succ ?_
    simp only [spec_ReadFormText.j0, e0, e1, e2, hlen]
    refine Ev.neg (by decide) (Ev.pos (by decide) (Ev.bind q1 (Ev.pos (by decide) (Ev.pos (by rw [hs1]; omega) (Ev.bind q2 ?_)))))
    refine Ev.ite (fun d1 => Ev.ite (fun d2 => Ev.ite (fun d3 => ?_) (fun _ => Ev.eq rfl)) (fun _ => Ev.eq rfl)) (fun _ => Ev.eq rfl)
    simp only at d1 d2 d3
    subst d3
    obtain ⟨k1, k2⟩ := o1 d1
    obtain ⟨k3, k4⟩ := o2 d2
    have hp : p.length ≤ 64 ∧ h.length ≤ 64 := by have := sideOk_len k1; omega
    have hq : q.length ≤ 64 := by have := sideOk_len k3; omega
    have hp1 : p.length ≤ 1048576 := Nat.le_trans hp.1 (by decide)
    have hq1 : q.length ≤ 1048576 := Nat.le_trans hq (by decide)
    have hh1 : h.length ≤ 1048576 := Nat.le_trans hp.2 (by decide)
    have hf := spec_IsForm_ev (a := a) (b := b) (p := p) (q := q) (h := h) hp1 hq1 hh1
    refine Ev.bind hf (Ev.ite (fun d4 => ?_) (fun _ => Ev.eq rfl))
    have hside := side_second d4 k3
    obtain ⟨W, H, e4, e5, hW, hW8, hH8, hl, h64, _, _⟩ := form_nat d4
    have hm := spec_l27Mirror_ev W H h hW hW8 hl h64
    have hsm := spec_l01Same_ev (mirror W h h.length) h2 (by rw [mirror_length]; omega)
    rw [← e4] at hm
    refine Ev.bind hm (Ev.bind hsm (Ev.neg ?_ (Ev.eq rfl)))
    intro d5
    have d6 := of_decide_eq_true d5
    have e6 : a.toNat = W := by omega
    refine hg ⟨a, b, p, q, h, d4, k1, hside, ?_⟩
    apply ba_of
    rw [formB_data, e6, d6, k2, k4, mk_list, mk_list]
    exact ht2.symm
  · have e4 : (((c.toNat : Int) != 10)) = true := by
      rw [bne_iff_ne]
      exact fun e => c3 ((Go.Proofs.YtoiioapkebglgaaGreatDoor.PF.byteOf 10 c).1 e)
    rw [e4]
    exact hno _
end Go.Proofs.YtoiioapkebglgaaGreatDoor.PF
end
section
namespace Go.Proofs.YtoiioapkebglgaaGreatDoor.Pure
open Go.RowKit Go.Proofs.YtoiioapkebglgaaGreatDoorW.PrintWords Go.Proofs.YtoiioapkebglgaaGreatDoorB Go.Proofs.YtoiioapkebglgaaGreatDoor.PF
set_option linter.unusedVariables false
set_option linter.unusedSimpArgs false
theorem laws_heldForm_ev {a b n : Int} {p q h : List Int} (hp : p.length ≤ 1048576) (hq : q.length ≤ 1048576) (hh : h.length ≤ 1048576) (h0 : 0 ≤ n) (hn : n ≤ 1000000000) :
    Ev (fun k => laws_heldForm.f k a b (markInt n p) (markInt (n + (p.length : Int)) q) (markInt (n + (p.length : Int) + (q.length : Int)) h) n) (n + (p.length : Int) + (q.length : Int) + (h.length : Int)) := by
  unfold laws_heldForm.f
  exact Ev.bind (laws_heldInt64S_ev (l := p) (n := n) (by omega) h0 (by omega)) (Ev.neg (by omega) (Ev.bind (laws_heldInt64S_ev (l := q) (n := n + (p.length : Int)) (by omega) (by omega) (by omega)) (Ev.neg (by omega) (Ev.bind (laws_heldInt64S_ev (l := h) (n := n + (p.length : Int) + (q.length : Int)) (by omega) (by omega) (by omega)) (Ev.neg (by omega) (Ev.eq rfl))))))
theorem both (t : ByteArray) (ht : t.size ≤ 1048576) : ∃ a b p q h c, p.length ≤ 64 ∧ q.length ≤ 64 ∧ h.length ≤ 64 ∧ Ev (fun k => spec_ReadFormText.f k t) (a, b, p, q, h, c) ∧ Ev (fun k => impl_ReadFormText.f k t) (a, b, p, q, h, c) := by
  by_cases hg : ∃ a b p q h, goodF t a b p q h
  · obtain ⟨a, b, p, q, h, hg⟩ := hg
    have h1 := sideOk_len hg.2.1
    have h2 := sideOk_len hg.2.2.1
    exact ⟨a, b, p, q, h, 0, by omega, by omega, by omega, spec_good ht hg, impl_good ht hg⟩
  · exact ⟨0, 0, [], [], [], 6, by simp, by simp, by simp, spec_bad ht hg, impl_bad ht hg⟩
theorem FnExactReadFormText : laws_FnExactReadFormText.Pure := by
  intro t ht
  refine Ev.rounds (g := fun k => laws_FnExactReadFormText.f k t) ?_
  unfold laws_FnExactReadFormText.f
  refine Ev.ite (fun _ => Ev.eq rfl) (fun hr => ?_)
  obtain ⟨a, b, p, q, h, c, hp, hq, hh, s1, s2⟩ := both t (by omega)
  have q1 := laws_eqForm_refl (a := a) (b := b) (p := p) (q := q) (h := h) (by omega) (by omega) (by omega)
  have k2 := laws_markForm_ev (a := a) (b := b) (p := p) (q := q) (h := h) (n := 1) (by omega) (by omega) (by omega) (by omega) (by omega)
  have k3 := laws_heldForm_ev (a := a) (b := b) (p := p) (q := q) (h := h) (n := 1) (by omega) (by omega) (by omega) (by omega) (by omega)
  refine Ev.bind s1 (Ev.bind s2 (Ev.bind q1 (Ev.pos rfl (Ev.succ ?_))))
  simp only [laws_FnExactReadFormText.j0]
  refine Ev.neg (by simp) (Ev.bind k2 (Ev.bind k3 (Ev.neg (by omega) (Ev.pos rfl (Ev.bind s2 (Ev.bind q1 (Ev.pos rfl (Ev.succ ?_))))))))
  simp only [laws_FnExactReadFormText.j1]
  refine Ev.neg (by simp) (Ev.bind k3 (Ev.neg (by omega) (Ev.pos rfl (Ev.eq rfl))))
end Go.Proofs.YtoiioapkebglgaaGreatDoor.Pure
end
