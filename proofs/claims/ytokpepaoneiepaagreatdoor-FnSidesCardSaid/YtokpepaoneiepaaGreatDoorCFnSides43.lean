import Derived.Test.YtokpepaoneiepaaGreatDoorCFnSides30
import Derived.Test.YtokpepaoneiepaaGreatDoorCFnSides38
import Derived.Test.YtokpepaoneiepaaGreatDoorCFnSides39
import Derived.Test.YtokpepaoneiepaaGreatDoorCFnSides42
set_option linter.unusedVariables false
set_option linter.unusedSimpArgs false
section
namespace Go.Proofs.YtokpepaoneiepaaGreatDoor.Pure
open Go.RowKit Go.Proofs.YtokpepaoneiepaaGreatDoorW.PrintWords Go.Proofs.YtokpepaoneiepaaGreatDoorB Go.Proofs.YtokpepaoneiepaaGreatDoor.PL
theorem laws_likeInts_refl {l : List Int} (hl : l.length ≤ 1048576) : Ev (fun k => laws_likeInts.f k l l) true := by
  have key : ∀ d i : Nat, i + d = l.length → Ev (fun k => laws_likeInts.l0 k l l (i : Int)) true := by
    intro d
    induction d with
    | zero => intro i hi; refine Ev.succ ?_; simp only [laws_likeInts.l0]; exact Ev.neg (by omega) (Ev.eq rfl)
    | succ d ih =>
      intro i hi
      refine Ev.succ ?_
      simp only [laws_likeInts.l0, next_eq (show i ≤ 2000000 by omega)]
      exact Ev.pos (by omega) (Ev.pos (by omega) (Ev.pos (by omega) (Ev.pos (by trivial) (ih (i + 1) (by omega)))))
  unfold laws_likeInts.f
  exact Ev.pos (by trivial) (key l.length 0 (by omega))
theorem laws_likeSides9_refl {a b : Int} {p h : List Int} (hp : p.length ≤ 1048576) (hh : h.length ≤ 1048576) : Ev (fun k => laws_likeSides9.f k a b p h a b p h) true := by
 unfold laws_likeSides9.f
 exact Ev.pos rfl (Ev.pos rfl (Ev.bind (laws_likeInts_refl hp) (Ev.pos rfl (Ev.bind (laws_likeInts_refl hh) (Ev.eq rfl)))))
theorem sideText_le (a b : Int) (p h : List Int) : (sideText a b p h).1.size ≤ 1500 := by
 unfold sideText
 split
 ·rename_i c; exact sideB_size (sideW_of c)
 ·show 0 ≤ 1500; omega
theorem spec_DrawSideText_ok {c : List Int} (hc : ∀ y ∈ c, 0 ≤ y ∧ y ≤ 255) (hl : c.length ≤ 1048576) : ∃ a b P H, Ev (fun k => spec_DrawSideText.f k c) (a, b, P, H) ∧ P.length ≤ 65 ∧ H.length ≤ 65 := by
 obtain ⟨s0, E0, S0⟩ := spec_l01From_ev hc hl
 obtain ⟨a, b, P, H, p', s', E1, h1, h2, _⟩ := spec_l27Draw_ok S0
 refine ⟨a, b, P, H, ?_, h1, h2⟩
 unfold spec_DrawSideText.f
 exact Ev.bind E0 (Ev.bind E1 (Ev.eq rfl))
theorem spec_DrawReadSide_ok {c : List Int} (hc : ∀ y ∈ c, 0 ≤ y ∧ y ≤ 255) (hl : c.length ≤ 1048576) : ∃ t, Ev (fun k => spec_DrawReadSide.f k c) t ∧ t.size ≤ 1048576 := by
 obtain ⟨s0, E0, S0⟩ := spec_l01From_ev hc hl
 obtain ⟨a, b, P, H, p1, s1, E1, h1, h2, S1⟩ := spec_l27Draw_ok S0
 have E2 := spec_SideText_ev (a := a) (b := b) (p := P) (h := H) (by omega) (by omega)
 have hz := sideText_le a b P H
 generalize sideText a b P H = T at E2 hz
 obtain ⟨T, e⟩ := T
 replace hz : T.size ≤ 1500 := hz
 obtain ⟨m, p2, s2, E3, S2, _⟩ := spec_l01Next_ok S1 3
 by_cases m0 : m = 0
 ·obtain ⟨k, p3, s3, E4, S3, hk0, hk1⟩ := spec_l01Next_ok S2 ((T.size : Int) + 1)
  obtain ⟨j, p4, s4, E5, S4, hj0, hj1⟩ := spec_l01Next_ok S3 6
  have hw : wrap64 ((T.size : Int) + 1) = (T.size : Int) + 1 := w64 (by omega) (by omega)
  have hx : (rdOf ByteArray.empty [(⟨#[118]⟩ : ByteArray), ⟨#[94]⟩, ⟨#[32]⟩, ⟨#[10]⟩, ⟨#[55]⟩, ⟨#[48]⟩] j).size = 1 := by
   obtain ⟨q, rfl⟩ : ∃ q : Nat, j = (q : Int) := ⟨j.toNat, by omega⟩
   have hq : q = 0 ∨ q = 1 ∨ q = 2 ∨ q = 3 ∨ q = 4 ∨ q = 5 := by omega
   rcases hq with rfl | rfl | rfl | rfl | rfl | rfl <;> rfl
  have s1 : (T.extract 0 k.toNat).size ≤ T.size := by rw [ByteArray.size_extract]; omega
  have s2 : (T.extract k.toNat T.size).size ≤ T.size := by rw [ByteArray.size_extract]; omega
  refine ⟨(T.extract 0 k.toNat ++ rdOf ByteArray.empty [(⟨#[118]⟩ : ByteArray), ⟨#[94]⟩, ⟨#[32]⟩, ⟨#[10]⟩, ⟨#[55]⟩, ⟨#[48]⟩] j) ++ T.extract k.toNat T.size, ?_, by rw [ByteArray.size_append, ByteArray.size_append, hx]; omega⟩
  unfold spec_DrawReadSide.f
  refine Ev.bind E0 (Ev.bind E1 (Ev.bind E2 (Ev.bind (Ev.eq E3) (Ev.pos m0 ?_))))
  dsimp only
  rw [hw]
  refine Ev.bind (Ev.eq E4) (Ev.pos hk0 (Ev.pos (by dsimp only; omega) (Ev.bind (Ev.eq rfl) (Ev.bind (Ev.eq E5) (Ev.pos hj0 (Ev.pos ?_ (Ev.pos ?_ (Ev.pos ?_ (Ev.eq rfl)))))))))
  ·show j < 6; omega
  ·rw [hx]; dsimp only; omega
  ·rw [ByteArray.size_append, hx]; dsimp only; omega
 ·refine ⟨T, ?_, by omega⟩
  unfold spec_DrawReadSide.f
  exact Ev.bind E0 (Ev.bind E1 (Ev.bind E2 (Ev.bind (Ev.eq E3) (Ev.neg m0 (Ev.eq rfl)))))
theorem spec_DrawSideOfForm_ok {c : List Int} (hc : ∀ y ∈ c, 0 ≤ y ∧ y ≤ 255) (hl : c.length ≤ 1048576) : ∃ a b F B H s, Ev (fun k => spec_DrawSideOfForm.f k c) (a, b, F, B, H, s) ∧ F.length ≤ 65 ∧ B.length ≤ 65 ∧ H.length ≤ 65 := by
 obtain ⟨s0, E0, S0⟩ := spec_l01From_ev hc hl
 obtain ⟨a, b, F, B, H, sch, p1, s1, E1, h1, h2, h3, S1⟩ := spec_l05Draw_ok S0
 obtain ⟨m, p2, s2, E2, S2, _⟩ := spec_l01Next_ok S1 2
 obtain ⟨n, p3, s3, E3, S3, _⟩ := spec_l01Next_ok S2 20
 refine ⟨a, b, F, B, H, wrap64 (m - wrap64 (Int.tdiv n 19)), ?_, h1, h2, h3⟩
 unfold spec_DrawSideOfForm.f
 exact Ev.bind E0 (Ev.bind E1 (Ev.bind (Ev.eq E2) (Ev.bind (Ev.eq E3) (Ev.eq rfl))))
theorem outI_cases (t : ByteArray) : outI t = fail5 ∨ ∃ a b p h, sideOk a b p h = true ∧ sideB a p h = t ∧ outI t = (a, b, p, h, 0) := by
 have hfin : ∀ a b p h, fin t a b p h = fail5 ∨ ∃ a' b' p' h', sideOk a' b' p' h' = true ∧ sideB a' p' h' = t ∧ fin t a b p h = (a', b', p', h', 0) := fun a b p h => by
  rcases fin_cases t a b p h with e | e
  ·exact .inl e
  ·exact .inr ⟨a, b, p, h, e⟩
 unfold outI
 simp only
 split
 ·unfold resI
  split
  ·exact .inl rfl
  ·exact hfin _ _ _ _
 ·exact .inl rfl
theorem turn_turn {a b : Int} {p h : List Int} (hs : sideOk a b p h = true) : sideOk a b p.reverse (h.reverse.map turned) = true ∧ (h.reverse.map turned).reverse.map turned = h := by
 obtain ⟨hp, hh, _⟩ := sideOk_all hs
 have ht : ∀ x, 0 ≤ x ∧ x ≤ 1 → (0 ≤ turned x ∧ turned x ≤ 1) ∧ turned (turned x) = x := fun x hx => by
  have e : turned x = 1 - x := by unfold turned; rw [w64 (by omega) (by omega)]
  have e2 : turned (1 - x) = x := by unfold turned; rw [w64 (by omega) (by omega)]; omega
  rw [e, e2]; omega
 constructor
 ·simp only [sideOk, Bool.and_eq_true, decide_eq_true_eq, List.all_eq_true] at hs ⊢
  obtain ⟨⟨⟨⟨⟨h1, h2⟩, h3⟩, h4⟩, h5⟩, h6⟩ := hs
  refine ⟨⟨⟨⟨⟨h1, h2⟩, by rw [List.length_reverse]; exact h3⟩, by rw [List.length_map, List.length_reverse]; exact h4⟩, fun x hx => h5 x (List.mem_reverse.mp hx)⟩, fun x hx => ?_⟩
  obtain ⟨y, hy, rfl⟩ := List.mem_map.mp hx
  exact (ht y (hh y (List.mem_reverse.mp hy))).1
 ·rw [← List.map_reverse, List.reverse_reverse, List.map_map]
  conv => rhs; rw [← List.map_id h]
  exact List.map_congr_left (fun x hx => (ht x (hh x hx)).2)
theorem FnSides : laws_FnSides.Pure := by
 intro c hg
 refine Ev.rounds (g := fun k => laws_FnSides.f k c) ?_
 unfold laws_FnSides.f
 refine Ev.bind (a := decide ((c.length : Int) > 4096)) (Ev.eq rfl) (Ev.ite (fun _ => Ev.eq rfl) (fun h => ?_))
 have hc : c.length ≤ 1048576 := by
  simp only [decide_eq_true_eq] at h; omega
 obtain ⟨a, b, P, H, E1, hP, hH⟩ := spec_DrawSideText_ok hg.2 hc
 obtain ⟨t, E2, ht⟩ := spec_DrawReadSide_ok hg.2 hc
 obtain ⟨u, v, F, B, G, s, E3, hF, hB, hG⟩ := spec_DrawSideOfForm_ok hg.2 hc
 have t1 := impl_SideText_eq a b P H
 have t2 := spec_SideText_ev (a := a) (b := b) (p := P) (h := H) (by omega) (by omega)
 have r1 := impl_ReadSide_ev ht
 have r2 := spec_ReadSide_ev ht
 rw [outs_eq] at r2
 have n1 := impl_TurnSide_ev (a := a) (b := b) (p := P) (h := H)
 have n2 := spec_TurnSide_ev (a := a) (b := b) (p := P) (h := H) (by omega) (by omega)
 have f1 := impl_SideOfForm_ev u v F B G s
 have f2 := spec_SideOfForm_ev (a := u) (b := v) (p := F) (q := B) (h := G) (by omega) (by omega) (by omega) s
 have lr := outI_length t
 have ln := turnOf_length a b P H
 have lf := sideOfForm_length u v F B G s
 have hread : ∀ x, (outI t).2.2.2.2 = x → x = 0 → sideOk (outI t).1 (outI t).2.1 (outI t).2.2.1 (outI t).2.2.2.1 = true ∧ sideB (outI t).1 (outI t).2.2.1 (outI t).2.2.2.1 = t := fun x hx h0 => by
  rcases outI_cases t with e | ⟨a', b', p', h', k1, k2, e⟩
  ·rw [e] at hx; simp only [fail5] at hx; omega
  ·rw [e]; exact ⟨k1, k2⟩
 have hflag : (sideOk a b P H != ((sideText a b P H).2 == 0)) = false := by
  unfold sideText
  by_cases c1 : sideOk a b P H = true
  ·rw [if_pos c1, c1]; rfl
  ·rw [if_neg c1, Bool.eq_false_iff.2 c1]; rfl
 generalize hR : outI t = R at r1 r2 lr hread
 generalize sideOfForm u v F B G s = O at f1 f2 lf
 obtain ⟨R1, R2, R3, R4, R5⟩ := R
 obtain ⟨O1, O2, O3, O4, O5⟩ := O
 replace lr : R3.length ≤ 64 ∧ R4.length ≤ 64 := lr
 replace lf : O3.length ≤ 64 ∧ O4.length ≤ 64 := lf
 have q1 := laws_likeSides9_refl (a := R1) (b := R2) (p := R3) (h := R4) (by omega) (by omega)
 have q2 := laws_likeSides9_refl (a := (turnOf a b P H).1) (b := (turnOf a b P H).2.1) (p := (turnOf a b P H).2.2.1) (h := (turnOf a b P H).2.2.2.1) (by omega) (by omega)
 have q3 := laws_likeSides9_refl (a := O1) (b := O2) (p := O3) (h := O4) (by omega) (by omega)
 have q4 := laws_likeSides9_refl (a := a) (b := b) (p := P) (h := H) (by omega) (by omega)
 refine Ev.bind E1 (Ev.bind (Ev.eq t1) (Ev.bind t2 (Ev.bind E2 (Ev.bind r1 (Ev.bind r2 (Ev.bind n1 (Ev.bind n2 (Ev.bind E3 (Ev.bind f1 (Ev.bind f2 (Ev.pos rfl (Ev.pos rfl (Ev.pos rfl (Ev.bind q1 (Ev.pos rfl (Ev.pos rfl (Ev.bind q2 (Ev.pos rfl (Ev.pos rfl (Ev.bind q3 (Ev.pos rfl (Ev.bind (Ev.eq (impl_IsSide_eq a b P H)) (Ev.succ ?_)))))))))))))))))))))))
 have J1 : Ev (fun k => laws_FnSides.j1 k (sideText a b P H).1 (sideText a b P H).2 a b P H (turnOf a b P H).1 (turnOf a b P H).2.1 (turnOf a b P H).2.2.1 (turnOf a b P H).2.2.2.1) true := by
  refine Ev.succ ?_
  simp only [laws_FnSides.j1]
  refine Ev.ite (fun c1 => ?_) (fun _ => Ev.eq rfl)
  by_cases c2 : sideOk a b P H = true
  ·have e1 : sideText a b P H = (sideB a P H, 0) := by unfold sideText; rw [if_pos c2]
   have e2 : turnOf a b P H = (a, b, P.reverse, H.reverse.map turned, 0) := by unfold turnOf; rw [if_pos c2]
   have hz := sideB_size (sideW_of c2)
   obtain ⟨c3, e3⟩ := turn_turn c2
   have e4 : turnOf a b P.reverse (H.reverse.map turned) = (a, b, P, H, 0) := by unfold turnOf; rw [if_pos c3, List.reverse_reverse, e3]
   have rb := impl_ReadSide_ev (t := sideB a P H) (by omega)
   have e5 : outI (sideB a P H) = (a, b, P, H, 0) := by
    rw [(outs_own c2 rfl).1]; unfold fin; rw [if_pos c2, if_pos rfl]
   have nb := impl_TurnSide_ev (a := a) (b := b) (p := P.reverse) (h := H.reverse.map turned)
   rw [e5] at rb
   rw [e4] at nb
   rw [e1, e2]
   exact Ev.bind rb (Ev.bind nb (Ev.pos rfl (Ev.bind q4 (Ev.pos rfl (Ev.pos rfl (Ev.bind q4 (Ev.eq rfl)))))))
  ·unfold sideText at c1
   rw [if_neg c2] at c1; cases c1
 simp only [laws_FnSides.j0, hflag]
 refine Ev.neg (by simp) (Ev.ite (fun c1 => ?_) (fun _ => J1))
 obtain ⟨k1, k2⟩ := hread R5 rfl c1
 have tb := impl_SideText_eq R1 R2 R3 R4
 rw [show sideText R1 R2 R3 R4 = (t, 0) by unfold sideText; rw [if_pos k1]; exact congrArg (·, 0) k2] at tb
 exact Ev.bind (Ev.eq tb) (Ev.pos rfl (Ev.pos rfl J1))
end Go.Proofs.YtokpepaoneiepaaGreatDoor.Pure
end
