import Derived.Test.YtokpepaoneiepaaGreatDoorCFnSides35
import Derived.Test.YtokpepaoneiepaaGreatDoorCFnSides41
set_option linter.unusedVariables false
set_option linter.unusedSimpArgs false
section
namespace Go.Proofs.YtokpepaoneiepaaGreatDoor.PL
open Go.RowKit Go.Proofs.YtokpepaoneiepaaGreatDoorW.PrintWords Go.Proofs.YtokpepaoneiepaaGreatDoorB
theorem cell_ok {a b x y : Int} (hx : 0 ≤ x ∧ x < a) (hy : 0 ≤ y ∧ y < b) : 0 ≤ y * a ∧ y * a + a ≤ a * b := by
 have h1 := Int.mul_nonneg hy.1 (show 0 ≤ a by omega)
 have h2 := Int.mul_le_mul_of_nonneg_right (show y + 1 ≤ b by omega) (show 0 ≤ a by omega)
 rw [Int.add_mul, Int.one_mul, Int.mul_comm b a] at h2
 exact ⟨h1, h2⟩
theorem spec_l05Form_l0 {a b : Int} {n L : Nat} {l : List S133} (hl : StackOk a b n l) (hn : n ≤ 64) (ha : 0 ≤ a ∧ a ≤ 8) (hab : a * b = (L : Int)) (hL : L ≤ 64) (u v : Int) : ∀ d i : Nat, i + d = n → ∀ F B H : List Int, F.length = L → B.length = L → H.length = L →
    ∃ F' B' H', Ev (fun k => spec_l05Form.l0 k a l (i : Int) u v F B H) (u, v, F', B', H') ∧ F'.length = L ∧ B'.length = L ∧ H'.length = L := by
  have hll := hl.1
  intro d
  induction d with
  | zero =>
    intro i hi F B H hF hB hH
    refine ⟨F, B, H, Ev.succ ?_, hF, hB, hH⟩
    simp only [spec_l05Form.l0]
    exact Ev.neg (by omega) (Ev.eq rfl)
  | succ d ih =>
    intro i hi F B H hF hB hH
    obtain ⟨hx, hy⟩ := rd_leaf hl i (by omega)
    have hc := cell_ok hx hy
    rw [hab] at hc
    have ew := Aside0.mk (next_eq (show i ≤ 2000000 by omega))
    obtain ⟨x, hxd⟩ : ∃ x, x = rd_T133 l (i : Int) := ⟨_, rfl⟩
    rw [← hxd] at hx hy hc
    obtain ⟨m, hm⟩ : ∃ m, m = x.f1 * a := ⟨_, rfl⟩
    rw [← hm] at hc
    have e0 := Aside0.mk (w64 (x := m) (by omega) (by omega))
    have e1 := Aside0.mk (w64 (x := m + x.f0) (by omega) (by omega))
    have e2 := Aside0.mk (w64 (x := m + a) (by omega) (by omega))
    have e3 := Aside0.mk (w64 (x := m + a - 1) (by omega) (by omega))
    have e4 := Aside0.mk (w64 (x := m + a - 1 - x.f0) (by omega) (by omega))
    have go : ∀ p q : Int, ∃ F' B' H', Ev (fun k => if x.f3 = true then (if (m + x.f0) < (H.length : Int) then (spec_l05Form.l0 k a l ((i + 1 : Nat) : Int) u v (F.set (m + x.f0).toNat p) (B.set (m + a - 1 - x.f0).toNat q) (H.set (m + x.f0).toNat 1)) else none) else (spec_l05Form.l0 k a l ((i + 1 : Nat) : Int) u v (F.set (m + x.f0).toNat p) (B.set (m + a - 1 - x.f0).toNat q) H)) (u, v, F', B', H') ∧ F'.length = L ∧ B'.length = L ∧ H'.length = L := by
      intro p q
      by_cases c3 : x.f3 = true
      · obtain ⟨F', B', H', h1, h2⟩ := ih (i + 1) (by omega) (F.set (m + x.f0).toNat p) (B.set (m + a - 1 - x.f0).toNat q) (H.set (m + x.f0).toNat 1) (by rw [List.length_set, hF]) (by rw [List.length_set, hB]) (by rw [List.length_set, hH])
        exact ⟨F', B', H', Ev.pos c3 (Ev.pos (by omega) h1), h2⟩
      · obtain ⟨F', B', H', h1, h2⟩ := ih (i + 1) (by omega) (F.set (m + x.f0).toNat p) (B.set (m + a - 1 - x.f0).toNat q) H (by rw [List.length_set, hF]) (by rw [List.length_set, hB]) hH
        exact ⟨F', B', H', Ev.neg c3 h1, h2⟩
    by_cases cd : (x.f2 != x.f3) = true
    · obtain ⟨F', B', H', h1, h2⟩ := go (wrap64 (wrap64 (2 * (i : Int)) + 2)) (wrap64 (wrap64 (2 * (i : Int)) + 1))
      refine ⟨F', B', H', Ev.succ ?_, h2⟩
      simp only [spec_l05Form.l0, spec_l04Down.f, ← hxd, ← hm, e0.out, e1.out, e2.out, e3.out, e4.out, ew.out]
      refine Ev.pos (by omega) (Ev.pos (by omega) (Ev.bind (Ev.eq rfl) (Ev.pos cd (Ev.pos (by omega) (Ev.pos (by omega) (Ev.bind (Ev.eq rfl) (Ev.pos (by omega) (Ev.pos (by omega) (Ev.bind (Ev.eq rfl) ?_)))))))))
      exact h1
    · obtain ⟨F', B', H', h1, h2⟩ := go (wrap64 (wrap64 (2 * (i : Int)) + 1)) (wrap64 (wrap64 (2 * (i : Int)) + 2))
      refine ⟨F', B', H', Ev.succ ?_, h2⟩
      simp only [spec_l05Form.l0, spec_l04Down.f, ← hxd, ← hm, e0.out, e1.out, e2.out, e3.out, e4.out, ew.out]
      refine Ev.pos (by omega) (Ev.pos (by omega) (Ev.bind (Ev.eq rfl) (Ev.neg cd (Ev.pos (by omega) (Ev.pos (by omega) (Ev.bind (Ev.eq rfl) (Ev.pos (by omega) (Ev.pos (by omega) (Ev.bind (Ev.eq rfl) ?_)))))))))
      exact h1
theorem spec_ImposeSheet_ok {sch : ByteArray} (hs : sch.size ≤ 1048576) (a b : Int) : ∃ v : Int × Int × List Int × List Int × List Int × Int, Ev (fun k => spec_ImposeSheet.f k a b sch) v ∧
  (v.2.2.2.2.2 = 0 → ∃ L, 1 ≤ L ∧ L ≤ 64 ∧ v.2.2.1.length = L ∧ v.2.2.2.1.length = L ∧ v.2.2.2.2.1.length = L) := by
 unfold spec_ImposeSheet.f
 have hcode : Ev (fun k => spec_l04Code.f k a b sch) (if (sideLen a && sideLen b) = true then (if (sideLen a && sideLen b && schemeOk sch.data.toList (pow2 a) (pow2 b)) = true then 0 else 2) else 1) := by
  unfold spec_l04Code.f
  refine Ev.bind (Ev.eq (spec_l04Sheet_eq a b)) (Ev.ite (fun c => ?_) (fun c => Ev.eq (by rw [if_neg c])))
  rw [if_pos c]
  exact Ev.bind (spec_IsScheme_ev hs a b) (Ev.ite (fun c2 => Ev.eq (by rw [if_pos c2])) (fun c2 => Ev.eq (by rw [if_neg c2])))
 by_cases c : (sideLen a && sideLen b && schemeOk sch.data.toList (pow2 a) (pow2 b)) = true
 ·have c0 := c
  simp only [Bool.and_eq_true] at c
  obtain ⟨⟨ca, cb⟩, cs⟩ := c
  rw [if_pos (by rw [ca, cb]; rfl), if_pos c0] at hcode
  obtain ⟨l, n, h1, h2, h3⟩ := spec_l04Leaves_ev hs ca cb cs
  have ha := sideLen_iff ca
  have hb := sideLen_iff cb
  have hab := Int.mul_le_mul ha.2 hb.2 (by omega) (by omega)
  have hab1 := Int.mul_le_mul ha.1 hb.1 (by omega) (by omega)
  obtain ⟨L, hL⟩ : ∃ L : Nat, a * b = (L : Int) := ⟨(a * b).toNat, by omega⟩
  have hw : wrap64 (a * b) = (L : Int) := by rw [hL, w64 (by omega) (by omega)]
  obtain ⟨F, B, H, k1, k2, k3, k4⟩ := spec_l05Form_l0 h2 h3 (by omega) hL (by omega) a b n 0 (by omega) (List.replicate L 0) (List.replicate L 0) (List.replicate L 0) (by simp) (by simp) (by simp)
  refine ⟨(a, b, F, B, H, 0), Ev.bind hcode (Ev.pos rfl (Ev.bind (a := (a, b, F, B, H)) ?_ (Ev.eq rfl))), fun _ => ⟨L, by omega, by omega, k2, k3, k4⟩⟩
  unfold spec_l05Form.f
  simp only [hw, Int.toNat_natCast]
  exact Ev.pos (by omega) (Ev.pos (by omega) (Ev.bind h1 k1))
 ·refine ⟨(0, 0, [], [], [], _), Ev.bind hcode (Ev.neg ?_ (Ev.eq rfl)), ?_⟩
  ·split
   ·decide
   ·decide
  ·intro h0
   exfalso
   simp only at h0
   split at h0
   ·exact absurd h0 (by decide)
   ·exact absurd h0 (by decide)
theorem spec_l05Shift_ok {l : List Int} (hl : l.length ≤ 1000) (v : Int) : ∃ r, Ev (fun k => spec_l05Shift.f k l v) r ∧ r.length = l.length := by
  have key : ∀ d i : Nat, i + d = l.length → ∀ out : List Int, out.length = i → ∃ r, Ev (fun k => spec_l05Shift.l0 k l v out (i : Int)) r ∧ r.length = l.length := by
    intro d
    induction d with
    | zero =>
      intro i hi out ho
      refine ⟨out, Ev.succ ?_, by omega⟩
      simp only [spec_l05Shift.l0]
      exact Ev.neg (by omega) (Ev.eq rfl)
    | succ d ih =>
      intro i hi out ho
      obtain ⟨r, h1, h2⟩ := ih (i + 1) (by omega) (out ++ [wrap64 (rd l (i : Int) + v)]) (by rw [List.length_append, ho]; rfl)
      refine ⟨r, Ev.succ ?_, h2⟩
      simp only [spec_l05Shift.l0, next_eq (show i ≤ 2000000 by omega)]
      exact Ev.pos (by omega) (Ev.pos (by omega) (Ev.pos (by omega) h1))
  obtain ⟨r, h1, h2⟩ := key l.length 0 (by omega) [] rfl
  exact ⟨r, h1, h2⟩
theorem spec_l05Draw_ok {c : List Int} {p s : Int} (h : Src c p s) : ∃ a b F B H sch p' s', Ev (fun k => spec_l05Draw.f k c p s) (a, b, F, B, H, sch, p', s') ∧ F.length ≤ 65 ∧ B.length ≤ 65 ∧ H.length ≤ 65 ∧ Src c p' s' := by
 obtain ⟨a, b, sch, p1, s1, E1, hsz, S1⟩ := spec_l04Draw_ok h
 obtain ⟨⟨u, v, F, B, H, e⟩, E2, hv⟩ := spec_ImposeSheet_ok (sch := sch) (by omega) a b
 simp only at hv
 by_cases ce : e = 0
 ·obtain ⟨L, hL1, hL2, hF, hB, hH⟩ := hv ce
  replace hF : F.length = L := hF
  replace hB : B.length = L := hB
  replace hH : H.length = L := hH
  obtain ⟨n1, p2, s2, E3, S2, _⟩ := spec_l01Next_ok S1 200
  obtain ⟨by_, p3, s3, E4, S3, _⟩ := spec_l01Pick_ok S2 [0, 0, 16, n1] (by simp) (by simp)
  obtain ⟨F', E5, hF'⟩ := spec_l05Shift_ok (l := F) (by omega) by_
  obtain ⟨B', E6, hB'⟩ := spec_l05Shift_ok (l := B) (by omega) by_
  obtain ⟨k, p4, s4, E7, S4, hk0, hk1⟩ := spec_l01Next_ok S3 (F'.length : Int)
  obtain ⟨m, p5, s5, E8, S5, _⟩ := spec_l01Next_ok S4 16
  have hk : k < (L : Int) := by omega
  have pre : ∀ {R : Int × Int × List Int × List Int × List Int × ByteArray × Int × Int}, Ev (fun q => _) R → Ev (fun q => spec_l05Draw.f q c p s) R := fun {R} hR => by
   unfold spec_l05Draw.f
   exact Ev.bind E1 (Ev.bind E2 (Ev.pos ce (Ev.bind (Ev.eq E3) (Ev.bind (Ev.eq E4) (Ev.bind E5 (Ev.bind E6 (Ev.bind (Ev.eq E7) (Ev.bind (Ev.eq E8) hR))))))))
  by_cases m0 : m = 0
  ·exact ⟨u, v, F', B', H.set k.toNat (wrap64 (1 - rd H k)), sch, p5, s5, pre (Ev.pos m0 (Ev.pos hk0 (Ev.pos (by (try dsimp only); omega) (Ev.eq rfl)))), by omega, by omega, by rw [List.length_set]; omega, S5⟩
  by_cases m1 : m = 1
  ·exact ⟨u, v, F'.set k.toNat (rd B' k), B'.set k.toNat (rd F' k), H, sch, p5, s5, pre (Ev.neg m0 (Ev.pos m1 (Ev.pos hk0 (Ev.pos (by (try dsimp only); omega) (Ev.pos (by (try dsimp only); omega) (Ev.eq rfl)))))), by rw [List.length_set]; omega, by rw [List.length_set]; omega, by omega, S5⟩
  by_cases m2 : m = 2
  ·obtain ⟨z, p6, s6, E9, S6, _⟩ := spec_l01Pick_ok S5 [0, 1, rd F' 0, 1000000000] (by simp) (by simp)
   exact ⟨u, v, F'.set k.toNat z, B', H, sch, p6, s6, pre (Ev.neg m0 (Ev.neg m1 (Ev.pos m2 (Ev.pos (by (try dsimp only); omega) (Ev.bind (Ev.eq E9) (Ev.pos hk0 (Ev.pos (by (try dsimp only); omega) (Ev.eq rfl)))))))), by rw [List.length_set]; omega, by omega, by omega, S6⟩
  by_cases m3 : m = 3
  ·obtain ⟨z, p6, s6, E9, S6, _⟩ := spec_l01Next_ok S5 3
   by_cases cz : z = 0
   ·exact ⟨u, v, F', B', H ++ [0], sch, p6, s6, pre (Ev.neg m0 (Ev.neg m1 (Ev.neg m2 (Ev.pos m3 (Ev.bind (Ev.eq E9) (Ev.pos cz (Ev.pos (by (try dsimp only); omega) (Ev.eq rfl)))))))), by omega, by omega, by rw [List.length_append, List.length_singleton]; omega, S6⟩
   ·exact ⟨u, v, F', B', H, sch, p6, s6, pre (Ev.neg m0 (Ev.neg m1 (Ev.neg m2 (Ev.pos m3 (Ev.bind (Ev.eq E9) (Ev.neg cz (Ev.eq rfl))))))), by omega, by omega, by omega, S6⟩
  ·exact ⟨u, v, F', B', H, sch, p5, s5, pre (Ev.neg m0 (Ev.neg m1 (Ev.neg m2 (Ev.neg m3 (Ev.eq rfl))))), by omega, by omega, by omega, S5⟩
 ·refine ⟨a, b, [1], [2], [0], sch, p1, s1, ?_, by decide, by decide, by decide, S1⟩
  unfold spec_l05Draw.f
  exact Ev.bind E1 (Ev.bind E2 (Ev.neg ce (Ev.eq rfl)))
theorem sideF_pos {a b : Int} {p q h : List Int} (hf : formOk a b p q h = true) (s : Int) : 0 < (sideF a b p q h s).2.2.1.length ∧ 0 < (sideF a b p q h s).2.2.2.length := by
 obtain ⟨h1, h2, h3, h4, h5, h6, _, _⟩ := formOk_iff hf
 have g1 := sideLen_iff h1
 have g2 := sideLen_iff h2
 have hab1 := Int.mul_le_mul g1.1 g2.1 (by omega) (by omega)
 have hp : 0 < p.length := by omega
 have hq : 0 < q.length := by omega
 have hh : 0 < h.length := by omega
 unfold sideF
 split
 ·exact ⟨hp, hh⟩
 ·exact ⟨hq, by rw [mirror_length]; exact hh⟩
theorem spec_l27Draw_ok {c : List Int} {p s : Int} (h : Src c p s) : ∃ a b P H p' s', Ev (fun k => spec_l27Draw.f k c p s) (a, b, P, H, p', s') ∧ P.length ≤ 65 ∧ H.length ≤ 65 ∧ Src c p' s' := by
 obtain ⟨u, v, F, B, H, sch, p1, s1, E1, hF, hB, hH, S1⟩ := spec_l05Draw_ok h
 have E2 := spec_IsForm_ev (a := u) (b := v) (p := F) (q := B) (h := H) (by omega) (by omega) (by omega)
 by_cases cf : formOk u v F B H = true
 ·obtain ⟨z, p2, s2, E3, S2, _⟩ := spec_l01Next_ok S1 2
  have E4 := spec_l27Side_ev cf z
  have hl := sideF_length cf z
  have hp := sideF_pos cf z
  obtain ⟨m, p3, s3, E5, S3, _⟩ := spec_l01Next_ok S2 30
  generalize sideF u v F B H z = w at E4 hl hp
  obtain ⟨w1, w2, w3, w4⟩ := w
  replace hl : w3.length ≤ 64 ∧ w4.length ≤ 64 := hl
  replace hp : 0 < w3.length ∧ 0 < w4.length := hp
  have pre : ∀ {R : Int × Int × List Int × List Int × Int × Int}, Ev (fun q => _) R → Ev (fun q => spec_l27Draw.f q c p s) R := fun {R} hR => by
   unfold spec_l27Draw.f
   exact Ev.bind E1 (Ev.bind E2 (Ev.pos cf (Ev.bind (Ev.eq E3) (Ev.bind E4 (Ev.bind (Ev.eq E5) hR)))))
  by_cases m0 : m = 0
  ·obtain ⟨y, p4, s4, E6, S4, _⟩ := spec_l01Pick_ok S3 [0, 1, 1000000000, 1000000001] (by simp) (by simp)
   exact ⟨w1, w2, w3.set (0 : Int).toNat y, w4, p4, s4, pre (Ev.pos m0 (Ev.bind (Ev.eq E6) (Ev.pos (by (try dsimp only); omega) (Ev.eq rfl)))), by rw [List.length_set]; omega, by omega, S4⟩
  by_cases m1 : m = 1
  ·obtain ⟨y, p4, s4, E6, S4, _⟩ := spec_l01Pick_ok S3 [-1, 2, 1] (by simp) (by simp)
   exact ⟨w1, w2, w3, w4.set (0 : Int).toNat y, p4, s4, pre (Ev.neg m0 (Ev.pos m1 (Ev.bind (Ev.eq E6) (Ev.pos (by (try dsimp only); omega) (Ev.eq rfl))))), by omega, by rw [List.length_set]; omega, S4⟩
  by_cases m2 : m = 2
  ·exact ⟨wrap64 (2 * w1), w2, w3, w4, p3, s3, pre (Ev.neg m0 (Ev.neg m1 (Ev.pos m2 (Ev.eq rfl)))), by omega, by omega, S3⟩
  ·exact ⟨w1, w2, w3, w4, p3, s3, pre (Ev.neg m0 (Ev.neg m1 (Ev.neg m2 (Ev.eq rfl)))), by omega, by omega, S3⟩
 ·refine ⟨u, v, F, H, p1, s1, ?_, hF, hH, S1⟩
  unfold spec_l27Draw.f
  exact Ev.bind E1 (Ev.bind E2 (Ev.neg cf (Ev.eq rfl)))
end Go.Proofs.YtokpepaoneiepaaGreatDoor.PL
end
