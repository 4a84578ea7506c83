import Derived.Test.YtjfffjklgpookaaGreatDoorCFnJobs13
import Derived.Test.YtjfffjklgpookaaGreatDoorCFnJobs28
set_option linter.unusedVariables false
set_option linter.unusedSimpArgs false
section
namespace Go.Proofs.YtjfffjklgpookaaGreatDoor.PJ
open Go.RowKit Go.Proofs.YtjfffjklgpookaaGreatDoorW.PrintWords Go.Proofs.YtjfffjklgpookaaGreatDoorB
def Src (c : List Int) (at_ seed : Int) : Prop := (∀ y ∈ c, 0 ≤ y ∧ y ≤ 255) ∧ c.length ≤ 1048576 ∧ 0 ≤ at_ ∧ at_ ≤ (c.length : Int) ∧ 0 ≤ seed ∧ seed < 2147483647
theorem tmod_pos {a n : Int} (h : 0 ≤ a) (hn : 0 < n) : 0 ≤ Int.tmod a n ∧ Int.tmod a n < n := ⟨Int.tmod_nonneg n h, Int.tmod_lt_of_pos a hn⟩
theorem byte_at {c : List Int} (h : ∀ y ∈ c, 0 ≤ y ∧ y ≤ 255) (i : Int) : 0 ≤ rd c i ∧ rd c i ≤ 255 := by
 unfold rd
 by_cases hi : i.toNat < c.length
 ·exact h _ (getD_mem c 0 _ hi)
 ·have e : c.getD i.toNat 0 = 0 := by simp [List.getD, List.getElem?_eq_none (show c.length ≤ i.toNat by omega)]
  rw [e]; omega
theorem spec_l01From_ev {c : List Int} (hc : ∀ y ∈ c, 0 ≤ y ∧ y ≤ 255) (hl : c.length ≤ 1048576) : ∃ seed, Ev (fun k => spec_l01From.f k c) (c, 0, seed) ∧ Src c 0 seed := by
  have key : ∀ d i : Nat, i + d = c.length → ∀ seed : Int, 0 ≤ seed → seed < 2147483647 → ∃ s, Ev (fun k => spec_l01From.l0 k c (i : Int) c 0 seed) (c, 0, s) ∧ 0 ≤ s ∧ s < 2147483647 := by
    intro d
    induction d with
    | zero =>
      intro i hi seed h0 h1
      refine ⟨seed, Ev.succ ?_, h0, h1⟩
      simp only [spec_l01From.l0]
      exact Ev.neg (by omega) (Ev.eq rfl)
    | succ d ih =>
      intro i hi seed h0 h1
      have hb := byte_at hc (i : Int)
      have e1 : wrap64 ((i : Int) + 1) = ((i + 1 : Nat) : Int) := by rw [w64 (by omega) (by omega)]; omega
      have e2 : wrap64 (wrap64 (seed * 71) + wrap64 (rd c (i : Int))) = seed * 71 + rd c (i : Int) := by
        rw [w64 (x := seed * 71) (by omega) (by omega), w64 (x := rd c (i : Int)) (by omega) (by omega), w64 (by omega) (by omega)]
      have ht := tmod_pos (a := seed * 71 + rd c (i : Int)) (n := 2147483647) (by omega) (by omega)
      obtain ⟨s, hs, hs2⟩ := ih (i + 1) (by omega) _ ht.1 ht.2
      by_cases h64 : (i : Int) < 64
      · refine ⟨s, Ev.succ ?_, hs2⟩
        simp only [spec_l01From.l0, e1, e2]
        exact Ev.pos (by omega) (Ev.pos h64 (Ev.pos (by omega) hs))
      · refine ⟨seed, Ev.succ ?_, h0, h1⟩
        simp only [spec_l01From.l0]
        exact Ev.pos (by omega) (Ev.neg h64 (Ev.eq rfl))
  obtain ⟨s, hs, h1, h2⟩ := key c.length 0 (by omega) 88007 (by omega) (by omega)
  refine ⟨s, ?_, hc, hl, by omega, by omega, h1, h2⟩
  unfold spec_l01From.f
  exact hs
theorem spec_l01Next_ok {c : List Int} {p s : Int} (h : Src c p s) (n : Int) : ∃ r p' s', spec_l01Next.f c p s n = some (r, p', s') ∧ Src c p' s' ∧ 0 ≤ r ∧ (r = 0 ∨ r < n) := by
 obtain ⟨hc, hl, h0, h1, hs0, hs1⟩ := h
 unfold spec_l01Next.f
 by_cases hn : n ≤ 1
 ·rw [if_pos hn]
  exact ⟨0, p, s, rfl, ⟨hc, hl, h0, h1, hs0, hs1⟩, Int.le_refl 0, .inl rfl⟩
 rw [if_neg hn]
 have es : wrap64 (wrap64 (s * 48271) + 61) = s * 48271 + 61 := by
  rw [w64 (x := s * 48271) (by omega) (by omega), w64 (by omega) (by omega)]
 have ht := tmod_pos (a := s * 48271 + 61) (n := 2147483647) (by omega) (by omega)
 rw [es]
 generalize Int.tmod (s * 48271 + 61) 2147483647 = s' at ht ⊢
 have ex : Int.tdiv s' 31 = s' / 31 := Int.tdiv_eq_ediv_of_nonneg ht.1
 have ew : wrap64 (Int.tdiv s' 31) = s' / 31 := by rw [ex, w64 (by omega) (by omega)]
 rw [ew]
 have hb := byte_at hc p
 have eb : wrap64 (rd c p) = rd c p := w64 (by omega) (by omega)
 have eq : wrap64 (s' / 31 + wrap64 (rd c p)) = s' / 31 + rd c p := by rw [eb, w64 (by omega) (by omega)]
 have ep : wrap64 (p + 1) = p + 1 := w64 (by omega) (by omega)
 have ep2 : wrap64 (p + 1 - 1) = p := by rw [w64 (by omega) (by omega)]; omega
 have t1 := tmod_pos (a := rd c p) (n := n) hb.1 (by omega)
 have t2 := tmod_pos (a := s' / 31 + rd c p) (n := n) (by omega) (by omega)
 have t3 := tmod_pos (a := s' / 31) (n := n) (by omega) (by omega)
 have n0 : ¬ n = 0 := by omega
 by_cases hp : p < (c.length : Int)
 ·rw [if_pos hp, if_pos h0, ep, ep2, if_pos h0, if_pos hp, if_neg n0, if_neg n0, eq, eb]
  have hS : Src c (p + 1) s' := ⟨hc, hl, by omega, by omega, ht⟩
  split
  ·split
   ·exact ⟨_, _, _, rfl, hS, t1.1, .inr t1.2⟩
   ·exact ⟨_, _, _, rfl, hS, t2.1, .inr t2.2⟩
  ·exact ⟨_, _, _, rfl, hS, t2.1, .inr t2.2⟩
 ·rw [if_neg hp, if_neg n0]
  exact ⟨_, _, _, rfl, ⟨hc, hl, h0, h1, ht⟩, t3.1, .inr t3.2⟩
theorem spec_l01Pick_ok {c : List Int} {p s : Int} (h : Src c p s) (l : List Int) (h0 : 1 ≤ l.length) (hl : l.length ≤ 1048576) : ∃ r p' s', spec_l01Pick.f c p s l = some (r, p', s') ∧ Src c p' s' ∧ r ∈ l := by
 obtain ⟨r, p', s', h1, h2, h3, h4⟩ := spec_l01Next_ok h (l.length : Int)
 have hr : r < (l.length : Int) := by omega
 refine ⟨rd l r, p', s', ?_, h2, getD_mem l 0 r.toNat (by omega)⟩
 unfold spec_l01Pick.f
 rw [h1, Option.bind_some]
 simp only
 rw [if_pos h3, if_pos hr]
theorem spec_l08DrawTrim_ok {c : List Int} {p s : Int} (h : Src c p s) : ∃ a0 a1 a2 a3 p' s', spec_l08DrawTrim.f c p s = some (a0, a1, a2, a3, p', s') ∧ Src c p' s' := by
 obtain ⟨r1, p1, s1, e1, h1, _⟩ := spec_l01Next_ok h 1400
 obtain ⟨r2, p2, s2, e2, h2, _⟩ := spec_l01Next_ok h1 1900
 obtain ⟨r3, p3, s3, e3, h3, _⟩ := spec_l01Pick_ok h2 [0, 30, 50] (by simp) (by simp)
 obtain ⟨r4, p4, s4, e4, h4, _⟩ := spec_l01Pick_ok h3 [0, 60, 100] (by simp) (by simp)
 obtain ⟨r5, p5, s5, e5, h5, _⟩ := spec_l01Next_ok h4 40
 unfold spec_l08DrawTrim.f
 simp only [e1, e2, e3, e4, e5, Option.bind_some]
 by_cases c0 : r5 = 0
 ·obtain ⟨r6, p6, s6, e6, h6, _⟩ := spec_l01Pick_ok h5 [0, 1, 20000, 20001] (by simp) (by simp)
  rw [if_pos c0, e6, Option.bind_some]
  exact ⟨_, _, _, _, _, _, rfl, h6⟩
 rw [if_neg c0]
 obtain ⟨r6, p6, s6, e6, h6, _⟩ := spec_l01Pick_ok h5 [-1, 20000, 20001] (by simp) (by simp)
 by_cases c1 : r5 = 1
 ·rw [if_pos c1, e6, Option.bind_some]
  exact ⟨_, _, _, _, _, _, rfl, h6⟩
 rw [if_neg c1]
 by_cases c2 : r5 = 2
 ·rw [if_pos c2, e6, Option.bind_some]
  exact ⟨_, _, _, _, _, _, rfl, h6⟩
 rw [if_neg c2]
 exact ⟨_, _, _, _, _, _, rfl, h5⟩
theorem spec_l18Draw_ok {c : List Int} {p s : Int} (h : Src c p s) : ∃ a0 a1 p' s', spec_l18Draw.f c p s = some (a0, a1, p', s') ∧ Src c p' s' := by
 obtain ⟨r1, p1, s1, e1, h1, _⟩ := spec_l01Next_ok h 25
 obtain ⟨r2, p2, s2, e2, h2, _⟩ := spec_l01Next_ok h1 25
 obtain ⟨r3, p3, s3, e3, h3, _⟩ := spec_l01Next_ok h2 40
 unfold spec_l18Draw.f
 simp only [e1, e2, e3, Option.bind_some]
 by_cases c0 : r3 = 0
 ·obtain ⟨r6, p6, s6, e6, h6, _⟩ := spec_l01Pick_ok h3 [29, 30, 500, 501] (by simp) (by simp)
  rw [if_pos c0, e6, Option.bind_some]
  exact ⟨_, _, _, _, rfl, h6⟩
 rw [if_neg c0]
 by_cases c1 : r3 = 1
 ·obtain ⟨r6, p6, s6, e6, h6, _⟩ := spec_l01Pick_ok h3 [49, 50, 300, 301] (by simp) (by simp)
  rw [if_pos c1, e6, Option.bind_some]
  exact ⟨_, _, _, _, rfl, h6⟩
 rw [if_neg c1]
 exact ⟨_, _, _, _, rfl, h3⟩
theorem spec_l06DrawUnit_ok {c : List Int} {p s : Int} (h : Src c p s) : ∃ a0 p' s', spec_l06DrawUnit.f c p s = some (a0, p', s') ∧ Src c p' s' := by
 obtain ⟨r1, p1, s1, e1, h1, _⟩ := spec_l01Next_ok h 24
 unfold spec_l06DrawUnit.f
 simp only [e1, Option.bind_some]
 by_cases c0 : r1 = 0
 ·obtain ⟨r6, p6, s6, e6, h6, _⟩ := spec_l01Pick_ok h1 [0, 2, 12, 256, -4] (by simp) (by simp)
  rw [if_pos c0, e6, Option.bind_some]
  exact ⟨_, _, _, rfl, h6⟩
 obtain ⟨r2, p2, s2, e2, h2, hr, hr2⟩ := spec_l01Next_ok h1 6
 rw [if_neg c0, e2, Option.bind_some]
 have hw : IntKind.u64.wrap r2 = r2 := by
  simp only [IntKind.wrap, IntKind.bits, IntKind.signed]
  first | omega | (simp; omega)
 simp only [hw]
 rw [if_pos hr]
 exact ⟨_, _, _, rfl, h2⟩
end Go.Proofs.YtjfffjklgpookaaGreatDoor.PJ
end
