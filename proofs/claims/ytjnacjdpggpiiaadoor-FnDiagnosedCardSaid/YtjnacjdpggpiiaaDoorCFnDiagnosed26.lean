-- Gathered by this session's program wip/tool/shake.py out of its own texts and of what the kit's print and the session's patches of it wrote for this claim.
import Derived.Test.YtjnacjdpggpiiaaDoorCFnDiagnosed6
import Derived.Test.YtjnacjdpggpiiaaDoorCFnDiagnosed24
section
namespace Go.Proofs.YtjnacjdpggpiiaaDoor.PU
open Go.RowKit Go.Proofs.YtjnacjdpggpiiaaDoorW.PrintWords Go.Proofs.YtjnacjdpggpiiaaDoorB
set_option linter.unusedVariables false
set_option linter.unusedSimpArgs false
/-- A source of draws: bytes, a place, a seed. -/
def Src (c : List Int) (at_ seed : Int) : Prop := (∀ y ∈ c, 0 ≤ y ∧ y ≤ 255) ∧ c.length ≤ 1048576 ∧ 0 ≤ at_ ∧ at_ ≤ (c.length : Int) ∧ 0 ≤ seed ∧ seed < 2147483647
theorem tmod_pos {a n : Int} (h : 0 ≤ a) (hn : 0 < n) : 0 ≤ Int.tmod a n ∧ Int.tmod a n < n := ⟨Int.tmod_nonneg n h, Int.tmod_lt_of_pos a hn⟩
theorem byte_at {c : List Int} (h : ∀ y ∈ c, 0 ≤ y ∧ y ≤ 255) (i : Int) : 0 ≤ rd c i ∧ rd c i ≤ 255 := by
  unfold rd
  by_cases hi : i.toNat < c.length
  · exact h _ (getD_mem c 0 _ hi)
  · have e : c.getD i.toNat 0 = 0 := by simp [List.getD, List.getElem?_eq_none (show c.length ≤ i.toNat by omega)]
    rw [e]; omega
theorem spec_l01From_ev {c : List Int} (hc : ∀ y ∈ c, 0 ≤ y ∧ y ≤ 255) (hl : c.length ≤ 1048576) : ∃ seed, Ev (fun k => spec_l01From.f k c) (c, 0, seed) ∧ Src c 0 seed := by
  have key : ∀ d i : Nat, i + d = c.length → ∀ seed : Int, 0 ≤ seed → seed < 2147483647 → ∃ s, Ev (fun k => spec_l01From.l0 k c (i : Int) c 0 seed) (c, 0, s) ∧ 0 ≤ s ∧ s < 2147483647 := by
    intro d
    induction d with
    | zero =>
      intro i hi seed h0 h1
      refine ⟨seed, Ev.succ ?_, h0, h1⟩
      simp only [spec_l01From.l0]
      exact Ev.neg (by omega) (Ev.eq rfl)
    | succ d ih =>
      intro i hi seed h0 h1
      have hb := byte_at hc (i : Int)
      have e1 : wrap64 ((i : Int) + 1) = ((i + 1 : Nat) : Int) := by rw [w64 (by omega) (by omega)]; omega
      have e2 : wrap64 (wrap64 (seed * 71) + wrap64 (rd c (i : Int))) = seed * 71 + rd c (i : Int) := by
        rw [w64 (x := seed * 71) (by omega) (by omega), w64 (x := rd c (i : Int)) (by omega) (by omega), w64 (by omega) (by omega)]
      have ht := tmod_pos (a := seed * 71 + rd c (i : Int)) (n := 2147483647) (by omega) (by omega)
      obtain ⟨s, hs, hs2⟩ := ih (i + 1) (by omega) _ ht.1 ht.2
      by_cases h64 : (i : Int) < 64
      · refine ⟨s, Ev.succ ?_, hs2⟩
        simp only [spec_l01From.l0, e1, e2]
        exact Ev.pos (by omega) (Ev.pos h64 (Ev.pos (by omega) hs))
      · refine ⟨seed, Ev.succ ?_, h0, h1⟩
        simp only [spec_l01From.l0]
        exact Ev.pos (by omega) (Ev.neg h64 (Ev.eq rfl))
  obtain ⟨s, hs, h1, h2⟩ := key c.length 0 (by omega) 88007 (by omega) (by omega)
  refine ⟨s, ?_, hc, hl, by omega, by omega, h1, h2⟩
  unfold spec_l01From.f
  exact hs
theorem spec_l01Next_ok {c : List Int} {p s : Int} (h : Src c p s) (n : Int) : ∃ r p' s', spec_l01Next.f c p s n = some (r, p', s') ∧ Src c p' s' ∧ 0 ≤ r ∧ (r = 0 ∨ r < n) := by
  obtain ⟨hc, hl, h0, h1, hs0, hs1⟩ := h
  unfold spec_l01Next.f
  by_cases hn : n ≤ 1
  · rw [if_pos hn]
    exact ⟨0, p, s, rfl, ⟨hc, hl, h0, h1, hs0, hs1⟩, Int.le_refl 0, .inl rfl⟩
  rw [if_neg hn]
  have es : wrap64 (wrap64 (s * 48271) + 61) = s * 48271 + 61 := by
    rw [w64 (x := s * 48271) (by omega) (by omega), w64 (by omega) (by omega)]
  have ht := tmod_pos (a := s * 48271 + 61) (n := 2147483647) (by omega) (by omega)
  rw [es]
  generalize Int.tmod (s * 48271 + 61) 2147483647 = s' at ht ⊢
  have ex : Int.tdiv s' 31 = s' / 31 := Int.tdiv_eq_ediv_of_nonneg ht.1
  have ew : wrap64 (Int.tdiv s' 31) = s' / 31 := by rw [ex, w64 (by omega) (by omega)]
  rw [ew]
  have hb := byte_at hc p
  have eb : wrap64 (rd c p) = rd c p := w64 (by omega) (by omega)
  have eq : wrap64 (s' / 31 + wrap64 (rd c p)) = s' / 31 + rd c p := by rw [eb, w64 (by omega) (by omega)]
  have ep : wrap64 (p + 1) = p + 1 := w64 (by omega) (by omega)
  have ep2 : wrap64 (p + 1 - 1) = p := by rw [w64 (by omega) (by omega)]; omega
  have t1 := tmod_pos (a := rd c p) (n := n) hb.1 (by omega)
  have t2 := tmod_pos (a := s' / 31 + rd c p) (n := n) (by omega) (by omega)
  have t3 := tmod_pos (a := s' / 31) (n := n) (by omega) (by omega)
  have n0 : ¬ n = 0 := by omega
  by_cases hp : p < (c.length : Int)
  · rw [if_pos hp, if_pos h0, ep, ep2, if_pos h0, if_pos hp, if_neg n0, if_neg n0, eq, eb]
    have hS : Src c (p + 1) s' := ⟨hc, hl, by omega, by omega, ht⟩
    split
    · split
      · exact ⟨_, _, _, rfl, hS, t1.1, .inr t1.2⟩
      · exact ⟨_, _, _, rfl, hS, t2.1, .inr t2.2⟩
    · exact ⟨_, _, _, rfl, hS, t2.1, .inr t2.2⟩
  · rw [if_neg hp, if_neg n0]
    exact ⟨_, _, _, rfl, ⟨hc, hl, h0, h1, ht⟩, t3.1, .inr t3.2⟩
theorem spec_l01Pick_ok {c : List Int} {p s : Int} (h : Src c p s) (l : List Int) (h0 : 1 ≤ l.length) (hl : l.length ≤ 1048576) : ∃ r p' s', spec_l01Pick.f c p s l = some (r, p', s') ∧ Src c p' s' ∧ r ∈ l := by
  obtain ⟨r, p', s', h1, h2, h3, h4⟩ := spec_l01Next_ok h (l.length : Int)
  have hr : r < (l.length : Int) := by omega
  refine ⟨rd l r, p', s', ?_, h2, getD_mem l 0 r.toNat (by omega)⟩
  unfold spec_l01Pick.f
  rw [h1, Option.bind_some]
  simp only
  rw [if_pos h3, if_pos hr]
end Go.Proofs.YtjnacjdpggpiiaaDoor.PU
end
