-- Gathered by this session's program wip/tool/shake.py out of its own texts and of what the kit's print and the session's patches of it wrote for this claim.
import Derived.Test.YtjnacjdpggpiiaaDoorCFnDiagnosed6
import Derived.Test.YtjnacjdpggpiiaaDoorCFnDiagnosed21
import Derived.Test.YtjnacjdpggpiiaaDoorCFnDiagnosed25
import Derived.Test.YtjnacjdpggpiiaaDoorCFnDiagnosed26
section
namespace Go.Proofs.YtjnacjdpggpiiaaDoor.PU
open Go.RowKit Go.Proofs.YtjnacjdpggpiiaaDoorW.PrintWords Go.Proofs.YtjnacjdpggpiiaaDoorB
set_option linter.unusedVariables false
set_option linter.unusedSimpArgs false
/-- A drawn block: few signatures, all small. -/
def small (n : Nat) (l : List Int) : Prop := l.length ≤ n ∧ ∀ x ∈ l, -12 ≤ x ∧ x ≤ 12
theorem small_append {m n : Nat} {a b : List Int} (ha : small m a) (hb : small n b) : small (m + n) (a ++ b) := by
  refine ⟨by rw [List.length_append]; have := ha.1; have := hb.1; omega, fun x hx => ?_⟩
  rcases List.mem_append.1 hx with hx | hx
  · exact ha.2 x hx
  · exact hb.2 x hx
theorem spec_l14Part_ok {a b c : Int} (ha : 0 ≤ a ∧ a ≤ 6) (hc : 0 ≤ c ∧ c ≤ 6) : ∃ l, spec_l14Part.f a b c = some l ∧ small 2 l := by
  have e1 : wrap64 (a + 1) = a + 1 := w64 (by omega) (by omega)
  have e2 : wrap64 (-(a + 1)) = -(a + 1) := w64 (by omega) (by omega)
  have e3 : wrap64 (c + 1) = c + 1 := w64 (by omega) (by omega)
  unfold spec_l14Part.f
  rw [e1, e2, e3]
  split
  · exact ⟨_, rfl, by simp, fun x hx => by cases hx⟩
  · split
    · exact ⟨_, rfl, by simp, fun x hx => by simp at hx; omega⟩
    · split
      · exact ⟨_, rfl, by simp, fun x hx => by simp at hx; omega⟩
      · split
        · exact ⟨_, rfl, by simp, fun x hx => by simp at hx; omega⟩
        · exact ⟨_, rfl, by simp, fun x hx => by simp at hx; omega⟩
theorem spec_l14DrawBlock_ok {c : List Int} {p s : Int} (h : Src c p s) : ∃ n l p' s', Ev (fun k => spec_l14DrawBlock.f k c p s) (n, l, p', s') ∧ Src c p' s' ∧ small 24 l := by
  have key : ∀ (n : Int), 1 ≤ n → n ≤ 6 → ∀ d i : Nat, (i : Int) + d = n → ∀ (o : List Int) (p s : Int), small (2 * i) o → Src c p s →
      ∃ n' l p' s', Ev (fun k => spec_l14DrawBlock.l0 k n o (i : Int) c p s) (n', l, p', s') ∧ Src c p' s' ∧ small 24 l := by
    intro n hn1 hn6 d
    induction d with
    | zero =>
      intro i hi o p s ho hS
      have hlt : ¬ (i : Int) < n := by omega
      have hi6 : i ≤ 6 := by omega
      have ho12 : small 12 o := ⟨by have := ho.1; omega, ho.2⟩
      obtain ⟨r, p1, s1, e1, S1, hr0, hr1⟩ := spec_l01Next_ok hS 20
      have w1 : wrap64 (n + 1) = n + 1 := w64 (by omega) (by omega)
      have w2 : wrap64 (-n) = -n := w64 (by omega) (by omega)
      have w3 : wrap64 (-n - 1) = -n - 1 := w64 (by omega) (by omega)
      by_cases c0 : r = 0
      · obtain ⟨q, p2, s2, e2, S2, hq⟩ := spec_l01Pick_ok S1 [0, n, wrap64 (n + 1), wrap64 (-n), wrap64 ((wrap64 (-n)) - 1)] (by simp) (by simp)
        have hqs : small 1 [q] := by
          refine ⟨by simp, fun x hx => ?_⟩
          rw [List.mem_singleton.1 hx]
          rw [w1, w2, w3] at hq
          simp only [List.mem_cons, List.not_mem_nil, or_false] at hq
          omega
        have hs := small_append ho12 hqs
        refine ⟨n, o ++ [q], p2, s2, Ev.succ ?_, S2, ⟨by have := hs.1; omega, hs.2⟩⟩
        simp only [spec_l14DrawBlock.l0]
        have := ho12.1
        exact Ev.neg hlt (Ev.bind (Ev.eq e1) (Ev.pos c0 (Ev.bind (Ev.eq e2) (Ev.pos (by omega) (Ev.eq rfl)))))
      · by_cases c1 : r = 1
        · have hs := small_append ho12 ho12
          refine ⟨n, o ++ o, p1, s1, Ev.succ ?_, S1, ⟨by have := hs.1; omega, hs.2⟩⟩
          simp only [spec_l14DrawBlock.l0]
          have := ho12.1
          exact Ev.neg hlt (Ev.bind (Ev.eq e1) (Ev.neg c0 (Ev.pos c1 (Ev.pos (by omega) (Ev.eq rfl)))))
        · by_cases c2 : r = 2
          · obtain ⟨q, p2, s2, e2, S2, hq⟩ := spec_l01Pick_ok S1 [0, wrap64 (n + 1), 13] (by simp) (by simp)
            refine ⟨q, o, p2, s2, Ev.succ ?_, S2, ⟨by have := ho12.1; omega, ho12.2⟩⟩
            simp only [spec_l14DrawBlock.l0]
            exact Ev.neg hlt (Ev.bind (Ev.eq e1) (Ev.neg c0 (Ev.neg c1 (Ev.pos c2 (Ev.bind (Ev.eq e2) (Ev.eq rfl))))))
          · refine ⟨n, o, p1, s1, Ev.succ ?_, S1, ⟨by have := ho12.1; omega, ho12.2⟩⟩
            simp only [spec_l14DrawBlock.l0]
            exact Ev.neg hlt (Ev.bind (Ev.eq e1) (Ev.neg c0 (Ev.neg c1 (Ev.neg c2 (Ev.eq rfl)))))
    | succ d ih =>
      intro i hi o p s ho hS
      obtain ⟨r, p1, s1, e1, S1, hr0, hr1⟩ := spec_l01Next_ok hS 10
      obtain ⟨q, p2, s2, e2, S2, hq0, hq1⟩ := spec_l01Next_ok S1 n
      obtain ⟨t, e3, ht⟩ := spec_l14Part_ok (a := (i : Int)) (b := mx 0 (wrap64 (r - 5))) (c := q) (by omega) (by omega)
      have ew : wrap64 ((i : Int) + 1) = ((i + 1 : Nat) : Int) := by rw [w64 (by omega) (by omega)]; omega
      have hs := small_append ho ht
      obtain ⟨n', l, p', s', E, S', hl⟩ := ih (i + 1) (by omega) (o ++ t) p2 s2 ⟨by have := hs.1; omega, hs.2⟩ S2
      refine ⟨n', l, p', s', Ev.succ ?_, S', hl⟩
      simp only [spec_l14DrawBlock.l0, ew]
      have h1 := ho.1
      have h2 := ht.1
      exact Ev.pos (by omega) (Ev.bind (Ev.eq e1) (Ev.bind (Ev.eq e2) (Ev.bind (Ev.eq e3) (Ev.pos (by omega) E))))
  obtain ⟨r, p1, s1, e1, S1, hr0, hr1⟩ := spec_l01Next_ok h 6
  have ew : wrap64 (1 + r) = 1 + r := w64 (by omega) (by omega)
  obtain ⟨n', l, p', s', E, S', hl⟩ := key (1 + r) (by omega) (by omega) (1 + r).toNat 0 (by omega) [] p1 s1 ⟨by simp, fun x hx => by cases hx⟩ S1
  refine ⟨n', l, p', s', ?_, S', hl⟩
  unfold spec_l14DrawBlock.f
  refine Ev.bind (Ev.eq e1) ?_
  simp only
  rw [ew]
  exact E
theorem spec_l28DrawBlock_ok {c : List Int} {p s : Int} (h : Src c p s) : ∃ n u l p' s', Ev (fun k => spec_l28DrawBlock.f k c p s) (n, u, l, p', s') ∧ Src c p' s' ∧ small 24 l := by
  obtain ⟨n, l, p1, s1, E1, S1, hl⟩ := spec_l14DrawBlock_ok h
  obtain ⟨u, p2, s2, e2, S2, hu⟩ := spec_l01Pick_ok S1 [4, 4, 8, 16] (by simp) (by simp)
  obtain ⟨r, p3, s3, e3, S3, hr0, hr1⟩ := spec_l01Next_ok S2 30
  by_cases c0 : r = 0
  · obtain ⟨v, p4, s4, e4, S4, hv⟩ := spec_l01Pick_ok S3 [0, 5, 256] (by simp) (by simp)
    refine ⟨n, v, l, p4, s4, ?_, S4, hl⟩
    unfold spec_l28DrawBlock.f
    exact Ev.bind E1 (Ev.bind (Ev.eq e2) (Ev.bind (Ev.eq e3) (Ev.pos c0 (Ev.bind (Ev.eq e4) (Ev.eq rfl)))))
  · refine ⟨n, u, l, p3, s3, ?_, S3, hl⟩
    unfold spec_l28DrawBlock.f
    exact Ev.bind E1 (Ev.bind (Ev.eq e2) (Ev.bind (Ev.eq e3) (Ev.neg c0 (Ev.eq rfl))))
theorem spec_l28DrawPages_j0 {c : List Int} (n u : Int) (l : List Int) (hl : l.length ≤ 100000) {p s : Int} (h : Src c p s) : ∃ l' p' s', Ev (fun k => spec_l28DrawPages.j0 k n u l c p s) (n, u, l', p', s') ∧ l'.length ≤ 100000 := by
  by_cases h0 : (l.length : Int) > 0
  · obtain ⟨r, p1, s1, e1, S1, hr0, hr1⟩ := spec_l01Next_ok h (l.length : Int)
    obtain ⟨q, p2, s2, e2, S2, hq0, hq1⟩ := spec_l01Next_ok S1 16
    by_cases c0 : q = 0
    · obtain ⟨v, p3, s3, e3, S3, hv⟩ := spec_l01Pick_ok S2 [0, wrap64 (-(rd l r)), wrap64 ((rd l r) + 1)] (by simp) (by simp)
      refine ⟨l.set r.toNat v, p3, s3, Ev.succ ?_, by simpa using hl⟩
      simp only [spec_l28DrawPages.j0]
      exact Ev.pos h0 (Ev.bind (Ev.eq e1) (Ev.bind (Ev.eq e2) (Ev.pos c0 (Ev.pos hr0 (Ev.pos (by omega) (Ev.bind (Ev.eq e3) (Ev.eq rfl)))))))
    · by_cases c1 : q = 1
      · refine ⟨l.take r.toNat, p2, s2, Ev.succ ?_, by rw [List.length_take]; omega⟩
        simp only [spec_l28DrawPages.j0]
        exact Ev.pos h0 (Ev.bind (Ev.eq e1) (Ev.bind (Ev.eq e2) (Ev.neg c0 (Ev.pos c1 (Ev.pos hr0 (Ev.pos (by omega) (Ev.eq rfl)))))))
      · refine ⟨l, p2, s2, Ev.succ ?_, hl⟩
        simp only [spec_l28DrawPages.j0]
        exact Ev.pos h0 (Ev.bind (Ev.eq e1) (Ev.bind (Ev.eq e2) (Ev.neg c0 (Ev.neg c1 (Ev.eq rfl)))))
  · refine ⟨l, p, s, Ev.succ ?_, hl⟩
    simp only [spec_l28DrawPages.j0]
    exact Ev.neg h0 (Ev.eq rfl)
theorem spec_DrawDiagnosePages_ok {c : List Int} (hc : ∀ y ∈ c, 0 ≤ y ∧ y ≤ 255) (hl : c.length ≤ 1048576) : ∃ n u l, Ev (fun k => spec_DrawDiagnosePages.f k c) (n, u, l) ∧ l.length ≤ 100000 := by
  obtain ⟨s0, E0, S0⟩ := spec_l01From_ev hc hl
  obtain ⟨n, u, l, p1, s1, E1, S1, h1⟩ := spec_l28DrawBlock_ok S0
  by_cases hu : unitOk u = true
  · have h4 := unitOk_iff hu
    have hlen := allPages_length u l
    have hb : l.length * u.toNat ≤ 24 * 128 := Nat.mul_le_mul h1.1 (by omega)
    have hall : (allPages u l).length ≤ 100000 := by rw [hlen]; exact Nat.le_trans hb (by decide)
    obtain ⟨l', p', s', E2, h2⟩ := spec_l28DrawPages_j0 n u (allPages u l) hall S1
    refine ⟨n, u, l', ?_, h2⟩
    unfold spec_DrawDiagnosePages.f
    refine Ev.bind E0 (Ev.bind (a := (n, u, l', p', s')) ?_ (Ev.eq rfl))
    unfold spec_l28DrawPages.f
    exact Ev.bind E1 (Ev.bind (spec_IsUnit_ev u) (Ev.pos hu (Ev.bind (spec_l28All_ev h4 h1.2 h1.1) E2)))
  · obtain ⟨l', p', s', E2, h2⟩ := spec_l28DrawPages_j0 n u [] (by simp) S1
    refine ⟨n, u, l', ?_, h2⟩
    unfold spec_DrawDiagnosePages.f
    refine Ev.bind E0 (Ev.bind (a := (n, u, l', p', s')) ?_ (Ev.eq rfl))
    unfold spec_l28DrawPages.f
    exact Ev.bind E1 (Ev.bind (spec_IsUnit_ev u) (Ev.neg hu E2))
theorem likeInts_refl {l : List Int} (hl : l.length ≤ 9223372036854775806) : Ev (fun k => laws_likeInts.f k l l) true := by
  have key : ∀ d i, i + d = l.length → Ev (fun k => laws_likeInts.l0 k l l (i : Int)) true := by
    intro d
    induction d with
    | zero =>
      intro i hi
      refine Ev.succ ?_
      simp only [laws_likeInts.l0]
      exact Ev.neg (by omega) (Ev.eq rfl)
    | succ d ih =>
      intro i hi
      have e1 : wrap64 ((i : Int) + 1) = ((i + 1 : Nat) : Int) := by rw [w64 (by omega) (by omega)]; omega
      refine Ev.succ ?_
      simp only [laws_likeInts.l0, e1]
      exact Ev.pos (by omega) (Ev.pos (by omega) (Ev.pos (by omega) (Ev.pos (by trivial) (ih (i + 1) (by omega)))))
  unfold laws_likeInts.f
  exact Ev.pos rfl (key l.length 0 (by omega))
end Go.Proofs.YtjnacjdpggpiiaaDoor.PU
end
