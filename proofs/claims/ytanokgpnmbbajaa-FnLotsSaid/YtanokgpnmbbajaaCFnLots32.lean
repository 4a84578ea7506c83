-- Gathered by this session's program wip/tool/shake.py out of its own texts and of what the kit's print and the session's patches of it wrote for this claim.
import Derived.Test.YtanokgpnmbbajaaProg
import Derived.ArgAppend
import Derived.Below
import Derived.BigQuiet
import Derived.Deep.AppendLies
import Derived.Deep.CutBlock
import Derived.Deep.DeepCutAuto
import Derived.Deep.Draws
import Derived.Deep.LoopGhost
import Derived.Deep.OwnRows
import Derived.Deep.QuietTactic
import Derived.Deep.RegionHeld3
import Derived.KernelRfl
import Derived.Laws.BitsLemmas
import Derived.Laws.BytesArg
import Derived.Laws.IdiomCopy
import Derived.Laws.MakeOwn
import Derived.Laws.OwnMore
import Derived.Laws.Rows
import Derived.Laws.Slices
import Derived.Laws.StructEq
import Derived.Lib.AppendStr
import Derived.Lib.ConvBytes
import Derived.Maps.AppendAt
import Derived.OrdersHeld
import Derived.OwnWalk
import Derived.RowKit
import Derived.RowKit3
import Derived.Tactics
import Derived.WalkKit
import Derived.WideLaws
import Derived.Test.YtanokgpnmbbajaaCFnLots23
import Derived.Test.YtanokgpnmbbajaaCFnLots26
import Derived.Test.YtanokgpnmbbajaaCFnLots30
section
namespace Go.Proofs.Ytanokgpnmbbajaa.PF
open Go.RowKit Go.Proofs.YtanokgpnmbbajaaW.PrintWords Go.Proofs.YtanokgpnmbbajaaB
set_option linter.unusedVariables false
set_option linter.unusedSimpArgs false
/-- A source of draws: bytes, a place, a seed. -/
def Src (c : List Int) (at_ seed : Int) : Prop := (∀ y ∈ c, 0 ≤ y ∧ y ≤ 255) ∧ c.length ≤ 1048576 ∧ 0 ≤ at_ ∧ at_ ≤ (c.length : Int) ∧ 0 ≤ seed ∧ seed < 2147483647
theorem tmod_pos {a n : Int} (h : 0 ≤ a) (hn : 0 < n) : 0 ≤ Int.tmod a n ∧ Int.tmod a n < n := ⟨Int.tmod_nonneg n h, Int.tmod_lt_of_pos a hn⟩
theorem byte_at {c : List Int} (h : ∀ y ∈ c, 0 ≤ y ∧ y ≤ 255) (i : Int) : 0 ≤ rd c i ∧ rd c i ≤ 255 := by
  unfold rd
  by_cases hi : i.toNat < c.length
  · exact h _ (getD_mem c 0 _ hi)
  · have e : c.getD i.toNat 0 = 0 := by simp [List.getD, List.getElem?_eq_none (show c.length ≤ i.toNat by omega)]
    rw [e]; omega
theorem spec_l01From_ev {c : List Int} (hc : ∀ y ∈ c, 0 ≤ y ∧ y ≤ 255) (hl : c.length ≤ 1048576) : ∃ seed, Ev (fun k => spec_l01From.f k c) (c, 0, seed) ∧ Src c 0 seed := by
  have key : ∀ d i : Nat, i + d = c.length → ∀ seed : Int, 0 ≤ seed → seed < 2147483647 → ∃ s, Ev (fun k => spec_l01From.l0 k c (i : Int) c 0 seed) (c, 0, s) ∧ 0 ≤ s ∧ s < 2147483647 := by
    intro d
    induction d with
    | zero =>
      intro i hi seed h0 h1
      refine ⟨seed, Ev.succ ?_, h0, h1⟩
      simp only [spec_l01From.l0]
      exact Ev.neg (by omega) (Ev.eq rfl)
    | succ d ih =>
      intro i hi seed h0 h1
      have hb := byte_at hc (i : Int)
      have e1 : wrap64 ((i : Int) + 1) = ((i + 1 : Nat) : Int) := by rw [w64 (by omega) (by omega)]; omega
      have e2 : wrap64 (wrap64 (seed * 71) + wrap64 (rd c (i : Int))) = seed * 71 + rd c (i : Int) := by
        rw [w64 (x := seed * 71) (by omega) (by omega), w64 (x := rd c (i : Int)) (by omega) (by omega), w64 (by omega) (by omega)]
      have ht := tmod_pos (a := seed * 71 + rd c (i : Int)) (n := 2147483647) (by omega) (by omega)
      obtain ⟨s, hs, hs2⟩ := ih (i + 1) (by omega) _ ht.1 ht.2
      by_cases h64 : (i : Int) < 64
      · refine ⟨s, Ev.succ ?_, hs2⟩
        simp only [spec_l01From.l0, e1, e2]
        exact Ev.pos (by omega) (Ev.pos h64 (Ev.pos (by omega) hs))
      · refine ⟨seed, Ev.succ ?_, h0, h1⟩
        simp only [spec_l01From.l0]
        exact Ev.pos (by omega) (Ev.neg h64 (Ev.eq rfl))
  obtain ⟨s, hs, h1, h2⟩ := key c.length 0 (by omega) 88007 (by omega) (by omega)
  refine ⟨s, ?_, hc, hl, by omega, by omega, h1, h2⟩
  unfold spec_l01From.f
  exact hs
theorem spec_l01Next_ok {c : List Int} {p s : Int} (h : Src c p s) (n : Int) : ∃ r p' s', spec_l01Next.f c p s n = some (r, p', s') ∧ Src c p' s' ∧ 0 ≤ r ∧ (r = 0 ∨ r < n) := by
  obtain ⟨hc, hl, h0, h1, hs0, hs1⟩ := h
  unfold spec_l01Next.f
  by_cases hn : n ≤ 1
  · rw [if_pos hn]
    exact ⟨0, p, s, rfl, ⟨hc, hl, h0, h1, hs0, hs1⟩, Int.le_refl 0, .inl rfl⟩
  rw [if_neg hn]
  have es : wrap64 (wrap64 (s * 48271) + 61) = s * 48271 + 61 := by
    rw [w64 (x := s * 48271) (by omega) (by omega), w64 (by omega) (by omega)]
  have ht := tmod_pos (a := s * 48271 + 61) (n := 2147483647) (by omega) (by omega)
  rw [es]
  generalize Int.tmod (s * 48271 + 61) 2147483647 = s' at ht ⊢
  have ex : Int.tdiv s' 31 = s' / 31 := Int.tdiv_eq_ediv_of_nonneg ht.1
  have ew : wrap64 (Int.tdiv s' 31) = s' / 31 := by rw [ex, w64 (by omega) (by omega)]
  rw [ew]
  have hb := byte_at hc p
  have eb : wrap64 (rd c p) = rd c p := w64 (by omega) (by omega)
  have eq : wrap64 (s' / 31 + wrap64 (rd c p)) = s' / 31 + rd c p := by rw [eb, w64 (by omega) (by omega)]
  have ep : wrap64 (p + 1) = p + 1 := w64 (by omega) (by omega)
  have ep2 : wrap64 (p + 1 - 1) = p := by rw [w64 (by omega) (by omega)]; omega
  have t1 := tmod_pos (a := rd c p) (n := n) hb.1 (by omega)
  have t2 := tmod_pos (a := s' / 31 + rd c p) (n := n) (by omega) (by omega)
  have t3 := tmod_pos (a := s' / 31) (n := n) (by omega) (by omega)
  have n0 : ¬ n = 0 := by omega
  by_cases hp : p < (c.length : Int)
  · rw [if_pos hp, if_pos h0, ep, ep2, if_pos h0, if_pos hp, if_neg n0, if_neg n0, eq, eb]
    have hS : Src c (p + 1) s' := ⟨hc, hl, by omega, by omega, ht⟩
    split
    · split
      · exact ⟨_, _, _, rfl, hS, t1.1, .inr t1.2⟩
      · exact ⟨_, _, _, rfl, hS, t2.1, .inr t2.2⟩
    · exact ⟨_, _, _, rfl, hS, t2.1, .inr t2.2⟩
  · rw [if_neg hp, if_neg n0]
    exact ⟨_, _, _, rfl, ⟨hc, hl, h0, h1, ht⟩, t3.1, .inr t3.2⟩
theorem spec_l01Pick_ok {c : List Int} {p s : Int} (h : Src c p s) (l : List Int) (h0 : 1 ≤ l.length) (hl : l.length ≤ 1048576) : ∃ r p' s', spec_l01Pick.f c p s l = some (r, p', s') ∧ Src c p' s' ∧ r ∈ l := by
  obtain ⟨r, p', s', h1, h2, h3, h4⟩ := spec_l01Next_ok h (l.length : Int)
  have hr : r < (l.length : Int) := by omega
  refine ⟨rd l r, p', s', ?_, h2, getD_mem l 0 r.toNat (by omega)⟩
  unfold spec_l01Pick.f
  rw [h1, Option.bind_some]
  simp only
  rw [if_pos h3, if_pos hr]
end Go.Proofs.Ytanokgpnmbbajaa.PF
end
section
namespace Go.Proofs.Ytanokgpnmbbajaa.PF
open Go.RowKit Go.Proofs.YtanokgpnmbbajaaW.PrintWords Go.Proofs.YtanokgpnmbbajaaB
set_option linter.unusedVariables false
set_option linter.unusedSimpArgs false
/-- A lot whose sheets are no more than a stock's may be by one. -/
def mild (x : S43) : Prop := 0 ≤ x.f1 ∧ x.f1 ≤ 1000001
theorem spec_l25Draw_ok {c : List Int} {p s : Int} (h : Src c p s) : ∃ l p' s', Ev (fun k => spec_l25Draw.f k c p s) (l, p', s') ∧ Src c p' s' ∧ l.length ≤ 40 ∧ ∀ x ∈ l, mild x := by
  have l1 : ∀ d : Nat, ∀ (n : Int) (o : List S43) (p s : Int), 0 ≤ n → n = d → d + o.length ≤ 40 → (∀ x ∈ o, mild x) → Src c p s → ∃ l p' s', Ev (fun k => spec_l25Draw.l1 k o n c p s) (l, p', s') ∧ Src c p' s' ∧ l.length ≤ 40 ∧ ∀ x ∈ l, mild x := by
    intro d
    induction d with
    | zero =>
      intro n o p s h0 hn ho hm hS
      refine ⟨o, p, s, Ev.succ ?_, hS, by omega, hm⟩
      simp only [spec_l25Draw.l1]
      exact Ev.neg (by omega) (Ev.eq rfl)
    | succ d ih =>
      intro n o p s h0 hn ho hm hS
      have e1 : wrap64 (n - 1) = n - 1 := w64 (by omega) (by omega)
      obtain ⟨l, p', s', hE, hS', hl, hml⟩ := ih (n - 1) (o ++ [(⟨Int.tmod n 3, n, 0⟩ : S43)]) p s (by omega) (by omega) (by simp; omega)
        (fun x hx => (List.mem_append.1 hx).elim (hm x) (fun hx => by rw [List.mem_singleton.1 hx]; exact ⟨by show 0 ≤ n; omega, by show n ≤ 1000001; omega⟩)) hS
      refine ⟨l, p', s', Ev.succ ?_, hS', hl, hml⟩
      simp only [spec_l25Draw.l1, e1]
      exact Ev.pos (by omega) (Ev.pos (by omega) hE)
  have l0 : ∀ d : Nat, ∀ (n day : Int) (o : List S43) (p s : Int), 0 ≤ n → n = d → d + o.length ≤ 20 → (∀ x ∈ o, mild x) → Src c p s → ∃ l p' s', Ev (fun k => spec_l25Draw.l0 k o day n c p s) (l, p', s') ∧ Src c p' s' ∧ l.length ≤ 40 ∧ ∀ x ∈ l, mild x := by
    intro d
    induction d with
    | zero =>
      intro n day o p s h0 hn ho hm hS
      obtain ⟨r, p1, s1, e1, hS1, hr0, hr1⟩ := spec_l01Next_ok hS 40
      by_cases c0 : r = 0
      · obtain ⟨a, p2, s2, e2, hS2, ha⟩ := spec_l01Pick_ok hS1 [(-1), 0, 20] (by simp) (by simp)
        obtain ⟨b, p3, s3, e3, hS3, hb⟩ := spec_l01Pick_ok hS2 [0, 1, 1000000, 1000001] (by simp) (by simp)
        obtain ⟨g, p4, s4, e4, hS4, hg⟩ := spec_l01Pick_ok hS3 [day, wrap64 (day - 9), 100000] (by simp) (by simp)
        refine ⟨o ++ [(⟨a, b, g⟩ : S43)], p4, s4, Ev.succ ?_, hS4, ?_, ?_⟩
        · simp only [spec_l25Draw.l0]
          exact Ev.neg (by omega) (Ev.bind (Ev.eq e1) (Ev.pos c0 (Ev.bind (Ev.eq e2) (Ev.bind (Ev.eq e3) (Ev.bind (Ev.eq e4) (Ev.pos (by omega) (Ev.eq rfl)))))))
        · simp; omega
        · intro x hx
          rcases List.mem_append.1 hx with hx | hx
          · exact hm x hx
          · rw [List.mem_singleton.1 hx]
            simp only [List.mem_cons, List.not_mem_nil, or_false] at hb
            unfold mild
            simp only
            omega
      · by_cases c1 : r = 1
        · obtain ⟨q, p2, s2, e2, hS2, hq0, hq1⟩ := spec_l01Next_ok hS1 2
          have ew : wrap64 (30 + q) = 30 + q := w64 (by omega) (by omega)
          obtain ⟨l, p3, s3, hE, hS3, hl, hml⟩ := l1 (30 + q).toNat (30 + q) [] p2 s2 (by omega) (by omega) (by simp; omega) (fun x hx => by cases hx) hS2
          refine ⟨l, p3, s3, Ev.succ ?_, hS3, hl, hml⟩
          simp only [spec_l25Draw.l0]
          refine Ev.neg (by omega) (Ev.bind (Ev.eq e1) (Ev.neg c0 (Ev.pos c1 (Ev.bind (Ev.eq e2) ?_))))
          simp only
          rw [ew]
          exact hE
        · refine ⟨o, p1, s1, Ev.succ ?_, hS1, by omega, hm⟩
          simp only [spec_l25Draw.l0]
          exact Ev.neg (by omega) (Ev.bind (Ev.eq e1) (Ev.neg c0 (Ev.neg c1 (Ev.eq rfl))))
    | succ d ih =>
      intro n day o p s h0 hn ho hm hS
      obtain ⟨a, p1, s1, e1, hS1, ha0, ha1⟩ := spec_l01Next_ok hS 3
      obtain ⟨b, p2, s2, e2, hS2, hb0, hb1⟩ := spec_l01Next_ok hS1 60
      obtain ⟨g, p3, s3, e3, hS3, hg0, hg1⟩ := spec_l01Next_ok hS2 3
      have ew : wrap64 (1 + b) = 1 + b := w64 (by omega) (by omega)
      have en : wrap64 (n - 1) = n - 1 := w64 (by omega) (by omega)
      obtain ⟨l, p4, s4, hE, hS4, hl, hml⟩ := ih (n - 1) (wrap64 (day + g)) (o ++ [(⟨a, wrap64 (1 + b), day⟩ : S43)]) p3 s3 (by omega) (by omega) (by simp; omega)
        (fun x hx => (List.mem_append.1 hx).elim (hm x) (fun hx => by rw [List.mem_singleton.1 hx, ew]; exact ⟨by show 0 ≤ 1 + b; omega, by show 1 + b ≤ 1000001; omega⟩)) hS3
      refine ⟨l, p4, s4, Ev.succ ?_, hS4, hl, hml⟩
      simp only [spec_l25Draw.l0, en]
      exact Ev.pos (by omega) (Ev.bind (Ev.eq e1) (Ev.bind (Ev.eq e2) (Ev.pos (by omega) (Ev.bind (Ev.eq e3) hE))))
  obtain ⟨a, p1, s1, e1, hS1, ha0, ha1⟩ := spec_l01Next_ok h 5
  obtain ⟨b, p2, s2, e2, hS2, hb0, hb1⟩ := spec_l01Next_ok hS1 8
  obtain ⟨l, p3, s3, hE, hS3, hl, hml⟩ := l0 b.toNat b a [] p2 s2 hb0 (by omega) (by simp; omega) (fun x hx => by cases hx) hS2
  refine ⟨l, p3, s3, ?_, hS3, hl, hml⟩
  unfold spec_l25Draw.f
  exact Ev.bind (Ev.eq e1) (Ev.bind (Ev.eq e2) hE)
theorem spec_l25DrawKind_ok {c : List Int} {p s : Int} (h : Src c p s) : ∃ r p' s', spec_l25DrawKind.f c p s = some (r, p', s') ∧ Src c p' s' := by
  obtain ⟨a, p1, s1, e1, hS1, ha0, ha1⟩ := spec_l01Next_ok h 20
  unfold spec_l25DrawKind.f
  rw [e1, Option.bind_some]
  simp only
  by_cases c0 : a = 0
  · obtain ⟨b, p2, s2, e2, hS2, hb⟩ := spec_l01Pick_ok hS1 [(-1), 19, 20] (by simp) (by simp)
    rw [if_pos c0, e2]
    exact ⟨_, _, _, rfl, hS2⟩
  · obtain ⟨b, p2, s2, e2, hS2, hb⟩ := spec_l01Next_ok hS1 3
    rw [if_neg c0, e2]
    exact ⟨_, _, _, rfl, hS2⟩
end Go.Proofs.Ytanokgpnmbbajaa.PF
end
