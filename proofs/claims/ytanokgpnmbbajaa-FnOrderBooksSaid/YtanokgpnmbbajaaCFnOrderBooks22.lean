-- Gathered by this session's program wip/tool/shake.py out of its own texts and of what the kit's print and the session's patches of it wrote for this claim.
import Derived.Test.YtanokgpnmbbajaaProg
import Derived.ArgAppend
import Derived.Below
import Derived.BigQuiet
import Derived.Deep.AppendLies
import Derived.Deep.CutBlock
import Derived.Deep.DeepCutAuto
import Derived.Deep.Draws
import Derived.Deep.LoopGhost
import Derived.Deep.OwnRows
import Derived.Deep.QuietTactic
import Derived.Deep.RegionHeld3
import Derived.KernelRfl
import Derived.Laws.BitsLemmas
import Derived.Laws.BytesArg
import Derived.Laws.IdiomCopy
import Derived.Laws.MakeOwn
import Derived.Laws.OwnMore
import Derived.Laws.Rows
import Derived.Laws.Slices
import Derived.Laws.StructEq
import Derived.Lib.AppendStr
import Derived.Lib.ConvBytes
import Derived.Maps.AppendAt
import Derived.OrdersHeld
import Derived.OwnWalk
import Derived.RowKit
import Derived.RowKit3
import Derived.Tactics
import Derived.WalkKit
import Derived.WideLaws
import Derived.Test.YtanokgpnmbbajaaCFnOrderBooks7
import Derived.Test.YtanokgpnmbbajaaCFnOrderBooks14
import Derived.Test.YtanokgpnmbbajaaCFnOrderBooks19
import Derived.Test.YtanokgpnmbbajaaCFnOrderBooks20
section
namespace Go.Proofs.Ytanokgpnmbbajaa.PT
open Go.RowKit Go.Proofs.YtanokgpnmbbajaaW.PrintWords Go.Proofs.YtanokgpnmbbajaaB
set_option linter.unusedVariables false
set_option linter.unusedSimpArgs false
/-- A source of draws: bytes, a place, a seed. -/
def Src (c : List Int) (at_ seed : Int) : Prop := (∀ y ∈ c, 0 ≤ y ∧ y ≤ 255) ∧ c.length ≤ 1048576 ∧ 0 ≤ at_ ∧ at_ ≤ (c.length : Int) ∧ 0 ≤ seed ∧ seed < 2147483647
theorem tmod_pos {a n : Int} (h : 0 ≤ a) (hn : 0 < n) : 0 ≤ Int.tmod a n ∧ Int.tmod a n < n := ⟨Int.tmod_nonneg n h, Int.tmod_lt_of_pos a hn⟩
theorem byte_at {c : List Int} (h : ∀ y ∈ c, 0 ≤ y ∧ y ≤ 255) (i : Int) : 0 ≤ rd c i ∧ rd c i ≤ 255 := by
  unfold rd
  by_cases hi : i.toNat < c.length
  · exact h _ (getD_mem c 0 _ hi)
  · have e : c.getD i.toNat 0 = 0 := by simp [List.getD, List.getElem?_eq_none (show c.length ≤ i.toNat by omega)]
    rw [e]; omega
theorem spec_l01From_ev {c : List Int} (hc : ∀ y ∈ c, 0 ≤ y ∧ y ≤ 255) (hl : c.length ≤ 1048576) : ∃ seed, Ev (fun k => spec_l01From.f k c) (c, 0, seed) ∧ Src c 0 seed := by
  have key : ∀ d i : Nat, i + d = c.length → ∀ seed : Int, 0 ≤ seed → seed < 2147483647 → ∃ s, Ev (fun k => spec_l01From.l0 k c (i : Int) c 0 seed) (c, 0, s) ∧ 0 ≤ s ∧ s < 2147483647 := by
    intro d
    induction d with
    | zero =>
      intro i hi seed h0 h1
      refine ⟨seed, Ev.succ ?_, h0, h1⟩
      simp only [spec_l01From.l0]
      exact Ev.neg (by omega) (Ev.eq rfl)
    | succ d ih =>
      intro i hi seed h0 h1
      have hb := byte_at hc (i : Int)
      have e1 : wrap64 ((i : Int) + 1) = ((i + 1 : Nat) : Int) := by rw [w64 (by omega) (by omega)]; omega
      have e2 : wrap64 (wrap64 (seed * 71) + wrap64 (rd c (i : Int))) = seed * 71 + rd c (i : Int) := by
        rw [w64 (x := seed * 71) (by omega) (by omega), w64 (x := rd c (i : Int)) (by omega) (by omega), w64 (by omega) (by omega)]
      have ht := tmod_pos (a := seed * 71 + rd c (i : Int)) (n := 2147483647) (by omega) (by omega)
      obtain ⟨s, hs, hs2⟩ := ih (i + 1) (by omega) _ ht.1 ht.2
      by_cases h64 : (i : Int) < 64
      · refine ⟨s, Ev.succ ?_, hs2⟩
        simp only [spec_l01From.l0, e1, e2]
        exact Ev.pos (by omega) (Ev.pos h64 (Ev.pos (by omega) hs))
      · refine ⟨seed, Ev.succ ?_, h0, h1⟩
        simp only [spec_l01From.l0]
        exact Ev.pos (by omega) (Ev.neg h64 (Ev.eq rfl))
  obtain ⟨s, hs, h1, h2⟩ := key c.length 0 (by omega) 88007 (by omega) (by omega)
  refine ⟨s, ?_, hc, hl, by omega, by omega, h1, h2⟩
  unfold spec_l01From.f
  exact hs
theorem spec_l01Next_ok {c : List Int} {p s : Int} (h : Src c p s) (n : Int) : ∃ r p' s', spec_l01Next.f c p s n = some (r, p', s') ∧ Src c p' s' ∧ 0 ≤ r ∧ (r = 0 ∨ r < n) := by
  obtain ⟨hc, hl, h0, h1, hs0, hs1⟩ := h
  unfold spec_l01Next.f
  by_cases hn : n ≤ 1
  · rw [if_pos hn]
    exact ⟨0, p, s, rfl, ⟨hc, hl, h0, h1, hs0, hs1⟩, Int.le_refl 0, .inl rfl⟩
  rw [if_neg hn]
  have es : wrap64 (wrap64 (s * 48271) + 61) = s * 48271 + 61 := by
    rw [w64 (x := s * 48271) (by omega) (by omega), w64 (by omega) (by omega)]
  have ht := tmod_pos (a := s * 48271 + 61) (n := 2147483647) (by omega) (by omega)
  rw [es]
  generalize Int.tmod (s * 48271 + 61) 2147483647 = s' at ht ⊢
  have ex : Int.tdiv s' 31 = s' / 31 := Int.tdiv_eq_ediv_of_nonneg ht.1
  have ew : wrap64 (Int.tdiv s' 31) = s' / 31 := by rw [ex, w64 (by omega) (by omega)]
  rw [ew]
  have hb := byte_at hc p
  have eb : wrap64 (rd c p) = rd c p := w64 (by omega) (by omega)
  have eq : wrap64 (s' / 31 + wrap64 (rd c p)) = s' / 31 + rd c p := by rw [eb, w64 (by omega) (by omega)]
  have ep : wrap64 (p + 1) = p + 1 := w64 (by omega) (by omega)
  have ep2 : wrap64 (p + 1 - 1) = p := by rw [w64 (by omega) (by omega)]; omega
  have t1 := tmod_pos (a := rd c p) (n := n) hb.1 (by omega)
  have t2 := tmod_pos (a := s' / 31 + rd c p) (n := n) (by omega) (by omega)
  have t3 := tmod_pos (a := s' / 31) (n := n) (by omega) (by omega)
  have n0 : ¬ n = 0 := by omega
  by_cases hp : p < (c.length : Int)
  · rw [if_pos hp, if_pos h0, ep, ep2, if_pos h0, if_pos hp, if_neg n0, if_neg n0, eq, eb]
    have hS : Src c (p + 1) s' := ⟨hc, hl, by omega, by omega, ht⟩
    split
    · split
      · exact ⟨_, _, _, rfl, hS, t1.1, .inr t1.2⟩
      · exact ⟨_, _, _, rfl, hS, t2.1, .inr t2.2⟩
    · exact ⟨_, _, _, rfl, hS, t2.1, .inr t2.2⟩
  · rw [if_neg hp, if_neg n0]
    exact ⟨_, _, _, rfl, ⟨hc, hl, h0, h1, ht⟩, t3.1, .inr t3.2⟩
theorem spec_l01Pick_ok {c : List Int} {p s : Int} (h : Src c p s) (l : List Int) (h0 : 1 ≤ l.length) (hl : l.length ≤ 1048576) : ∃ r p' s', spec_l01Pick.f c p s l = some (r, p', s') ∧ Src c p' s' ∧ r ∈ l := by
  obtain ⟨r, p', s', h1, h2, h3, h4⟩ := spec_l01Next_ok h (l.length : Int)
  have hr : r < (l.length : Int) := by omega
  refine ⟨rd l r, p', s', ?_, h2, getD_mem l 0 r.toNat (by omega)⟩
  unfold spec_l01Pick.f
  rw [h1, Option.bind_some]
  simp only
  rw [if_pos h3, if_pos hr]
end Go.Proofs.Ytanokgpnmbbajaa.PT
end
section
namespace Go.Proofs.Ytanokgpnmbbajaa.PT
open Go.RowKit Go.Proofs.YtanokgpnmbbajaaW.PrintWords Go.Proofs.YtanokgpnmbbajaaW.PrintLast Go.Proofs.YtanokgpnmbbajaaW.PrintMore
attribute [local go_sem] max2_int min2_int max_two min_two max_three min_three max_four min_four   -- for this text's walks alone
set_option linter.unusedVariables false
set_option linter.unusedSimpArgs false
theorem impl_OrdersIn.pays (a1 : Int) (B1 : Nat) (w : World) (h1 : B1 < w.heap.size) (g1 : w.cell? ⟨B1, 0, none⟩ = some (.int .i64 a1)) :
    PaysNow Try.prog 124 #[.pointer (some ⟨B1, 0, none⟩)] (fun x : S78 => Value.agg #[.int .i64 x.f0, .int .i64 x.f1, .int .i64 x.f2, .int .i64 x.f3]) (fun o => decide (o.f3 = a1)) w := fun W x hb => by
  have k1 : W.cell? ⟨B1, 0, none⟩ = some (.int .i64 a1) := (hb.cell (p := ⟨B1, 0, none⟩) h1).trans g1
  have k2 := fun o : Obj => (((Below.refl W.heap.size W).alloc (Nat.le_refl _) o).cell (p := ⟨B1, 0, none⟩) (World.block_lt_of_cell? W _ k1)).trans k1
  have k3 := fun o o2 : Obj => ((((Below.refl W.heap.size W).alloc (Nat.le_refl _) o).alloc (by simp) o2).cell (p := ⟨B1, 0, none⟩) (World.block_lt_of_cell? W _ k1)).trans k1
  clear g1 h1
  clear hb
  have HB := Aside0.mk (Below.refl W.heap.size W)
  show Calls Try.prog 124 #[.agg #[.int .i64 x.f0, .int .i64 x.f1, .int .i64 x.f2, .int .i64 x.f3], .pointer (some ⟨B1, 0, none⟩)] W _
  by_cases h0 : x.f3 = a1
  · have b0 : decide (x.f3 = a1) = true := decide_eq_true h0
    have d0 : (x.f3 == a1) = true := beq_iff_eq.mpr h0
    clear h0
    have HD := Aside0.mk (show (decide (x.f3 = a1)) = true by first | (simp only [b0]; done) | (simp only [b0]; rfl))
    go_enter Try.func124, Try.ntmps124
    go_wp2
    repeat (go_quiet (fail); try go_wp2)
    go_ret
    exact ⟨ret_b (by first | exact HD.out.symm | rfl), by repeat (first | (with_reducible first | exact HB.out | apply below_alloc | apply pw_below_drewN | apply below_drew1) | exact HB.out)⟩
  · have b0 : decide (x.f3 = a1) = false := decide_eq_false h0
    have d0 : (x.f3 == a1) = false := beq_eq_false_iff_ne.mpr h0
    clear h0
    have HD := Aside0.mk (show (decide (x.f3 = a1)) = false by first | (simp only [b0]; done) | (simp only [b0]; rfl))
    go_enter Try.func124, Try.ntmps124
    go_wp2
    repeat (go_quiet (fail); try go_wp2)
    go_ret
    exact ⟨ret_b (by first | exact HD.out.symm | rfl), by repeat (first | (with_reducible first | exact HB.out | apply below_alloc | apply pw_below_drewN | apply below_drew1) | exact HB.out)⟩
end Go.Proofs.Ytanokgpnmbbajaa.PT
end
section
namespace Go.Proofs.Ytanokgpnmbbajaa.PT
open Go.RowKit Go.Proofs.YtanokgpnmbbajaaW.PrintWords Go.Proofs.YtanokgpnmbbajaaB
set_option linter.unusedVariables false
set_option linter.unusedSimpArgs false
theorem spec_l24Draw_ok {c : List Int} {p s : Int} (h : Src c p s) : ∃ l p' s', Ev (fun k => spec_l24Draw.f k c p s) (l, p', s') ∧ Src c p' s' ∧ l.length ≤ 60 := by
  have l1 : ∀ d : Nat, ∀ (n : Int) (o : List S78) (p s : Int), 1 ≤ n → n + d = 52 → (o.length : Int) ≤ n → Src c p s → ∃ l p' s', Ev (fun k => spec_l24Draw.l1 k o n c p s) (l, p', s') ∧ Src c p' s' ∧ l.length ≤ 60 := by
    intro d
    induction d with
    | zero =>
      intro n o p s h1 hn ho hS
      obtain ⟨q, p2, s2, e2, hS2, hq0, hq1⟩ := spec_l01Next_ok hS 2
      have ew : wrap64 (50 + q) = 50 + q := w64 (by omega) (by omega)
      refine ⟨o, p2, s2, Ev.succ ?_, hS2, by omega⟩
      simp only [spec_l24Draw.l1]
      refine Ev.bind (Ev.eq e2) (Ev.neg ?_ (Ev.eq rfl))
      simp only; rw [ew]; omega
    | succ d ih =>
      intro n o p s h1 hn ho hS
      obtain ⟨q, p2, s2, e2, hS2, hq0, hq1⟩ := spec_l01Next_ok hS 2
      have ew : wrap64 (50 + q) = 50 + q := w64 (by omega) (by omega)
      have e1 : wrap64 (n + 1) = n + 1 := w64 (by omega) (by omega)
      obtain ⟨l, p', s', hE, hS', hl⟩ := ih (n + 1) (o ++ [(⟨n, 3, 0, Int.tmod n 6⟩ : S78)]) p2 s2 (by omega) (by omega) (by simp; omega) hS2
      by_cases hb : n ≤ 50 + q
      · refine ⟨l, p', s', Ev.succ ?_, hS', hl⟩
        simp only [spec_l24Draw.l1, e1]
        refine Ev.bind (Ev.eq e2) (Ev.pos (by simp only; rw [ew]; exact hb) (Ev.pos (by omega) hE))
      · refine ⟨o, p2, s2, Ev.succ ?_, hS2, by omega⟩
        simp only [spec_l24Draw.l1]
        exact Ev.bind (Ev.eq e2) (Ev.neg (by simp only; rw [ew]; exact hb) (Ev.eq rfl))
  have l0 : ∀ d : Nat, ∀ (n no : Int) (o : List S78) (p s : Int), 0 ≤ n → n = d → d + o.length ≤ 20 → Src c p s → ∃ l p' s', Ev (fun k => spec_l24Draw.l0 k o no n c p s) (l, p', s') ∧ Src c p' s' ∧ l.length ≤ 60 := by
    intro d
    induction d with
    | zero =>
      intro n no o p s h0 hn ho hS
      obtain ⟨r, p1, s1, e1, hS1, hr0, hr1⟩ := spec_l01Next_ok hS 40
      by_cases c0 : r = 0
      · obtain ⟨a, p2, s2, e2, hS2, ha⟩ := spec_l01Pick_ok hS1 [0, no, wrap64 (no + 1), 1000000000, 1000000001] (by simp) (by simp)
        obtain ⟨b, p3, s3, e3, hS3, hb⟩ := spec_l01Pick_ok hS2 [0, 1, 1000000] (by simp) (by simp)
        obtain ⟨g, p4, s4, e4, hS4, hg⟩ := spec_l01Pick_ok hS3 [0, (-1), 6] (by simp) (by simp)
        refine ⟨o ++ [(⟨a, b, 0, g⟩ : S78)], p4, s4, Ev.succ ?_, hS4, by simp; omega⟩
        simp only [spec_l24Draw.l0]
        exact Ev.neg (by omega) (Ev.bind (Ev.eq e1) (Ev.pos c0 (Ev.bind (Ev.eq e2) (Ev.bind (Ev.eq e3) (Ev.bind (Ev.eq e4) (Ev.pos (by omega) (Ev.eq rfl)))))))
      · by_cases c1 : r = 1
        · obtain ⟨l, p3, s3, hE, hS3, hl⟩ := l1 51 1 [] p1 s1 (by omega) (by omega) (by simp) hS1
          refine ⟨l, p3, s3, Ev.succ ?_, hS3, hl⟩
          simp only [spec_l24Draw.l0]
          exact Ev.neg (by omega) (Ev.bind (Ev.eq e1) (Ev.neg c0 (Ev.pos c1 hE)))
        · refine ⟨o, p1, s1, Ev.succ ?_, hS1, by omega⟩
          simp only [spec_l24Draw.l0]
          exact Ev.neg (by omega) (Ev.bind (Ev.eq e1) (Ev.neg c0 (Ev.neg c1 (Ev.eq rfl))))
    | succ d ih =>
      intro n no o p s h0 hn ho hS
      obtain ⟨a, p1, s1, e1, hS1, ha0, ha1⟩ := spec_l01Next_ok hS 3
      obtain ⟨b, p2, s2, e2, hS2, hb0, hb1⟩ := spec_l01Next_ok hS1 900
      obtain ⟨g, p3, s3, e3, hS3, hg0, hg1⟩ := spec_l01Next_ok hS2 12
      obtain ⟨t, p4, s4, e4, hS4, ht0, ht1⟩ := spec_l01Next_ok hS3 6
      have en : wrap64 (n - 1) = n - 1 := w64 (by omega) (by omega)
      obtain ⟨l, p5, s5, hE, hS5, hl⟩ := ih (n - 1) (wrap64 (wrap64 (no + 1) + a)) (o ++ [(⟨wrap64 (wrap64 (no + 1) + a), wrap64 (1 + b), g, t⟩ : S78)]) p4 s4 (by omega) (by omega) (by simp; omega) hS4
      refine ⟨l, p5, s5, Ev.succ ?_, hS5, hl⟩
      simp only [spec_l24Draw.l0, en]
      exact Ev.pos (by omega) (Ev.bind (Ev.eq e1) (Ev.bind (Ev.eq e2) (Ev.bind (Ev.eq e3) (Ev.bind (Ev.eq e4) (Ev.pos (by omega) hE)))))
  obtain ⟨b, p2, s2, e2, hS2, hb0, hb1⟩ := spec_l01Next_ok h 7
  obtain ⟨l, p3, s3, hE, hS3, hl⟩ := l0 b.toNat b 0 [] p2 s2 hb0 (by omega) (by simp; omega) hS2
  refine ⟨l, p3, s3, ?_, hS3, hl⟩
  unfold spec_l24Draw.f
  exact Ev.bind (Ev.eq e2) hE
end Go.Proofs.Ytanokgpnmbbajaa.PT
end
