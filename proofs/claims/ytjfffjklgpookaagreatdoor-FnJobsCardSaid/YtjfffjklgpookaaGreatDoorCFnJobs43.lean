import Derived.Test.YtjfffjklgpookaaGreatDoorCFnJobs31
import Derived.Test.YtjfffjklgpookaaGreatDoorCFnJobs40
import Derived.Test.YtjfffjklgpookaaGreatDoorCFnJobs42
set_option linter.unusedVariables false
set_option linter.unusedSimpArgs false
section
namespace Go.Proofs.YtjfffjklgpookaaGreatDoor.PJ
open Go.RowKit Go.Proofs.YtjfffjklgpookaaGreatDoorW.PrintWords Go.Proofs.YtjfffjklgpookaaGreatDoorB
theorem nums_size (l : List Int) : (strOfNums l).size = l.length := by simp [strOfNums, ByteArray.size]
theorem ba_add (a b : ByteArray) : (a ++ b).size = a.size + b.size := by simp
theorem ext_size (t : ByteArray) (i j : Nat) : (t.extract i j).size ≤ t.size := by rw [ByteArray.size_extract]; omega
theorem rd_size {l : List ByteArray} {n : Nat} (h : ∀ x ∈ l, x.size ≤ n) (i : Int) : (rdOf ByteArray.empty l i).size ≤ n := by
 unfold rdOf
 by_cases hi : i.toNat < l.length
 ·rw [List.getD_eq_getElem?_getD, List.getElem?_eq_getElem hi]
  exact h _ (List.getElem_mem hi)
 ·rw [List.getD_eq_getElem?_getD, List.getElem?_eq_none (by omega)]
  simp
theorem spec_l01Damage_ok {c : List Int} {p s : Int} (h : Src c p s) (t : ByteArray) (ht : t.size ≤ 100000000) : ∃ u p' s', spec_l01Damage.f c p s t = some (u, p', s') ∧ Src c p' s' ∧ u.size ≤ t.size + 1 := by
 obtain ⟨r1, p1, s1, e1, h1, g1, g2⟩ := spec_l01Next_ok h (wrap64 ((t.size : Int) + 1))
 have ew : wrap64 ((t.size : Int) + 1) = (t.size : Int) + 1 := w64 (by omega) (by omega)
 obtain ⟨r2, p2, s2, e2, h2, _⟩ := spec_l01Next_ok h1 8
 have hr : r1 ≤ (t.size : Int) := by rw [ew] at g2; omega
 have z1 := ext_size t 0 r1.toNat
 have z2 := ext_size t r1.toNat t.size
 unfold spec_l01Damage.f
 rw [e1, Option.bind_some]
 simp only
 rw [e2, Option.bind_some]
 simp only
 by_cases c1 : r2 = 0
 ·rw [if_pos c1, if_pos g1, if_pos hr]
  exact ⟨_, _, _, rfl, h2, by omega⟩
 rw [if_neg c1]
 by_cases c2 : r2 = 1
 ·obtain ⟨r3, p3, s3, e3, h3, g3, g4⟩ := spec_l01Next_ok h2 8
  rw [if_pos c2, if_pos g1, if_pos hr, Option.bind_some, e3, Option.bind_some]
  simp only
  have z3 := rd_size (l := [(⟨#[48]⟩ : ByteArray), (⟨#[49]⟩ : ByteArray), (⟨#[32]⟩ : ByteArray), (⟨#[45]⟩ : ByteArray), (⟨#[46]⟩ : ByteArray), (⟨#[44]⟩ : ByteArray), (⟨#[10]⟩ : ByteArray), (⟨#[120]⟩ : ByteArray)]) (n := 1) (by decide) r3
  have zs : (t.extract 0 r1.toNat).size + (t.extract r1.toNat t.size).size ≤ t.size := by rw [ByteArray.size_extract, ByteArray.size_extract]; omega
  rw [if_pos g3, if_pos (by simp only [List.length_cons, List.length_nil]; omega), if_pos (by omega), if_pos (by rw [ba_add]; omega)]
  exact ⟨_, _, _, rfl, h3, by rw [ba_add, ba_add]; omega⟩
 rw [if_neg c2]
 by_cases c3 : r2 = 2
 ·rw [if_pos c3]
  by_cases c4 : r1 < (t.size : Int)
  ·have e4 : wrap64 (r1 + 1) = r1 + 1 := w64 (by omega) (by omega)
   have zs : (t.extract 0 r1.toNat).size + (t.extract (r1 + 1).toNat t.size).size ≤ t.size := by rw [ByteArray.size_extract, ByteArray.size_extract]; omega
   rw [if_pos c4, if_pos g1, if_pos hr, e4, if_pos (by omega), if_pos (by omega), if_pos (by omega)]
   exact ⟨_, _, _, rfl, h2, by rw [ba_add]; omega⟩
  ·rw [if_neg c4]
   exact ⟨_, _, _, rfl, h2, by omega⟩
 ·rw [if_neg c3]
  exact ⟨_, _, _, rfl, h2, by omega⟩
theorem spec_l01DrawOf_ok {c : List Int} {p s : Int} (h : Src c p s) (n : Nat) (hn : n ≤ 1000000) : ∃ l p' s', Ev (fun k => spec_l01DrawOf.f k c p s (n : Int)) (l, p', s') ∧ Src c p' s' ∧ l.length = n ∧ ∀ x ∈ l, 0 ≤ x ∧ x < (n : Int) := by
  have key : ∀ d i : Nat, i + d = n → ∀ (o : List Int) (p s : Int), o.length = i → (∀ x ∈ o, 0 ≤ x ∧ x < (i : Int)) → Src c p s →
      ∃ l p' s', Ev (fun k => spec_l01DrawOf.l0 k (n : Int) o (i : Int) c p s) (l, p', s') ∧ Src c p' s' ∧ l.length = n ∧ ∀ x ∈ l, 0 ≤ x ∧ x < (n : Int) := by
    intro d
    induction d with
    | zero =>
      intro i hi o p s ho hx hS
      have e : i = n := by omega
      subst e
      refine ⟨o, p, s, Ev.succ ?_, hS, ho, hx⟩
      simp only [spec_l01DrawOf.l0]
      exact Ev.neg (by omega) (Ev.eq rfl)
    | succ d ih =>
      intro i hi o p s ho hx hS
      have e1 : wrap64 ((i : Int) + 1) = ((i + 1 : Nat) : Int) := by rw [w64 (by omega) (by omega)]; omega
      obtain ⟨r, p1, s1, q1, h1, g1, g2⟩ := spec_l01Next_ok hS ((i + 1 : Nat) : Int)
      have hr : r ≤ (o.length : Int) := by omega
      have hlt : (o.take r.toNat).length ≤ i := by rw [List.length_take]; omega
      have hld : (o.drop r.toNat).length = i - r.toNat := by rw [List.length_drop, ho]
      have hlt2 : (o.take r.toNat).length = r.toNat := by rw [List.length_take]; omega
      have own : spec_l01Own.f (o.take r.toNat) = some (o.take r.toNat) := by
        unfold spec_l01Own.f
        rw [Option.bind_some, if_pos (by simp only [List.length_nil]; omega), List.nil_append]
      have hlen : ((o.take r.toNat) ++ [(i : Int)] ++ o.drop r.toNat).length = i + 1 := by
        rw [List.length_append, List.length_append, List.length_singleton, hlt2, hld]; omega
      obtain ⟨l, p2, s2, E, S2, hl⟩ := ih (i + 1) (by omega) ((o.take r.toNat) ++ [(i : Int)] ++ o.drop r.toNat) p1 s1 hlen (fun x hm => by
        rcases List.mem_append.1 hm with hm | hm
        · rcases List.mem_append.1 hm with hm | hm
          · have := hx x (List.mem_of_mem_take hm); omega
          · rw [List.mem_singleton.1 hm]; omega
        · have := hx x (List.mem_of_mem_drop hm); omega) h1
      refine ⟨l, p2, s2, Ev.succ ?_, S2, hl⟩
      simp only [spec_l01DrawOf.l0, e1]
      refine Ev.pos (by omega) (Ev.bind (Ev.eq q1) (Ev.pos g1 (Ev.pos hr (Ev.bind (Ev.eq own) (Ev.bind (Ev.eq rfl) (Ev.pos ?_ (Ev.bind (Ev.eq rfl) (Ev.bind (Ev.eq rfl) (Ev.pos ?_ E)))))))))
      · rw [List.length_singleton]; omega
      · rw [List.length_append, List.length_singleton, hld]; omega
  unfold spec_l01DrawOf.f
  exact key n 0 (by omega) [] p s rfl (fun x hx => by cases hx) h
theorem spec_l26Draw_src {c : List Int} {p s : Int} (h : Src c p s) :
  ∃ n a1 a2 a3 a4 a5 a6 a7 a8 a9 p' s', spec_l26Draw.f c p s = some (n, a1, a2, a3, a4, a5, a6, a7, a8, a9, p', s') ∧ n.size ≤ 13 ∧ Src c p' s' := by
 obtain ⟨r1, p1, s1, e1, h1, g1, g1'⟩ := spec_l01Next_ok h 4
 obtain ⟨r2, p2, s2, e2, h2, _⟩ := spec_l01Next_ok h1 400
 obtain ⟨t0, t1, t2, t3, p3, s3, e3, h3⟩ := spec_l08DrawTrim_ok h2
 obtain ⟨b0, b1, p4, s4, e4, h4⟩ := spec_l18Draw_ok h3
 obtain ⟨u, p5, s5, e5, h5⟩ := spec_l06DrawUnit_ok h4
 obtain ⟨r6, p6, s6, e6, h6, _⟩ := spec_l01Next_ok h5 3000
 obtain ⟨r7, p7, s7, e7, h7, _⟩ := spec_l01Next_ok h6 40
 have hlt : r1 < 4 := by omega
 unfold spec_l26Draw.f
 simp only [e1, e2, e3, e4, e5, e6, e7, Option.bind_some, List.length_cons, List.length_nil]
 rw [if_pos g1, if_pos (by omega)]
 by_cases c0 : r7 = 0
 ·obtain ⟨r8, p8, s8, e8, h8, g8, g8'⟩ := spec_l01Next_ok h7 4
  simp only [c0, if_pos, e8, Option.bind_some]
  rw [if_pos g8, if_pos (by omega)]
  exact ⟨_, _, _, _, _, _, _, _, _, _, _, _, rfl, rd_size (by simp; decide) _, h8⟩
 rw [if_neg c0]
 by_cases c1 : r7 = 1
 ·obtain ⟨r8, p8, s8, e8, h8, _⟩ := spec_l01Pick_ok h7 [0, 4096, 4097] (by simp) (by simp)
  rw [if_pos c1, e8, Option.bind_some]
  exact ⟨_, _, _, _, _, _, _, _, _, _, _, _, rfl, rd_size (by simp; decide) _, h8⟩
 rw [if_neg c1]
 by_cases c2 : r7 = 2
 ·obtain ⟨r8, p8, s8, e8, h8, _⟩ := spec_l01Pick_ok h7 [0, 1000000, 1000001] (by simp) (by simp)
  rw [if_pos c2, e8, Option.bind_some]
  exact ⟨_, _, _, _, _, _, _, _, _, _, _, _, rfl, rd_size (by simp; decide) _, h8⟩
 rw [if_neg c2]
 exact ⟨_, _, _, _, _, _, _, _, _, _, _, _, rfl, rd_size (by simp; decide) _, h7⟩
theorem spec_l26DrawText_l1 (c : List Int) (W : List ByteArray) (hW : ∀ x ∈ W, x.size ≤ 1000) (o : List Int) (ho : ∀ x ∈ o, 0 ≤ x ∧ x < (W.length : Int)) (hL : o.length ≤ 1000) : ∀ d i, i + d = o.length → ∀ (t : ByteArray) (p s : Int), t.size ≤ 2004 * i → Src c p s →
    ∃ u p' s', Ev (fun k => spec_l26DrawText.l1 k W o t (i : Int) c p s) (u, p', s') ∧ Src c p' s' ∧ u.size ≤ 10000000 := by
  intro d
  induction d with
  | zero =>
    intro i hi t p s ht hS
    obtain ⟨r, p1, s1, e1, S1, g0, g1⟩ := spec_l01Next_ok hS 30
    by_cases c0 : r = 0
    · obtain ⟨u, p2, s2, e2, S2, hu⟩ := spec_l01Damage_ok S1 t (by omega)
      refine ⟨u, p2, s2, Ev.succ ?_, S2, by omega⟩
      simp only [spec_l26DrawText.l1]
      exact Ev.neg (by omega) (Ev.bind (Ev.eq e1) (Ev.pos c0 (Ev.bind (Ev.eq e2) (Ev.eq rfl))))
    by_cases c1 : r = 1
    · obtain ⟨q, p2, s2, e2, S2, k0, k1⟩ := spec_l01Next_ok S1 4
      have z := rd_size (l := [(⟨#[117, 110, 105, 116, 32, 49, 50, 10]⟩ : ByteArray), (⟨#[99, 111, 112, 105, 101, 115, 32, 48, 10]⟩ : ByteArray), (⟨#[103, 108, 117, 101, 32, 51, 10]⟩ : ByteArray), (⟨#[10]⟩ : ByteArray)]) (n := 9) (by decide) q
      refine ⟨t ++ rdOf ByteArray.empty [(⟨#[117, 110, 105, 116, 32, 49, 50, 10]⟩ : ByteArray), (⟨#[99, 111, 112, 105, 101, 115, 32, 48, 10]⟩ : ByteArray), (⟨#[103, 108, 117, 101, 32, 51, 10]⟩ : ByteArray), (⟨#[10]⟩ : ByteArray)] q, p2, s2, Ev.succ ?_, S2, by rw [ba_add]; omega⟩
      simp only [spec_l26DrawText.l1]
      exact Ev.neg (by omega) (Ev.bind (Ev.eq e1) (Ev.neg c0 (Ev.pos c1 (Ev.bind (Ev.eq rfl) (Ev.bind (Ev.eq e2) (Ev.pos k0 (Ev.pos (by simp only [List.length_cons, List.length_nil]; omega) (Ev.pos (by show t.size + (rdOf ByteArray.empty _ q).size ≤ _; omega) (Ev.eq rfl)))))))))
    by_cases c2 : r = 2
    · obtain ⟨q, p2, s2, e2, S2, k0, k1⟩ := spec_l01Next_ok S1 4
      by_cases c3 : q = 0
      · refine ⟨strOfNums (List.replicate 1001 0), p2, s2, Ev.succ ?_, S2, ?_⟩
        · simp only [spec_l26DrawText.l1]
          exact Ev.neg (by omega) (Ev.bind (Ev.eq e1) (Ev.neg c0 (Ev.neg c1 (Ev.pos c2 (Ev.bind (Ev.eq e2) (Ev.pos c3 (Ev.pos (by omega) (Ev.eq rfl))))))))
        · rw [nums_size, List.length_replicate]; omega
      · refine ⟨t, p2, s2, Ev.succ ?_, S2, by omega⟩
        simp only [spec_l26DrawText.l1]
        exact Ev.neg (by omega) (Ev.bind (Ev.eq e1) (Ev.neg c0 (Ev.neg c1 (Ev.pos c2 (Ev.bind (Ev.eq e2) (Ev.neg c3 (Ev.eq rfl)))))))
    · refine ⟨t, p1, s1, Ev.succ ?_, S1, by omega⟩
      simp only [spec_l26DrawText.l1]
      exact Ev.neg (by omega) (Ev.bind (Ev.eq e1) (Ev.neg c0 (Ev.neg c1 (Ev.neg c2 (Ev.eq rfl)))))
  | succ d ih =>
    intro i hi t p s ht hS
    have e0 : wrap64 ((i : Int) + 1) = ((i + 1 : Nat) : Int) := by rw [w64 (by omega) (by omega)]; omega
    have hx := ho _ (getD_mem o 0 i (by omega))
    have hz := rd_size hW (o.getD i 0)
    have z1 : (⟨#[10]⟩ : ByteArray).size = 1 := rfl
    obtain ⟨r, p1, s1, e1, S1, g0, g1⟩ := spec_l01Next_ok hS 40
    have step : ∀ (b : ByteArray) (p2 s2 : Int), b.size ≤ 1001 → Src c p2 s2 → ∃ u p' s', Ev (fun k => if t.size + b.size ≤ 9223372036854775807 then (if (t ++ b).size + 1 ≤ 9223372036854775807 then ((spec_l01Next.f c p2 s2 60).bind fun bt => (if bt.1 = 0 then (if ((t ++ b) ++ (⟨#[10]⟩ : ByteArray)).size + b.size ≤ 9223372036854775807 then (if (((t ++ b) ++ (⟨#[10]⟩ : ByteArray)) ++ b).size + 1 ≤ 9223372036854775807 then (spec_l26DrawText.l1 k W o ((((t ++ b) ++ (⟨#[10]⟩ : ByteArray)) ++ b) ++ (⟨#[10]⟩ : ByteArray)) ((i + 1 : Nat) : Int) c bt.2.1 bt.2.2) else (none)) else (none)) else (spec_l26DrawText.l1 k W o ((t ++ b) ++ (⟨#[10]⟩ : ByteArray)) ((i + 1 : Nat) : Int) c bt.2.1 bt.2.2))) else none) else none) (u, p', s') ∧ Src c p' s' ∧ u.size ≤ 10000000 := by
      intro b p2 s2 hb S2
      obtain ⟨q, p3, s3, e3, S3, _⟩ := spec_l01Next_ok S2 60
      have y1 : ((t ++ b) ++ (⟨#[10]⟩ : ByteArray)).size = t.size + b.size + 1 := by rw [ba_add, ba_add, z1]
      have y2 : (((t ++ b) ++ (⟨#[10]⟩ : ByteArray)) ++ b).size = t.size + b.size + 1 + b.size := by rw [ba_add, y1]
      have y3 : ((((t ++ b) ++ (⟨#[10]⟩ : ByteArray)) ++ b) ++ (⟨#[10]⟩ : ByteArray)).size = t.size + b.size + 1 + b.size + 1 := by rw [ba_add, y2, z1]
      have y0 : (t ++ b).size = t.size + b.size := ba_add _ _
      by_cases c3 : q = 0
      · obtain ⟨u, p4, s4, E, S4, hu⟩ := ih (i + 1) (by omega) ((((t ++ b) ++ (⟨#[10]⟩ : ByteArray)) ++ b) ++ (⟨#[10]⟩ : ByteArray)) p3 s3 (by omega) S3
        exact ⟨u, p4, s4, Ev.pos (by omega) (Ev.pos (by omega) (Ev.bind (Ev.eq e3) (Ev.pos c3 (Ev.pos (by omega) (Ev.pos (by omega) E))))), S4, hu⟩
      · obtain ⟨u, p4, s4, E, S4, hu⟩ := ih (i + 1) (by omega) ((t ++ b) ++ (⟨#[10]⟩ : ByteArray)) p3 s3 (by omega) S3
        exact ⟨u, p4, s4, Ev.pos (by omega) (Ev.pos (by omega) (Ev.bind (Ev.eq e3) (Ev.neg c3 E))), S4, hu⟩
    by_cases c0 : r = 0
    · obtain ⟨v, p2, s2, e2, S2, hv⟩ := spec_l01Damage_ok S1 (rdOf ByteArray.empty W (o.getD i 0)) (by omega)
      obtain ⟨u, p3, s3, E, S3, hu⟩ := step v p2 s2 (by omega) S2
      refine ⟨u, p3, s3, Ev.succ ?_, S3, hu⟩
      simp only [spec_l26DrawText.l1, rd_nat, e0]
      exact Ev.pos (by omega) (Ev.pos (by omega) (Ev.pos hx.1 (Ev.pos hx.2 (Ev.bind (Ev.eq e1) (Ev.pos c0 (Ev.bind (Ev.eq e2) E))))))
    · obtain ⟨u, p3, s3, E, S3, hu⟩ := step (rdOf ByteArray.empty W (o.getD i 0)) p1 s1 (by omega) S1
      refine ⟨u, p3, s3, Ev.succ ?_, S3, hu⟩
      simp only [spec_l26DrawText.l1, rd_nat, e0]
      exact Ev.pos (by omega) (Ev.pos (by omega) (Ev.pos hx.1 (Ev.pos hx.2 (Ev.bind (Ev.eq e1) (Ev.neg c0 E)))))
theorem spec_l26DrawText_j2 (c : List Int) (W : List ByteArray) (hW : ∀ x ∈ W, x.size ≤ 1000) (o : List Int) (ho : ∀ x ∈ o, 0 ≤ x ∧ x < (W.length : Int)) (hL : o.length ≤ 1000) {p s : Int} (hS : Src c p s) : ∃ u p' s', Ev (fun k => spec_l26DrawText.j2 k W o c p s) (u, p', s') ∧ Src c p' s' ∧ u.size ≤ 10000000 := by
 obtain ⟨u, p', s', E, S', hu⟩ := spec_l26DrawText_l1 c W hW o ho hL o.length 0 (by omega) ⟨#[]⟩ p s (Nat.zero_le _) hS
 refine ⟨u, p', s', Ev.succ ?_, S', hu⟩
 simp only [spec_l26DrawText.j2]
 exact E
theorem spec_l26DrawText_l0 (c : List Int) (W : List ByteArray) (hW : ∀ x ∈ W, x.size ≤ 1000) (hL : W.length ≤ 1000) : ∀ d i, i + d + 1 = W.length → ∀ (o : List Int), o.length = i → (∀ x ∈ o, 0 ≤ x ∧ x < (W.length : Int)) → ∀ {p s : Int}, Src c p s →
    ∃ u p' s', Ev (fun k => spec_l26DrawText.l0 k W o (i : Int) c p s) (u, p', s') ∧ Src c p' s' ∧ u.size ≤ 10000000 := by
  intro d
  have ew : wrap64 ((W.length : Int) - 1) = (W.length : Int) - 1 := w64 (by omega) (by omega)
  induction d with
  | zero =>
    intro i hi o ho hx p s hS
    obtain ⟨u, p', s', E, S', hu⟩ := spec_l26DrawText_j2 c W hW o hx (by omega) hS
    refine ⟨u, p', s', Ev.succ ?_, S', hu⟩
    simp only [spec_l26DrawText.l0, ew]
    exact Ev.neg (by omega) E
  | succ d ih =>
    intro i hi o ho hx p s hS
    have e0 : wrap64 ((i : Int) + 1) = ((i + 1 : Nat) : Int) := by rw [w64 (by omega) (by omega)]; omega
    obtain ⟨u, p', s', E, S', hu⟩ := ih (i + 1) (by omega) (o ++ [(i : Int)]) (by simp; omega) (fun x hm => by
      rcases List.mem_append.1 hm with hm | hm
      · exact hx x hm
      · rw [List.mem_singleton.1 hm]; omega) hS
    refine ⟨u, p', s', Ev.succ ?_, S', hu⟩
    simp only [spec_l26DrawText.l0, ew, e0]
    exact Ev.pos (by omega) (Ev.pos (by omega) E)
theorem spec_l26DrawText_j0 {c : List Int} {p s : Int} (hS : Src c p s) (t : ByteArray) (ht : t.size ≤ 999) : ∃ u p' s', Ev (fun k => spec_l26DrawText.j0 k t c p s) (u, p', s') ∧ Src c p' s' ∧ u.size ≤ 10000000 := by
 have hp := spec_l01Split_ev t 10 (by omega)
 have hlen : (bas (splitL 10 t.data.toList)).length = t.data.toList.count 10 + 1 := by rw [bas_length, splitL_length]
 have hcnt : t.data.toList.count 10 ≤ 999 := by
  have h1 := List.count_le_length (a := (10 : UInt8)) (l := t.data.toList)
  have h2 := data_length t
  omega
 have hW : ∀ x ∈ bas (splitL 10 t.data.toList), x.size ≤ 1000 := by
  intro x hx
  unfold bas at hx
  obtain ⟨y, hy, rfl⟩ := List.mem_map.1 hx
  have h1 := splitL_piece 10 _ _ hy
  have h2 := data_length t
  rw [mk_size]; omega
 generalize bas (splitL 10 t.data.toList) = W at hp hlen hW
 have hWl : W.length ≤ 1000 := by omega
 have ew : wrap64 ((W.length : Int) - 1) = ((W.length - 1 : Nat) : Int) := by rw [w64 (by omega) (by omega)]; omega
 obtain ⟨o, p1, s1, e1, S1, ho, hox⟩ := spec_l01DrawOf_ok hS (W.length - 1) (by omega)
 obtain ⟨r, p2, s2, e2, S2, _⟩ := spec_l01Next_ok S1 3
 by_cases c0 : r = 0
 ·obtain ⟨o2, p3, s3, e3, S3, ho2, _⟩ := spec_l01DrawOf_ok S2 0 (by omega)
  have hnil : o2 = [] := List.eq_nil_of_length_eq_zero ho2
  subst hnil
  obtain ⟨u, p4, s4, E, S4, hu⟩ := spec_l26DrawText_l0 c W hW hWl (W.length - 1) 0 (by omega) [] rfl (fun x hx => by cases hx) S3
  refine ⟨u, p4, s4, Ev.succ ?_, S4, hu⟩
  simp only [spec_l26DrawText.j0]
  refine Ev.bind hp (Ev.bind (a := (o, p1, s1)) ?_ (Ev.bind (Ev.eq e2) (Ev.pos c0 (Ev.bind e3 E))))
  simp only [ew]
  exact e1
 ·obtain ⟨u, p4, s4, E, S4, hu⟩ := spec_l26DrawText_j2 c W hW o (fun x hx => by have := hox x hx; omega) (by omega) S2
  refine ⟨u, p4, s4, Ev.succ ?_, S4, hu⟩
  simp only [spec_l26DrawText.j0]
  refine Ev.bind hp (Ev.bind (a := (o, p1, s1)) ?_ (Ev.bind (Ev.eq e2) (Ev.neg c0 E)))
  simp only [ew]
  exact e1
theorem jobB_le {s : ByteArray} {p t0 t1 t2 t3 a b u c : Int} (h : jobOk s p t0 t1 t2 t3 a b u c = true) : (jobB s p t0 t1 t2 t3 a b u c).size ≤ 400 := by
 obtain ⟨h1, h2, h3, h4, h5, h6, h7, h8, h9⟩ := jobOk_small h
 have q2 := small_le h2
 have q3 := small_le h3
 have q4 := small_le h4
 have q5 := small_le h5
 have q6 := small_le h6
 have q7 := paperB_le h7
 have q8 := small_le h8
 have q9 := small_le h9
 simp only [jobB, trimB_eq, ba_add, zname, zpages, ztrim, zpaper, zunit, zcopies, z10, z32]
 omega
theorem jobText_le (s : ByteArray) (p t0 t1 t2 t3 a b u c : Int) : (jobText s p t0 t1 t2 t3 a b u c).1.size ≤ 400 := by
 unfold jobText
 split
 ·exact jobB_le (by assumption)
 ·exact Nat.zero_le _
theorem spec_DrawCompileJob_ok {c : List Int} (hc : ∀ y ∈ c, 0 ≤ y ∧ y ≤ 255) (hl : c.length ≤ 1048576) : ∃ u, Ev (fun k => spec_DrawCompileJob.f k c) u ∧ u.size ≤ 10000000 := by
 obtain ⟨s0, E0, S0⟩ := spec_l01From_ev hc hl
 obtain ⟨n, a1, a2, a3, a4, a5, a6, a7, a8, a9, p1, s1, e1, hn, S1⟩ := spec_l26Draw_src S0
 have hj := spec_JobText_ev (s := n) (by omega) a1 a2 a3 a4 a5 a6 a7 a8 a9
 have hz := jobText_le n a1 a2 a3 a4 a5 a6 a7 a8 a9
 generalize jobText n a1 a2 a3 a4 a5 a6 a7 a8 a9 = jt at hj hz
 by_cases c0 : jt.2 = 0
 ·obtain ⟨u, p2, s2, E, S2, hu⟩ := spec_l26DrawText_j0 S1 jt.1 (by omega)
  refine ⟨u, ?_, hu⟩
  unfold spec_DrawCompileJob.f
  refine Ev.bind E0 (Ev.bind (a := (u, p2, s2)) ?_ (Ev.eq rfl))
  unfold spec_l26DrawText.f
  exact Ev.bind (Ev.eq e1) (Ev.bind hj (Ev.pos c0 E))
 ·obtain ⟨u, p2, s2, E, S2, hu⟩ := spec_l26DrawText_j0 S1 (⟨#[110, 97, 109, 101, 32, 120, 10, 112, 97, 103, 101, 115, 32, 48, 10]⟩ : ByteArray) (by decide)
  refine ⟨u, ?_, hu⟩
  unfold spec_DrawCompileJob.f
  refine Ev.bind E0 (Ev.bind (a := (u, p2, s2)) ?_ (Ev.eq rfl))
  unfold spec_l26DrawText.f
  exact Ev.bind (Ev.eq e1) (Ev.bind hj (Ev.neg c0 E))
theorem spec_DrawJobText_ok {c : List Int} (hc : ∀ y ∈ c, 0 ≤ y ∧ y ≤ 255) (hl : c.length ≤ 1048576) : ∃ n a1 a2 a3 a4 a5 a6 a7 a8 a9, Ev (fun k => spec_DrawJobText.f k c) (n, a1, a2, a3, a4, a5, a6, a7, a8, a9) ∧ n.size ≤ 13 := by
 obtain ⟨s0, E0, S0⟩ := spec_l01From_ev hc hl
 obtain ⟨n, a1, a2, a3, a4, a5, a6, a7, a8, a9, p1, s1, e1, hn, S1⟩ := spec_l26Draw_src S0
 refine ⟨n, a1, a2, a3, a4, a5, a6, a7, a8, a9, ?_, hn⟩
 unfold spec_DrawJobText.f
 exact Ev.bind E0 (Ev.bind (Ev.eq e1) (Ev.eq rfl))
end Go.Proofs.YtjfffjklgpookaaGreatDoor.PJ
end
