-- Gathered by this session's program wip/tool/shake.py out of its own texts and of what the kit's print and the session's patches of it wrote for this claim.
import Derived.Test.YtoiioapkebglgaaDoorCFnJournals21
import Derived.Test.YtoiioapkebglgaaDoorCFnJournals23
import Derived.Test.YtoiioapkebglgaaDoorCFnJournals38
import Derived.Test.YtoiioapkebglgaaDoorCFnJournals41
section
namespace Go.Proofs.YtoiioapkebglgaaDoor.PG
open Go.RowKit Go.Proofs.YtoiioapkebglgaaDoorW.PrintWords Go.Proofs.YtoiioapkebglgaaDoorB
set_option linter.unusedVariables false
set_option linter.unusedSimpArgs false
theorem spec_l29DrawEntry_j0 {c : List Int} {p s : Int} (h : Src c p s) (b : Bool) : ∃ x0 x1 p' s', Ev (fun k => spec_l29DrawEntry.j0 k b c p s) (x0, x1, p', s') ∧ Src c p' s' := by
  cases b with
  | true =>
    obtain ⟨r, p', s', e, h1, _⟩ := spec_l01Next_ok h 5
    refine ⟨3, r, p', s', Ev.succ ?_, h1⟩
    simp only [spec_l29DrawEntry.j0]
    exact Ev.pos trivial (Ev.bind (Ev.eq e) (Ev.eq rfl))
  | false =>
    obtain ⟨r, p', s', e, h1, _⟩ := spec_l01Next_ok h 60
    refine ⟨2, r, p', s', Ev.succ ?_, h1⟩
    simp only [spec_l29DrawEntry.j0]
    exact Ev.neg (by simp) (Ev.bind (Ev.eq e) (Ev.eq rfl))
theorem spec_l29DrawEntry_ok {c : List Int} {p s : Int} (h : Src c p s) (a b d e : Int) : ∃ x0 x1 p' s', Ev (fun k => spec_l29DrawEntry.f k c p s a b d e) (x0, x1, p', s') ∧ Src c p' s' := by
  obtain ⟨r1, p1, s1, e1, h1, _⟩ := spec_l01Next_ok h 20
  unfold spec_l29DrawEntry.f
  by_cases z1 : r1 = 0
  · obtain ⟨r2, p2, s2, e2, h2, _⟩ := spec_l01Next_ok h1 6
    obtain ⟨r3, p3, s3, e3, h3, _⟩ := spec_l01Pick_ok h2 [(-1), 0, 12, 1000000000, 1000000001, 1000000] (by decide) (by decide)
    exact ⟨r2, r3, p3, s3, Ev.bind (Ev.eq e1) (Ev.pos z1 (Ev.bind (Ev.eq e2) (Ev.bind (Ev.eq e3) (Ev.eq rfl)))), h3⟩
  by_cases z2 : a = 0
  · obtain ⟨r2, p2, s2, e2, h2, _⟩ := spec_l01Next_ok h1 40
    exact ⟨1, wrap64 (1 + r2), p2, s2, Ev.bind (Ev.eq e1) (Ev.neg z1 (Ev.pos z2 (Ev.bind (Ev.eq e2) (Ev.eq rfl)))), h2⟩
  obtain ⟨r2, p2, s2, e2, h2, _⟩ := spec_l01Next_ok h1 6
  by_cases z3 : r2 = 0
  · exact ⟨4, b, p2, s2, Ev.bind (Ev.eq e1) (Ev.neg z1 (Ev.neg z2 (Ev.bind (Ev.eq e2) (Ev.pos z3 (Ev.eq rfl))))), h2⟩
  by_cases z4 : r2 = 1
  · obtain ⟨x0, x1, p3, s3, e3, h3⟩ := spec_l29DrawEntry_j0 h2 (r2 == 1)
    exact ⟨x0, x1, p3, s3, Ev.bind (Ev.eq e1) (Ev.neg z1 (Ev.neg z2 (Ev.bind (Ev.eq e2) (Ev.neg z3 (Ev.pos z4 e3))))), h3⟩
  · obtain ⟨x0, x1, p3, s3, e3, h3⟩ := spec_l29DrawEntry_j0 h2 (r2 == 2)
    exact ⟨x0, x1, p3, s3, Ev.bind (Ev.eq e1) (Ev.neg z1 (Ev.neg z2 (Ev.bind (Ev.eq e2) (Ev.neg z3 (Ev.neg z4 e3))))), h3⟩
theorem spec_l29Draw_l1 (c : List Int) (p s : Int) : ∀ (n : Nat) (out : List S70), n ≤ 1000 → out.length + n ≤ 2000 → ∃ l, Ev (fun k => spec_l29Draw.l1 k out (n : Int) c p s) (l, p, s) ∧ l.length ≤ out.length + n := by
  intro n
  induction n with
  | zero =>
    intro out hn ho
    refine ⟨out, Ev.succ ?_, by omega⟩
    simp only [spec_l29Draw.l1]
    exact Ev.neg (by omega) (Ev.eq rfl)
  | succ n ih =>
    intro out hn ho
    obtain ⟨l, h1, h2⟩ := ih (out ++ [⟨2, ((n + 1 : Nat) : Int)⟩]) (by omega) (by rw [List.length_append, List.length_singleton]; omega)
    rw [List.length_append, List.length_singleton] at h2
    refine ⟨l, Ev.succ ?_, by omega⟩
    have e1 : wrap64 (((n + 1 : Nat) : Int) - 1) = (n : Int) := by rw [w64 (by omega) (by omega)]; omega
    simp only [spec_l29Draw.l1, e1]
    exact Ev.pos (by omega) (Ev.pos (by omega) h1)
theorem spec_l29Draw_l0 (c : List Int) : ∀ (n : Nat) (out : List S70) (p s : Int) (a b d e : Int), n ≤ 1000 → out.length + n ≤ 2000 → Src c p s → machOk a b d e = true → ∃ l p' s', Ev (fun k => spec_l29Draw.l0 k out (n : Int) c p s a b d e) (l, p', s') ∧ Src c p' s' ∧ l.length ≤ 3000 := by
  intro n
  induction n with
  | zero =>
    intro out p s a b d e hn ho h hm
    obtain ⟨r1, p1, s1, e1, h1, _⟩ := spec_l01Next_ok h 50
    by_cases z1 : r1 = 0
    · obtain ⟨r2, p2, s2, e2, h2, g2, g3⟩ := spec_l01Next_ok h1 2
      have er : wrap64 (199 + r2) = ((199 + r2.toNat : Nat) : Int) := by rw [w64 (by omega) (by omega)]; omega
      obtain ⟨l, h3, h4⟩ := spec_l29Draw_l1 c p2 s2 (199 + r2.toNat) [⟨1, 1⟩] (by omega) (by rw [List.length_singleton]; omega)
      rw [List.length_singleton] at h4
      refine ⟨l, p2, s2, Ev.succ ?_, h2, by omega⟩
      simp only [spec_l29Draw.l0]
      refine Ev.neg (by omega) (Ev.bind (Ev.eq e1) (Ev.pos z1 (Ev.bind (Ev.eq e2) ?_)))
      simp only [er]
      exact h3
    · refine ⟨out, p1, s1, Ev.succ ?_, h1, by omega⟩
      simp only [spec_l29Draw.l0]
      exact Ev.neg (by omega) (Ev.bind (Ev.eq e1) (Ev.neg z1 (Ev.eq rfl)))
  | succ n ih =>
    intro out p s a b d e hn ho h hm
    have ew : wrap64 (((n + 1 : Nat) : Int) - 1) = (n : Int) := by rw [w64 (by omega) (by omega)]; omega
    obtain ⟨x0, x1, p1, s1, e1, h1⟩ := spec_l29DrawEntry_ok h a b d e
    obtain ⟨r, k1, k2⟩ := spec_l29Make_eq (k := x0) (v := x1) hm
    have hlen : (out ++ [(⟨x0, x1⟩ : S70)]).length + n ≤ 2000 := by rw [List.length_append, List.length_singleton]; omega
    by_cases hr : r.2.2.2.2 = true
    · cases hs : stepM a b d e x0 x1 with
      | none =>
        rw [hs] at k2
        simp only [Tells] at k2
        rw [k2] at hr; cases hr
      | some t =>
        rw [hs] at k2
        simp only [Tells] at k2
        subst k2
        obtain ⟨l, p', s', h3, h4, h5⟩ := ih (out ++ [⟨x0, x1⟩]) p1 s1 t.1 t.2.1 t.2.2.1 t.2.2.2 (by omega) hlen h1 (stepM_ok hm hs)
        refine ⟨l, p', s', Ev.succ ?_, h4, h5⟩
        simp only [spec_l29Draw.l0, ew]
        exact Ev.pos (by omega) (Ev.bind e1 (Ev.bind (Ev.eq k1) (Ev.pos rfl (Ev.pos (by omega) h3))))
    · obtain ⟨r2, p2, s2, e2, h2, _⟩ := spec_l01Next_ok h1 6
      by_cases z2 : r2 > 0
      · obtain ⟨l, p', s', h3, h4, h5⟩ := ih out p2 s2 a b d e (by omega) (by omega) h2 hm
        refine ⟨l, p', s', Ev.succ ?_, h4, h5⟩
        simp only [spec_l29Draw.l0, ew]
        exact Ev.pos (by omega) (Ev.bind e1 (Ev.bind (Ev.eq k1) (Ev.neg hr (Ev.bind (Ev.eq e2) (Ev.pos z2 h3)))))
      · obtain ⟨l, p', s', h3, h4, h5⟩ := ih (out ++ [⟨x0, x1⟩]) p2 s2 a b d e (by omega) hlen h2 hm
        refine ⟨l, p', s', Ev.succ ?_, h4, h5⟩
        simp only [spec_l29Draw.l0, ew]
        exact Ev.pos (by omega) (Ev.bind e1 (Ev.bind (Ev.eq k1) (Ev.neg hr (Ev.bind (Ev.eq e2) (Ev.neg z2 (Ev.pos (by omega) h3))))))
theorem spec_l29Draw_ok {c : List Int} {p s : Int} (h : Src c p s) : ∃ l p' s', Ev (fun k => spec_l29Draw.f k c p s) (l, p', s') ∧ Src c p' s' ∧ l.length ≤ 3000 := by
  obtain ⟨r, p1, s1, e1, h1, g1, g2⟩ := spec_l01Next_ok h 14
  obtain ⟨l, p', s', h3, h4, h5⟩ := spec_l29Draw_l0 c r.toNat [] p1 s1 0 0 0 0 (by omega) (by simp; omega) h1 (by decide)
  have er : ((r.toNat : Nat) : Int) = r := by omega
  rw [er] at h3
  unfold spec_l29Draw.f
  exact ⟨l, p', s', Ev.bind (Ev.eq e1) h3, h4, h5⟩
theorem journalB_size : ∀ (l : List S70) (i : Nat) (o : ByteArray), (∀ e ∈ l, (0 ≤ e.f1 ∧ e.f1 ≤ 1000000000) ∧ (1 ≤ e.f0 ∧ e.f0 ≤ 4)) → (journalB l i o).size ≤ o.size + 66 * l.length
  | [], _, o, _ => by simp [journalB]
  | e :: es, i, o, h => by
    have h1 := h e (by simp)
    have h2 := lineB_le (a := e.f0) (b := e.f1) (i := (i : Int)) (by omega) (by omega)
    have h3 := journalB_size es (i + 1) (o ++ (lineB e.f0 e.f1 (i : Int) ++ (⟨#[10]⟩ : ByteArray))) (fun x hx => h x (by simp [hx]))
    rw [journalB]
    simp only [bj_size, t1n, List.length_cons] at h3 ⊢
    omega
theorem journalText_size (l : List S70) : (journalText l).1.size ≤ 13200 := by
  unfold journalText
  split
  · rename_i h
    obtain ⟨h1, t, ht⟩ := endM_true h
    have h2 := journalB_size l 0 ⟨#[]⟩ (runM_kinds l _ t ht)
    have e : (⟨#[]⟩ : ByteArray).size = 0 := rfl
    simp only
    omega
  · exact Nat.zero_le _
theorem extract_size (t : ByteArray) (i j : Nat) : (t.extract i j).size ≤ t.size := by
  rw [ByteArray.size_extract]; omega
theorem rdOf_small {l : List ByteArray} (h : ∀ x ∈ l, x.size ≤ 1) (i : Int) : (rdOf ByteArray.empty l i).size ≤ 1 := by
  unfold rdOf
  by_cases hi : i.toNat < l.length
  · exact h _ (getD_mem l ByteArray.empty i.toNat hi)
  · rw [List.getD, List.getElem?_eq_none (by omega)]
    exact Nat.zero_le _
theorem spec_l01Damage_ok {c : List Int} {p s : Int} (h : Src c p s) (t : ByteArray) (ht : t.size ≤ 1000000) : ∃ u p' s', spec_l01Damage.f c p s t = some (u, p', s') ∧ Src c p' s' ∧ u.size ≤ t.size + 1 := by
  obtain ⟨r1, p1, s1, e1, h1, g1, g2⟩ := spec_l01Next_ok h (wrap64 ((t.size : Int) + 1))
  have ew : wrap64 ((t.size : Int) + 1) = (t.size : Int) + 1 := w64 (by omega) (by omega)
  obtain ⟨r2, p2, s2, e2, h2, _⟩ := spec_l01Next_ok h1 8
  have hr : r1 ≤ (t.size : Int) := by rw [ew] at g2; omega
  have z1 := extract_size t 0 r1.toNat
  have z2 := extract_size t r1.toNat t.size
  unfold spec_l01Damage.f
  rw [e1, Option.bind_some]
  simp only
  rw [e2, Option.bind_some]
  simp only
  by_cases c1 : r2 = 0
  · rw [if_pos c1, if_pos g1, if_pos hr]
    exact ⟨_, _, _, rfl, h2, by omega⟩
  rw [if_neg c1]
  by_cases c2 : r2 = 1
  · obtain ⟨r3, p3, s3, e3, h3, g3, g4⟩ := spec_l01Next_ok h2 8
    rw [if_pos c2, if_pos g1, if_pos hr, Option.bind_some, e3, Option.bind_some]
    simp only
    have z3 := rdOf_small (l := [(⟨#[48]⟩ : ByteArray), (⟨#[49]⟩ : ByteArray), (⟨#[32]⟩ : ByteArray), (⟨#[45]⟩ : ByteArray), (⟨#[46]⟩ : ByteArray), (⟨#[44]⟩ : ByteArray), (⟨#[10]⟩ : ByteArray), (⟨#[120]⟩ : ByteArray)]) (by decide) r3
    have zs : (t.extract 0 r1.toNat).size + (t.extract r1.toNat t.size).size ≤ t.size := by rw [ByteArray.size_extract, ByteArray.size_extract]; omega
    rw [if_pos g3, if_pos (by simp only [List.length_cons, List.length_nil]; omega), if_pos (by omega), if_pos (by rw [bj_size]; omega)]
    exact ⟨_, _, _, rfl, h3, by rw [bj_size, bj_size]; omega⟩
  rw [if_neg c2]
  by_cases c3 : r2 = 2
  · rw [if_pos c3]
    by_cases c4 : r1 < (t.size : Int)
    · have e4 : wrap64 (r1 + 1) = r1 + 1 := w64 (by omega) (by omega)
      have z4 := extract_size t (r1 + 1).toNat t.size
      have zs : (t.extract 0 r1.toNat).size + (t.extract (r1 + 1).toNat t.size).size ≤ t.size := by rw [ByteArray.size_extract, ByteArray.size_extract]; omega
      rw [if_pos c4, if_pos g1, if_pos hr, e4, if_pos (by omega), if_pos (by omega), if_pos (by omega)]
      exact ⟨_, _, _, rfl, h2, by rw [bj_size]; omega⟩
    · rw [if_neg c4]
      exact ⟨_, _, _, rfl, h2, by omega⟩
  · rw [if_neg c3]
    exact ⟨_, _, _, rfl, h2, by omega⟩
theorem spec_l29DrawText_ok {c : List Int} {p s : Int} (h : Src c p s) : ∃ u p' s', Ev (fun k => spec_l29DrawText.f k c p s) (u, p', s') ∧ Src c p' s' := by
  obtain ⟨l, p1, s1, e1, h1, hl⟩ := spec_l29Draw_ok h
  have e2 := spec_JournalText_ev (l := l) (by omega)
  have hz := journalText_size l
  obtain ⟨r3, p3, s3, e3, h3, _⟩ := spec_l01Next_ok h1 3
  unfold spec_l29DrawText.f
  by_cases c1 : r3 = 0
  · obtain ⟨u, p4, s4, e4, h4, _⟩ := spec_l01Damage_ok h3 (journalText l).1 (by omega)
    exact ⟨u, p4, s4, Ev.bind e1 (Ev.bind e2 (Ev.bind (Ev.eq e3) (Ev.pos c1 (Ev.bind (Ev.eq e4) (Ev.eq rfl))))), h4⟩
  obtain ⟨r4, p4, s4, e4, h4, _⟩ := spec_l01Next_ok h3 50
  by_cases c2 : r4 = 0
  · obtain ⟨r5, p5, s5, e5, h5, g5, g6⟩ := spec_l01Next_ok h4 2
    have ew : wrap64 (8000 + r5) = 8000 + r5 := w64 (by omega) (by omega)
    refine ⟨_, p5, s5, Ev.bind e1 (Ev.bind e2 (Ev.bind (Ev.eq e3) (Ev.neg c1 (Ev.bind (Ev.eq e4) (Ev.pos c2 (Ev.bind (Ev.eq e5) (Ev.pos ?_ (Ev.pos ?_ (Ev.eq rfl))))))))), h5⟩
    · simp only [ew]; omega
    · simp only [ew]; omega
  · exact ⟨(journalText l).1, p4, s4, Ev.bind e1 (Ev.bind e2 (Ev.bind (Ev.eq e3) (Ev.neg c1 (Ev.bind (Ev.eq e4) (Ev.neg c2 (Ev.eq rfl)))))), h4⟩
end Go.Proofs.YtoiioapkebglgaaDoor.PG
end
