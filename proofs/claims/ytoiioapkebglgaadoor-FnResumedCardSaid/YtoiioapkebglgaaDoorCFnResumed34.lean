-- Gathered by this session's program wip/tool/shake.py out of its own texts and of what the kit's print and the session's patches of it wrote for this claim.
import Derived.Test.YtoiioapkebglgaaDoorCFnResumed15
import Derived.Test.YtoiioapkebglgaaDoorCFnResumed18
import Derived.Test.YtoiioapkebglgaaDoorCFnResumed19
import Derived.Test.YtoiioapkebglgaaDoorCFnResumed20
import Derived.Test.YtoiioapkebglgaaDoorCFnResumed21
import Derived.Test.YtoiioapkebglgaaDoorCFnResumed22
import Derived.Test.YtoiioapkebglgaaDoorCFnResumed31
import Derived.Test.YtoiioapkebglgaaDoorCFnResumed33
section
namespace Go.Proofs.YtoiioapkebglgaaDoor.Pure
open Go.RowKit Go.Proofs.YtoiioapkebglgaaDoorW.PrintWords Go.Proofs.YtoiioapkebglgaaDoorB Go.Proofs.YtoiioapkebglgaaDoor.PG
set_option linter.unusedVariables false
set_option linter.unusedSimpArgs false
theorem spec_DrawResumeJob_ok {l0 : List Int} (hc : ∀ y ∈ l0, 0 ≤ y ∧ y ≤ 255) (hl : l0.length ≤ 1048576) : ∃ t n, Ev (fun k => spec_DrawResumeJob.f k l0) (t, n) := by
  obtain ⟨seed, e0, h0⟩ := spec_l01From_ev hc hl
  obtain ⟨t, p1, s1, e1, h1⟩ := spec_l29DrawText_ok h0
  obtain ⟨r2, p2, s2, e2, h2, _⟩ := spec_l01Next_ok h1 400
  obtain ⟨r3, p3, s3, e3, h3, _⟩ := spec_l01Next_ok h2 400
  obtain ⟨r4, p4, s4, e4, h4, _⟩ := spec_l01Pick_ok h3 [(-1), 0, 1000000, 1000001] (by decide) (by decide)
  obtain ⟨r5, p5, s5, e5, h5, _⟩ := spec_l01Pick_ok h4 [r2, r3, r4] (by simp) (by simp)
  unfold spec_DrawResumeJob.f
  exact ⟨t, r5, Ev.bind e0 (Ev.bind e1 (Ev.bind (Ev.eq e2) (Ev.bind (Ev.eq e3) (Ev.bind (Ev.eq e4) (Ev.bind (Ev.eq e5) (Ev.eq rfl))))))⟩
theorem spec_l29DrawMachine_j0 {c : List Int} {p s : Int} (h : Src c p s) (a b d e : Int) : ∃ a' b' d' e' p' s', Ev (fun k => spec_l29DrawMachine.j0 k c p s a b d e) (a', b', d', e', p', s') ∧ Src c p' s' := by
  obtain ⟨r1, p1, s1, e1, h1, _⟩ := spec_l01Next_ok h 30
  by_cases z1 : r1 = 0
  · obtain ⟨r2, p2, s2, e2, h2, _⟩ := spec_l01Pick_ok h1 [(-1), 1, 1000000, 1000001] (by decide) (by decide)
    refine ⟨a, r2, d, e, p2, s2, Ev.succ ?_, h2⟩
    simp only [spec_l29DrawMachine.j0]
    exact Ev.bind (Ev.eq e1) (Ev.pos z1 (Ev.bind (Ev.eq e2) (Ev.eq rfl)))
  by_cases z2 : r1 = 1
  · obtain ⟨r2, p2, s2, e2, h2, _⟩ := spec_l01Pick_ok h1 [(-1), 1000000000, 1000000001] (by decide) (by decide)
    refine ⟨a, b, d, r2, p2, s2, Ev.succ ?_, h2⟩
    simp only [spec_l29DrawMachine.j0]
    exact Ev.bind (Ev.eq e1) (Ev.neg z1 (Ev.pos z2 (Ev.bind (Ev.eq e2) (Ev.eq rfl))))
  by_cases z3 : r1 = 2
  · obtain ⟨r2, p2, s2, e2, h2, _⟩ := spec_l01Pick_ok h1 [(-1), 0, 1000000000, 1000000001] (by decide) (by decide)
    refine ⟨r2, b, d, e, p2, s2, Ev.succ ?_, h2⟩
    simp only [spec_l29DrawMachine.j0]
    exact Ev.bind (Ev.eq e1) (Ev.neg z1 (Ev.neg z2 (Ev.pos z3 (Ev.bind (Ev.eq e2) (Ev.eq rfl)))))
  · refine ⟨a, b, d, e, p1, s1, Ev.succ ?_, h1⟩
    simp only [spec_l29DrawMachine.j0]
    exact Ev.bind (Ev.eq e1) (Ev.neg z1 (Ev.neg z2 (Ev.neg z3 (Ev.eq rfl))))
theorem spec_l29DrawMachine_ok {c : List Int} {p s : Int} (h : Src c p s) : ∃ a b d e p' s', Ev (fun k => spec_l29DrawMachine.f k c p s) (a, b, d, e, p', s') ∧ Src c p' s' := by
  obtain ⟨r1, p1, s1, e1, h1, _⟩ := spec_l01Next_ok h 5
  obtain ⟨r2, p2, s2, e2, h2, _⟩ := spec_l01Next_ok h1 3
  unfold spec_l29DrawMachine.f
  by_cases z : r2 > 0
  · obtain ⟨r3, p3, s3, e3, h3, _⟩ := spec_l01Next_ok h2 9
    obtain ⟨r4, p4, s4, e4, h4, _⟩ := spec_l01Next_ok h3 300
    obtain ⟨r5, p5, s5, e5, h5, _⟩ := spec_l01Next_ok h4 4
    obtain ⟨a, b, d, e, p6, s6, e6, h6⟩ := spec_l29DrawMachine_j0 h5 (wrap64 (1 + r3)) r4 r5 r1
    exact ⟨a, b, d, e, p6, s6, Ev.bind (Ev.eq e1) (Ev.bind (Ev.eq e2) (Ev.pos z (Ev.bind (Ev.eq e3) (Ev.bind (Ev.eq e4) (Ev.bind (Ev.eq e5) e6))))), h6⟩
  · obtain ⟨a, b, d, e, p6, s6, e6, h6⟩ := spec_l29DrawMachine_j0 h2 0 0 0 r1
    exact ⟨a, b, d, e, p6, s6, Ev.bind (Ev.eq e1) (Ev.bind (Ev.eq e2) (Ev.neg z e6)), h6⟩
theorem spec_DrawMakeEntry_ok {l0 : List Int} (hc : ∀ y ∈ l0, 0 ≤ y ∧ y ≤ 255) (hl : l0.length ≤ 1048576) : ∃ a b d e k v, Ev (fun n => spec_DrawMakeEntry.f n l0) (a, b, d, e, k, v) := by
  obtain ⟨seed, e0, h0⟩ := spec_l01From_ev hc hl
  obtain ⟨a, b, d, e, p1, s1, e1, h1⟩ := spec_l29DrawMachine_ok h0
  obtain ⟨x0, x1, p2, s2, e2, h2⟩ := spec_l29DrawEntry_ok h1 a b d e
  unfold spec_DrawMakeEntry.f
  exact ⟨a, b, d, e, x0, x1, Ev.bind e0 (Ev.bind e1 (Ev.bind e2 (Ev.eq rfl)))⟩
theorem stepM_end {a b c d k v : Int} {t : Int × Int × Int × Int} (h : stepM a b c d k v = some t) : d ≤ t.2.2.2 := by
  unfold stepM at h
  split at h
  · split at h
    · split at h
      · cases h; simp only; omega
      · cases h
    · split at h
      · split at h
        · cases h; simp only; omega
        · cases h
      · split at h
        · split at h
          · cases h; simp only; omega
          · cases h
        · split at h
          · split at h
            · cases h; simp only; omega
            · cases h
          · cases h
  · cases h
theorem makeBoth (a b c d k v : Int) : ∃ r, spec_MakeEntry.f a b c d k v = some r ∧ Ev (fun n => impl_MakeEntry.f n a b c d k v) r ∧ (r.2.2.2.2 = 0 → machOk r.1 r.2.1 r.2.2.1 r.2.2.2.1 = true ∧ d ≤ r.2.2.2.1) := by
  unfold spec_MakeEntry.f impl_MakeEntry.f
  simp only [spec_IsMachine_eq, impl_IsMachine_eq, Option.bind_some]
  cases hm : machOk a b c d
  · exact ⟨_, rfl, Ev.eq rfl, fun h => absurd h (by decide)⟩
  · obtain ⟨r, h1, h2⟩ := spec_l29Make_eq (k := k) (v := v) hm
    obtain ⟨q, g1, g2⟩ := impl_after_ev (k := k) (v := v) hm
    simp only [if_true, h1, Option.bind_some]
    cases hs : stepM a b c d k v with
    | none =>
      rw [hs] at h2 g2
      simp only [Tells] at h2 g2
      exact ⟨(0, 0, 0, 0, 5), by simp [h2], Ev.bind g1 (Ev.eq (by simp [g2])), fun h => absurd h (by decide)⟩
    | some t =>
      rw [hs] at h2 g2
      simp only [Tells] at h2 g2
      exact ⟨(t.1, t.2.1, t.2.2.1, t.2.2.2, 0), by simp [h2], Ev.bind g1 (Ev.eq (by simp [g2])), fun _ => ⟨stepM_ok hm hs, stepM_end hs⟩⟩
theorem impl_RunJournal_run {l : List S70} {m : Mach} (hl : l.length ≤ 200) (h : runM m0 l = some m) : Ev (fun k => impl_RunJournal.f k l) (m.1, m.2.1, m.2.2.1, m.2.2.2, 0) := by
  have h1 := impl_runEntries_ev (l := l) (by omega)
  rw [h] at h1
  unfold impl_RunJournal.f
  refine Ev.bind h1 (Ev.pos ?_ (Ev.eq rfl))
  simp only [endM]
  exact decide_eq_true (by omega)
theorem FnResumed : laws_FnResumed.Pure := by
  intro l0 hl
  refine Ev.rounds (g := fun k => laws_FnResumed.f k l0) ?_
  unfold laws_FnResumed.f
  refine Ev.bind (a := decide ((l0.length : Int) > 4096)) (Ev.eq rfl) (Ev.ite (fun _ => Ev.eq rfl) (fun hb => ?_))
  have hb' : ¬ ((l0.length : Int) > 4096) := fun h => hb (decide_eq_true h)
  obtain ⟨t, n, d1⟩ := spec_DrawResumeJob_ok hl.2 (by omega)
  obtain ⟨a, b, c, d, k, v, d2⟩ := spec_DrawMakeEntry_ok hl.2 (by omega)
  have r1 := impl_ResumeJob_ev t n
  have r2 := spec_ResumeJob_ev t n
  obtain ⟨⟨q0, q1, q2, q3, q4⟩, m1, m2, m3⟩ := makeBoth a b c d k v
  have key : Ev (fun k => laws_FnResumed.j1 k t n (resOut t n).1 (resOut t n).2.1 (resOut t n).2.2 false) true := by
    refine Ev.succ ?_
    simp only [laws_FnResumed.j1]
    refine Ev.neg (by simp) (Ev.ite (fun hz => ?_) (fun _ => Ev.eq rfl))
    obtain ⟨c1, c2, c3⟩ := resOut_zero hz
    have hrec : recOut t = ((recL m0 0 (linesOf t)).1, 0) := by unfold recOut; rw [if_neg c1]
    have hlen := recL_len (linesOf t) m0 0 (by omega)
    have h1 := impl_RecoverJournal_ev t
    rw [hrec] at h1
    have h2 := impl_RunJournal_run (by omega) (recL_run (linesOf t) m0 0 (by omega))
    refine Ev.bind h1 (Ev.bind h2 (Ev.pos rfl (Ev.pos rfl (Ev.pos c2.symm (Ev.eq ?_)))))
    rw [c3]
    simp
  refine Ev.bind d1 (Ev.bind r1 (Ev.bind r2 (Ev.bind d2 (Ev.bind m2 (Ev.bind (Ev.eq m1) (Ev.pos rfl (Ev.pos rfl (Ev.pos rfl (Ev.pos rfl (Ev.neg (by simp) ?_))))))))))
  refine Ev.bind (Ev.eq (impl_IsMachine_eq a b c d)) (Ev.bind (Ev.eq (spec_IsMachine_eq a b c d)) (Ev.succ ?_))
  simp only [laws_FnResumed.j0]
  refine Ev.neg (by simp) (Ev.ite (fun hz => ?_) (fun _ => key))
  obtain ⟨g1, g2⟩ := m3 hz
  simp only at g1 g2
  refine Ev.bind (Ev.eq (impl_IsMachine_eq q0 q1 q2 q3)) (Ev.pos g1 ?_)
  have e : decide (q3 < d) = false := decide_eq_false (by omega)
  simp only [e]
  exact key
end Go.Proofs.YtoiioapkebglgaaDoor.Pure
end
