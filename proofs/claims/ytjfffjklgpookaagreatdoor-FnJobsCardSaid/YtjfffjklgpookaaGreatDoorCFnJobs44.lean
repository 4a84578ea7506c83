import Derived.Test.YtjfffjklgpookaaGreatDoorCFnJobs26
import Derived.Test.YtjfffjklgpookaaGreatDoorCFnJobs41
import Derived.Test.YtjfffjklgpookaaGreatDoorCFnJobs43
set_option linter.unusedVariables false
set_option linter.unusedSimpArgs false
section
namespace Go.Proofs.YtjfffjklgpookaaGreatDoor.Pure
open Go.RowKit Go.Proofs.YtjfffjklgpookaaGreatDoorW.PrintWords Go.Proofs.YtjfffjklgpookaaGreatDoorB Go.Proofs.YtjfffjklgpookaaGreatDoor.PJ
theorem law_job {x5 x6 : Int} {j : JJ} (h : x6 = 0 → x5 = 0 ∧ jobOk j.n j.p j.t0 j.t1 j.t2 j.t3 j.g j.b j.u j.c = true) (hn : j.n.size ≤ 9223372036854775806) :
  Ev (fun k => if x6 = 0 then ((impl_IsJob.f k j.n j.p j.t0 j.t1 j.t2 j.t3 j.g j.b j.u j.c).bind fun t => (if t = true then (some (x5 == 0)) else (some false))) else (some true)) true := by
 refine Ev.ite (fun c => ?_) (fun _ => Ev.eq rfl)
 obtain ⟨h1, h2⟩ := h c
 exact Ev.bind (impl_IsJob_ev hn ..) (Ev.pos h2 (Ev.eq (by rw [h1]; rfl)))
theorem FnJobs : laws_FnJobs.Pure := by
 intro c hg
 refine Ev.rounds (g := fun k => laws_FnJobs.f k c) ?_
 unfold laws_FnJobs.f
 refine Ev.bind (a := decide ((c.length : Int) > 4096)) (Ev.eq rfl) (Ev.ite (fun _ => Ev.eq rfl) (fun h => ?_))
 have hc : c.length ≤ 1048576 := by
  simp only [decide_eq_true_eq] at h; omega
 obtain ⟨t, E1, ht⟩ := spec_DrawCompileJob_ok hg.2 hc
 obtain ⟨s, p, t0, t1, t2, t3, a, b, u, n, E2, hs⟩ := spec_DrawJobText_ok hg.2 hc
 have hok := @compOf_ok t
 have hi := impl_CompileJob_any t
 have hsp := spec_CompileJob_ev t
 have hnm : (compOf t).1.n.size ≤ 9223372036854775806 := comp_name t
 have hjob := @law_job (compOf t).2.1 (compOf t).2.2 (compOf t).1 hok hnm
 have j1 := impl_JobText_ev (s := s) (by omega) p t0 t1 t2 t3 a b u n
 have j2 := spec_JobText_ev (s := s) (by omega) p t0 t1 t2 t3 a b u n
 have j3 := impl_IsJob_ev (s := s) (by omega) p t0 t1 t2 t3 a b u n
 generalize compOf t = v at hi hsp hjob
 obtain ⟨⟨q0, q1, q2, q3, q4, q5, q6, q7, q8, q9⟩, x, e⟩ := v
 refine Ev.bind E1 (Ev.bind hi (Ev.bind hsp (Ev.bind E2 (Ev.bind j1 (Ev.bind j2 (Ev.pos rfl (Ev.neg (by simp) (Ev.pos rfl (Ev.pos rfl (Ev.pos rfl (Ev.bind j3 (Ev.succ ?_))))))))))))
 have hflag : (jobOk s p t0 t1 t2 t3 a b u n != ((jobText s p t0 t1 t2 t3 a b u n).2 == 0)) = false := by
  unfold jobText
  by_cases c1 : jobOk s p t0 t1 t2 t3 a b u n = true
  ·rw [if_pos c1, c1]; rfl
  ·rw [if_neg c1, Bool.eq_false_iff.2 c1]; rfl
 simp only [laws_FnJobs.j0, hflag]
 refine Ev.neg (by simp) (Ev.ite (fun c1 => ?_) (fun _ => hjob))
 by_cases c2 : jobOk s p t0 t1 t2 t3 a b u n = true
 ·have e1 : jobText s p t0 t1 t2 t3 a b u n = (jobB s p t0 t1 t2 t3 a b u n, 0) := by unfold jobText; rw [if_pos c2]
  have hz := jobB_le c2
  have hrt := round_trip c2 (by omega)
  have hb := impl_CompileJob_any (jobB s p t0 t1 t2 t3 a b u n)
  rw [hrt] at hb
  rw [e1]
  exact Ev.bind hb (Ev.pos rfl (Ev.neg (by simp) (Ev.pos rfl hjob)))
 ·unfold jobText at c1
  rw [if_neg c2] at c1; cases c1
end Go.Proofs.YtjfffjklgpookaaGreatDoor.Pure
end
