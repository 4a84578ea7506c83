-- Gathered by this session's program wip/tool/shake.py out of its own texts and of what the kit's print and the session's patches of it wrote for this claim.
import Derived.Lib.EndianBits
import Derived.Test.YtoiioapkebglgaaDoorCFnJournals18
import Derived.Test.YtoiioapkebglgaaDoorCFnJournals20
import Derived.Test.YtoiioapkebglgaaDoorCFnJournals21
import Derived.Test.YtoiioapkebglgaaDoorCFnJournals23
import Derived.Test.YtoiioapkebglgaaDoorCFnJournals27
import Derived.Test.YtoiioapkebglgaaDoorCFnJournals28
import Derived.Test.YtoiioapkebglgaaDoorCFnJournals40
import Derived.Test.YtoiioapkebglgaaDoorCFnJournals42
import Derived.Test.YtoiioapkebglgaaDoorCFnJournals43
section
namespace Go.Proofs.YtoiioapkebglgaaDoor.Pure
open Go.RowKit Go.Proofs.YtoiioapkebglgaaDoorW.PrintWords Go.Proofs.YtoiioapkebglgaaDoorB Go.Proofs.YtoiioapkebglgaaDoor.PG
set_option linter.unusedVariables false
set_option linter.unusedSimpArgs false
theorem laws_likeEntries9_l0 (l : List S70) (hl : l.length ≤ 1048576) : ∀ d i, i + d = l.length → Ev (fun k => laws_likeEntries9.l0 k l l (i : Int)) true := by
  intro d
  induction d with
  | zero =>
    intro i hi
    refine Ev.succ ?_
    simp only [laws_likeEntries9.l0]
    exact Ev.neg (by omega) (Ev.eq rfl)
  | succ d ih =>
    intro i hi
    have e1 : wrap64 ((i : Int) + 1) = ((i + 1 : Nat) : Int) := wrap_next (by omega)
    refine Ev.succ ?_
    simp only [laws_likeEntries9.l0, e1]
    exact Ev.pos (by omega) (Ev.pos (by omega) (Ev.pos (by omega) (Ev.neg (by simp) (ih (i + 1) (by omega)))))
theorem likeEntries9_refl {l : List S70} (hl : l.length ≤ 1048576) : Ev (fun k => laws_likeEntries9.f k l l) true := by
  unfold laws_likeEntries9.f
  exact Ev.pos rfl (laws_likeEntries9_l0 l hl l.length 0 (by omega))
theorem laws_roll_ev (l0 : List Int) (hl : l0.length ≤ 4096) (a : Int) : ∃ s, Ev (fun k => laws_roll.f k l0 a) (l0, 0, s) := by
  have key : ∀ d i, i + d = l0.length → ∀ s : Int, ∃ s', Ev (fun k => laws_roll.l0 k l0 (i : Int) l0 0 s) (l0, 0, s') := by
    intro d
    induction d with
    | zero =>
      intro i hi s
      refine ⟨s, Ev.succ ?_⟩
      simp only [laws_roll.l0]
      exact Ev.neg (by omega) (Ev.eq rfl)
    | succ d ih =>
      intro i hi s
      have e1 : wrap64 ((i : Int) + 1) = ((i + 1 : Nat) : Int) := wrap_next (by omega)
      obtain ⟨s', h⟩ := ih (i + 1) (by omega) (IntKind.u64.wrap ((IntKind.u64.wrap ((IntKind.u64.wrap (s * 1099511628211)) + (IntKind.u64.wrap (rd l0 (i : Int))))) + 5))
      refine ⟨s', Ev.succ ?_⟩
      simp only [laws_roll.l0, e1]
      exact Ev.pos (by omega) (Ev.pos (by omega) h)
  unfold laws_roll.f
  exact key l0.length 0 (by omega) _
theorem mask_range (z : Int) : 0 ≤ Go.bits .and .u64 ((IntKind.u64.wrap z) / 8589934592) 16777215 ∧ Go.bits .and .u64 ((IntKind.u64.wrap z) / 8589934592) 16777215 < 16777216 := by
  have hw : IntKind.u64.wrap z = z % 18446744073709551616 := by rw [IntKind.wrap_u64]
  generalize IntKind.u64.wrap z = y at hw
  have h0 : 0 ≤ y ∧ y < 18446744073709551616 := by omega
  have h := bits_mask .u64 64 (by decide) wraps_u64 24 (by decide) (y / 8589934592) (by omega) (by omega)
  have e : (2 : Int) ^ 24 - 1 = 16777215 := by decide
  have e2 : (2 : Int) ^ 24 = 16777216 := by decide
  rw [e, e2] at h
  rw [h]
  omega
theorem laws_below_ev (l0 : List Int) (hc : ∀ y ∈ l0, 0 ≤ y ∧ y ≤ 255) (s n : Int) (hn : 1 ≤ n) : ∃ r q, laws_dice_below.f l0 0 s n = some (r, q) ∧ 0 ≤ r ∧ r < n := by
  have hm := mask_range ((IntKind.u64.wrap (s * 6364136223846793005)) + 1442695040888963407)
  have hb := Go.Proofs.YtoiioapkebglgaaDoor.PG.byte_at hc 0
  unfold laws_dice_below.f
  generalize Go.bits .and .u64 ((IntKind.u64.wrap ((IntKind.u64.wrap (s * 6364136223846793005)) + 1442695040888963407)) / 8589934592) 16777215 = x at hm ⊢
  have ex : wrap64 x = x := w64 (by omega) (by omega)
  have eb : wrap64 (rd l0 0) = rd l0 0 := w64 (by omega) (by omega)
  have es : wrap64 (x + rd l0 0) = x + rd l0 0 := w64 (by omega) (by omega)
  by_cases c : (0 : Int) < (l0.length : Int)
  · rw [if_pos c, if_pos (Int.le_refl 0), if_neg (by omega), ex, eb, es]
    exact ⟨_, _, rfl, Int.tmod_nonneg _ (by omega), Int.tmod_lt_of_pos _ (by omega)⟩
  · rw [if_neg c, if_neg (by omega), ex]
    exact ⟨_, _, rfl, Int.tmod_nonneg _ (by omega), Int.tmod_lt_of_pos _ (by omega)⟩
/-- What RunJournal answers. -/
def runOut (l : List S70) : Int × Int × Int × Int × Int := codeM (endM l.length (runM m0 l))
theorem spec_RunJournal_ev {l : List S70} (hl : l.length ≤ 1048576) : Ev (fun k => spec_RunJournal.f k l) (runOut l) := by
  unfold spec_RunJournal.f runOut
  refine Ev.bind (spec_l29Run_ev (by omega)) ?_
  exact Ev.ite (fun h => Ev.eq (by rw [codeM, if_pos h])) (fun h => Ev.eq (by rw [codeM, if_neg h]))
theorem impl_RunJournal_ev {l : List S70} (hl : l.length ≤ 1048576) : Ev (fun k => impl_RunJournal.f k l) (runOut l) := by
  unfold impl_RunJournal.f runOut
  refine Ev.bind (impl_runEntries_ev (by omega)) ?_
  exact Ev.ite (fun h => Ev.eq (by rw [codeM, if_pos h])) (fun h => Ev.eq (by rw [codeM, if_neg h]))
theorem runOut_some {l : List S70} {t : Mach} (hl : l.length ≤ 200) (h : runM m0 l = some t) : runOut l = (t.1, t.2.1, t.2.2.1, t.2.2.2, 0) := by
  unfold runOut codeM
  rw [h]
  have e : (endM l.length (some t)).2.2.2.2 = true := decide_eq_true (show ((l.length : Nat) : Int) ≤ 200 by omega)
  rw [if_pos e]
  rfl
theorem impl_recover_own {l : List S70} {t : Mach} (hl : l.length ≤ 200) (h : runM m0 l = some t) (n : Nat) (hn : n ≤ (journalB l 0 ⟨#[]⟩).size) :
    Ev (fun k => impl_RecoverJournal.f k ((journalB l 0 ⟨#[]⟩).extract 0 n)) (l.take ((journalB l 0 ⟨#[]⟩).data.toList.take n |>.count 10), 0) := by
  have hf : fine l := runM_kinds l _ t h
  have hd : (journalB l 0 ⟨#[]⟩).data.toList = joinN (linesE l 0) := by rw [journalB_data]; rfl
  have hs := joinN_short l 0 hf (by omega)
  rw [← hd, data_length] at hs
  have hx := extract_size (journalB l 0 ⟨#[]⟩) 0 n
  have h1 := impl_RecoverJournal_ev ((journalB l 0 ⟨#[]⟩).extract 0 n)
  unfold recOut at h1
  rw [if_neg (by omega), recL_journal h hl n hn] at h1
  exact h1
theorem FnJournals_tail {l : List S70} {t : Mach} (hl : l.length ≤ 200) (h : runM m0 l = some t) (cut : Nat) (hcut : cut ≤ (journalB l 0 ⟨#[]⟩).size) :
    ∀ d i, i + d = cut → Ev (fun k => laws_FnJournals.l0 k l (journalB l 0 ⟨#[]⟩) (l.drop (cutAt 0 0 l)) (cut : Int) (((journalB l 0 ⟨#[]⟩).data.toList.take i |>.count 10 : Nat) : Int) (i : Int) t.1 t.2.1 t.2.2.1 t.2.2.2) true := by
  have hf : fine l := runM_kinds l _ t h
  have hd : (journalB l 0 ⟨#[]⟩).data.toList = joinN (linesE l 0) := by rw [journalB_data]; rfl
  have hs := joinN_short l 0 hf (by omega)
  have hdl := data_length (journalB l 0 ⟨#[]⟩)
  rw [← hd, hdl] at hs
  intro d
  induction d with
  | zero =>
    intro i hi
    have hic : i = cut := by omega
    subst hic
    have r1 := impl_recover_own hl h (journalB l 0 ⟨#[]⟩).size (Nat.le_refl _)
    have r2 := impl_recover_own hl h i hcut
    have e1 : (journalB l 0 ⟨#[]⟩).extract 0 (journalB l 0 ⟨#[]⟩).size = journalB l 0 ⟨#[]⟩ := by
      apply ba_of
      rw [extract_list, List.drop_zero, mk_list, ← hdl, List.take_length]
    have e2 : l.take ((journalB l 0 ⟨#[]⟩).data.toList.take (journalB l 0 ⟨#[]⟩).size |>.count 10) = l := by
      rw [← hdl, List.take_length]
      have hsp := splitL_joinN (linesE l 0) (linesE_no l 0 hf (by omega))
      have hcnt := splitL_length 10 (joinN (linesE l 0))
      rw [hsp, List.length_append, List.length_singleton, linesE_length] at hcnt
      rw [hd, List.take_of_length_le (by omega)]
    rw [e1, e2] at r1
    have hcl : ((journalB l 0 ⟨#[]⟩).data.toList.take i |>.count 10) ≤ l.length := by
      have h1 : ((journalB l 0 ⟨#[]⟩).data.toList.take i).count 10 ≤ (journalB l 0 ⟨#[]⟩).data.toList.count 10 := (List.take_sublist _ _).count_le _
      have hsp := splitL_joinN (linesE l 0) (linesE_no l 0 hf (by omega))
      have hcnt := splitL_length 10 (joinN (linesE l 0))
      rw [hsp, List.length_append, List.length_singleton, linesE_length] at hcnt
      rw [hd] at h1 ⊢
      omega
    obtain ⟨u, h3, h4, h5, h6, h7⟩ := cut_top h
    have r3 := impl_RunJournal_ev (l := l.drop (cutAt 0 0 l)) (by rw [List.length_drop]; omega)
    rw [runOut_some (by rw [List.length_drop]; omega) h3] at r3
    have hm := runM_ok l m0 t (by decide) h
    generalize ((journalB l 0 ⟨#[]⟩).data.toList.take i |>.count 10) = n at r2 hcl ⊢
    have q1 := likeEntries9_refl (l := l) (by omega)
    have q2 := likeEntries9_refl (l := l.take n) (by rw [List.length_take]; omega)
    refine Ev.succ ?_
    simp only [laws_FnJournals.l0, Int.toNat_natCast]
    refine Ev.neg (by omega) (Ev.bind r1 (Ev.pos (by omega) (Ev.pos (by omega) (Ev.bind r2 (Ev.bind r3 (Ev.pos rfl (Ev.bind q1 (Ev.pos rfl ?_))))))))
    refine Ev.pos rfl (Ev.pos (by omega) (Ev.pos (by omega) (Ev.bind q2 (Ev.pos rfl (Ev.pos rfl (Ev.pos h4.symm (Ev.pos h5.symm (Ev.pos h6.symm (Ev.bind (Ev.eq (impl_IsMachine_eq _ _ _ _)) (Ev.eq ?_))))))))))
    rw [hm]
  | succ d ih =>
    intro i hi
    have hlt : i < (journalB l 0 ⟨#[]⟩).data.toList.length := by omega
    have hb := bt_get' (journalB l 0 ⟨#[]⟩) i hlt
    have htk : (journalB l 0 ⟨#[]⟩).data.toList.take (i + 1) = (journalB l 0 ⟨#[]⟩).data.toList.take i ++ [(journalB l 0 ⟨#[]⟩).data.toList[i]] := List.take_succ_eq_append_getElem hlt
    have h1 := ih (i + 1) (by omega)
    rw [htk, List.count_append] at h1
    have hcc : ((journalB l 0 ⟨#[]⟩).data.toList.take i).count 10 ≤ i := by
      have := List.count_le_length (a := (10 : UInt8)) (l := (journalB l 0 ⟨#[]⟩).data.toList.take i)
      rw [List.length_take] at this
      omega
    generalize (journalB l 0 ⟨#[]⟩).data.toList[i] = y at hb h1
    generalize ((journalB l 0 ⟨#[]⟩).data.toList.take i).count 10 = n at h1 hcc ⊢
    have e1 : wrap64 ((i : Int) + 1) = ((i + 1 : Nat) : Int) := wrap_next (by omega)
    refine Ev.succ ?_
    simp only [laws_FnJournals.l0, hb, e1]
    refine Ev.pos (by omega) (Ev.pos (by omega) (Ev.pos (by omega) (Ev.ite (fun c => ?_) (fun c => ?_))))
    · have hy : y = 10 := (Go.Proofs.YtoiioapkebglgaaDoor.PG.byteOf 10 y).1 c
      subst hy
      have e2 : wrap64 ((n : Int) + 1) = ((n + 1 : Nat) : Int) := wrap_next (by omega)
      have e3 : ([(10 : UInt8)] : List UInt8).count 10 = 1 := by decide
      rw [e3] at h1
      rw [e2]
      exact h1
    · have hy : ¬ y = 10 := fun h => c ((Go.Proofs.YtoiioapkebglgaaDoor.PG.byteOf 10 y).2 h)
      have e3 : ([y] : List UInt8).count 10 = 0 := by rw [List.count_eq_zero]; simp; exact fun h => hy h.symm
      rw [e3, Nat.add_zero] at h1
      exact h1
theorem FnJournals_j0 (l0 : List Int) (hc : ∀ y ∈ l0, 0 ≤ y ∧ y ≤ 255) (h0 : l0.length ≤ 4096) (l : List S70) (hl : l.length ≤ 1048576) :
    Ev (fun k => laws_FnJournals.j0 k l0 l (journalText l).1 (journalText l).2 (cut l).1 false (runOut l).1 (runOut l).2.1 (runOut l).2.2.1 (runOut l).2.2.2.1) true := by
  refine Ev.succ ?_
  simp only [laws_FnJournals.j0]
  refine Ev.neg (by simp) (Ev.ite (fun hz => ?_) (fun _ => Ev.eq rfl))
  by_cases hv : (endM l.length (runM (0, 0, 0, 0) l)).2.2.2.2 = true
  · obtain ⟨hn, t, ht⟩ := endM_true hv
    have ht' : runM m0 l = some t := ht
    have e1 : journalText l = (journalB l 0 ⟨#[]⟩, 0) := by unfold journalText; rw [if_pos hv]
    have e2 : cut l = (l.drop (cutAt 0 0 l), 0) := by unfold cut; rw [if_pos hv]
    have hf : fine l := runM_kinds l _ t ht
    have hd : (journalB l 0 ⟨#[]⟩).data.toList = joinN (linesE l 0) := by rw [journalB_data]; rfl
    have hs := joinN_short l 0 hf (by omega)
    rw [← hd, data_length] at hs
    rw [e1, e2, runOut_some hn ht']
    simp only
    obtain ⟨s, r1⟩ := laws_roll_ev l0 h0 2901
    have ew : wrap64 (((journalB l 0 ⟨#[]⟩).size : Int) + 1) = ((journalB l 0 ⟨#[]⟩).size : Int) + 1 := w64 (by omega) (by omega)
    obtain ⟨r, q, r2, r3, r4⟩ := laws_below_ev l0 hc s (wrap64 (((journalB l 0 ⟨#[]⟩).size : Int) + 1)) (by rw [ew]; omega)
    rw [ew] at r4
    refine Ev.bind r1 (Ev.bind (Ev.eq r2) ?_)
    have er : ((r.toNat : Nat) : Int) = r := by omega
    have h := FnJournals_tail hn ht' r.toNat (by omega) r.toNat 0 (by omega)
    rw [er] at h
    exact h
  · have e1 : journalText l = (⟨#[]⟩, 1) := by unfold journalText; rw [if_neg hv]
    rw [e1] at hz
    exact absurd hz (by decide)
theorem codes_eq (l : List S70) : ((runOut l).2.2.2.2 != (journalText l).2) = false := by
  unfold runOut codeM journalText
  by_cases hv : (endM l.length (runM (0, 0, 0, 0) l)).2.2.2.2 = true
  · have hv' : (endM l.length (runM m0 l)).2.2.2.2 = true := hv
    rw [if_pos hv, if_pos hv']; rfl
  · have hv' : ¬ (endM l.length (runM m0 l)).2.2.2.2 = true := hv
    rw [if_neg hv, if_neg hv']; rfl
theorem FnJournals : laws_FnJournals.Pure := by
  intro l0 hl
  refine Ev.rounds (g := fun k => laws_FnJournals.f k l0) ?_
  unfold laws_FnJournals.f
  refine Ev.bind (a := decide ((l0.length : Int) > 4096)) (Ev.eq rfl) (Ev.ite (fun _ => Ev.eq rfl) (fun hb => ?_))
  have hb' : ¬ ((l0.length : Int) > 4096) := fun h => hb (decide_eq_true h)
  obtain ⟨seed, d0, hS⟩ := spec_l01From_ev hl.2 (by omega)
  obtain ⟨l, p1, s1, d1, _, hlen⟩ := spec_l29Draw_ok hS
  obtain ⟨t, p2, s2, d2, _⟩ := spec_l29DrawText_ok hS
  have g1 : Ev (fun k => spec_DrawJournalText.f k l0) l := by
    unfold spec_DrawJournalText.f
    exact Ev.bind d0 (Ev.bind d1 (Ev.eq rfl))
  have g2 : Ev (fun k => spec_DrawRecoverJournal.f k l0) t := by
    unfold spec_DrawRecoverJournal.f
    exact Ev.bind d0 (Ev.bind d2 (Ev.eq rfl))
  have j1 := impl_JournalText_ev (l := l) (by omega)
  have j2 := spec_JournalText_ev (l := l) (by omega)
  have r1 := impl_RecoverJournal_ev t
  have r2 := spec_RecoverJournal_ev t
  have m1 := impl_RunJournal_ev (l := l) (by omega)
  have m2 := spec_RunJournal_ev (l := l) (by omega)
  have c1 := impl_CutJournal_ev (l := l) (by omega)
  have c2 := spec_CutJournal_ev (l := l) (by omega)
  have w1 := impl_WorstStation_ev (l := l) (by omega)
  have w2 := spec_WorstStation_ev (l := l) (by omega)
  have hro := recOut_length t
  have hcl := cut_length l
  have q1 := likeEntries9_refl (l := (recOut t).1) (by omega)
  have q2 := likeEntries9_refl (l := (cut l).1) (by omega)
  have hj := FnJournals_j0 l0 hl.2 (by omega) l (by omega)
  rw [← codes_eq l] at hj
  refine Ev.bind g1 (Ev.bind j1 (Ev.bind j2 (Ev.bind g2 (Ev.bind r1 (Ev.bind r2 (Ev.bind m1 (Ev.bind m2 (Ev.bind c1 (Ev.bind c2 (Ev.bind w1 (Ev.bind w2 ?_)))))))))))
  exact Ev.pos rfl (Ev.pos rfl (Ev.pos rfl (Ev.bind q1 (Ev.pos rfl (Ev.pos rfl (Ev.neg (by simp) (Ev.pos rfl (Ev.bind q2 (Ev.pos rfl (Ev.pos rfl (Ev.pos rfl (Ev.pos rfl hj))))))))))))
end Go.Proofs.YtoiioapkebglgaaDoor.Pure
end
