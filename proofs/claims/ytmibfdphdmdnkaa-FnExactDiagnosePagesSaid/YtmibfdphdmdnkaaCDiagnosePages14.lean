-- Gathered by this session's program wip/tool/shake.py out of its own texts and of what the kit's print and the session's patches of it wrote for this claim.
import Derived.Test.YtmibfdphdmdnkaaCDiagnosePages6
import Derived.Test.YtmibfdphdmdnkaaCDiagnosePages8
import Derived.Test.YtmibfdphdmdnkaaCDiagnosePages10
import Derived.Test.YtmibfdphdmdnkaaCDiagnosePages13
section
namespace Go.Proofs.Ytmibfdphdmdnkaa.PX
open Go.RowKit Go.Proofs.YtmibfdphdmdnkaaW.PrintWords Go.Proofs.YtmibfdphdmdnkaaB
set_option linter.unusedVariables false
set_option linter.unusedSimpArgs false
/-- How many elements are other than 0. -/
def cntL : List Int → Int
  | [] => 0
  | x :: l => mn 1 x + cntL l
/-- What the reference tells of m stations: the best list, if there is one. -/
def bestB (l : List Int) (m st pl : Nat) : List Int × Bool := if xFew l m st pl ≥ 1000000000 then ([], false) else (runE l m st pl (xFew l m st pl), true)
/-- An explanation leaves no more than two sheets a station. -/
theorem few_long (l : List Int) : ∀ m st pl, pl ≤ l.length → xFew l m st pl < 1000000000 → l.length ≤ pl + 2 * m
  | 0, st, pl, hp, h => by
    unfold xFew at h
    split at h
    · omega
    · omega
  | m + 1, st, pl, hp, h => by
    unfold xFew at h
    have key : ∀ (ks : List Nat) (b : Int), (b < 1000000000 → l.length ≤ pl + 2 * (m + 1)) → ks.foldl (xBetter l (xFew l m (st + 1)) st pl) b < 1000000000 → l.length ≤ pl + 2 * (m + 1) := by
      intro ks
      induction ks with
      | nil => intro b hb h; exact hb h
      | cons k ks ih =>
        intro b hb h
        refine ih _ (fun h2 => ?_) h
        unfold xBetter at h2
        split at h2
        · exact hb h2
        · rename_i e he
          have h1 : 0 ≤ xOne k := by unfold xOne; split <;> omega
          rcases Int.lt_or_le b 1000000000 with h3 | h3
          · exact hb h3
          · have h4 : xFew l m (st + 1) e < 1000000000 := by
              unfold mn at h2
              split at h2 <;> omega
            have h5 := few_long l m (st + 1) e (behind_le he) h4
            have h6 : e ≤ pl + 2 := by
              unfold xBehind at he
              split at he
              · split at he
                · cases he
                · split at he
                  · cases he
                  · have := Option.some.inj he; omega
              · split at he
                · have h7 := leftL_le st k
                  have := Option.some.inj he
                  omega
                · cases he
            omega
    exact key _ _ (fun h => by omega) h
theorem attain (l : List Int) (f : Nat → Int) (st pl : Nat) : ∀ (ks : List Nat) (b : Int), ks.foldl (xBetter l f st pl) b = b ∨ ∃ k ∈ ks, ∃ e, xBehind l st pl k = some e ∧ f e + xOne k = ks.foldl (xBetter l f st pl) b
  | [], b => .inl rfl
  | k :: ks, b => by
    rcases attain l f st pl ks (xBetter l f st pl b k) with h | ⟨k', hk, e, h1, h2⟩
    · show ks.foldl (xBetter l f st pl) (xBetter l f st pl b k) = b ∨ _
      rw [h]
      cases hb : xBehind l st pl k with
      | none => left; unfold xBetter; rw [hb]
      | some e =>
        have hv : xBetter l f st pl b k = mn b (f e + xOne k) := by unfold xBetter; rw [hb]
        by_cases hm : f e + xOne k < b
        · right
          refine ⟨k, by simp, e, hb, ?_⟩
          show f e + xOne k = ks.foldl (xBetter l f st pl) (xBetter l f st pl b k)
          rw [h, hv]; unfold mn; rw [if_pos hm]
        · left; rw [hv]; unfold mn; rw [if_neg hm]
    · exact .inr ⟨k', List.mem_cons_of_mem _ hk, e, h1, h2⟩
theorem pick_some (l : List Int) (f : Nat → Int) (st pl : Nat) (lf : Int) : ∀ ks : List Nat, (∃ k ∈ ks, ∃ e, xBehind l st pl k = some e ∧ f e + xOne k = lf) → ∃ k e, xPick l f st pl lf ks = some (k, e) ∧ k ∈ ks ∧ xBehind l st pl k = some e ∧ f e + xOne k = lf
  | [], ⟨_, h, _⟩ => by cases h
  | k :: ks, ⟨k', hk, e', h1, h2⟩ => by
    unfold xPick
    cases hb : xBehind l st pl k with
    | some e =>
      by_cases hq : f e + xOne k = lf
      · exact ⟨k, e, by simp [hq], by simp, hb, hq⟩
      · have h3 : ∃ k ∈ ks, ∃ e, xBehind l st pl k = some e ∧ f e + xOne k = lf := by
          rcases List.mem_cons.1 hk with rfl | hk
          · rw [hb] at h1; cases h1; exact absurd h2 hq
          · exact ⟨k', hk, e', h1, h2⟩
        obtain ⟨k2, e2, g1, g2, g3, g4⟩ := pick_some l f st pl lf ks h3
        exact ⟨k2, e2, by simp [hq, g1], List.mem_cons_of_mem _ g2, g3, g4⟩
    | none =>
      have h3 : ∃ k ∈ ks, ∃ e, xBehind l st pl k = some e ∧ f e + xOne k = lf := by
        rcases List.mem_cons.1 hk with rfl | hk
        · rw [hb] at h1; cases h1
        · exact ⟨k', hk, e', h1, h2⟩
      obtain ⟨k2, e2, g1, g2, g3, g4⟩ := pick_some l f st pl lf ks h3
      exact ⟨k2, e2, by simp [g1], List.mem_cons_of_mem _ g2, g3, g4⟩
/-- The explanation has as many faults as are told. -/
theorem run_count (l : List Int) : ∀ m st pl, xFew l m st pl < 1000000000 → cntL (runE l m st pl (xFew l m st pl)) = xFew l m st pl
  | 0, st, pl, h => by
    unfold xFew at h ⊢
    split at h
    · rename_i hp; rw [if_pos hp]; rfl
    · omega
  | m + 1, st, pl, h => by
    obtain ⟨F, hF⟩ : ∃ F, xFew l (m + 1) st pl = F := ⟨_, rfl⟩
    rw [hF] at h ⊢
    have hF' : ([0, 1, 2, 3, 4] : List Nat).foldl (xBetter l (xFew l m (st + 1)) st pl) 1000000000 = F := hF
    have hex : ∃ k ∈ ([0, 1, 2, 3, 4] : List Nat), ∃ e, xBehind l st pl k = some e ∧ xFew l m (st + 1) e + xOne k = F := by
      rcases attain l (xFew l m (st + 1)) st pl [0, 1, 2, 3, 4] 1000000000 with h1 | h1
      · omega
      · rw [hF'] at h1; exact h1
    obtain ⟨k, e, g1, g2, g3, g4⟩ := pick_some l (xFew l m (st + 1)) st pl F _ hex
    have hk1 : 0 ≤ xOne k := by unfold xOne; split <;> omega
    have hr := run_count l m (st + 1) e (by omega)
    have hone : mn 1 (k : Int) = xOne k := by
      unfold mn xOne
      by_cases h0 : k = 0
      · subst h0; rfl
      · rw [if_neg h0, if_neg (by omega)]
    rw [runE, g1]
    simp only [cntL]
    rw [show F - xOne k = xFew l m (st + 1) e from by omega, hr, hone]
    omega
theorem fold_le0 (l : List Int) (f : Nat → Int) (st pl : Nat) : ∀ (ks : List Nat) (b : Int), ks.foldl (xBetter l f st pl) b ≤ b
  | [], b => Int.le_refl _
  | k :: ks, b => by
    have h1 := fold_le0 l f st pl ks (xBetter l f st pl b k)
    have h2 : xBetter l f st pl b k ≤ b := by
      unfold xBetter
      split
      · exact Int.le_refl _
      · exact mn_le _ _
    exact Int.le_trans h1 h2
theorem fold_le (l : List Int) (f : Nat → Int) (st pl : Nat) : ∀ (ks : List Nat) (b : Int) (k e : Nat), k ∈ ks → xBehind l st pl k = some e → ks.foldl (xBetter l f st pl) b ≤ f e + xOne k
  | [], _, _, _, h, _ => by cases h
  | k' :: ks, b, k, e, hk, he => by
    rcases List.mem_cons.1 hk with rfl | hk
    · have h1 := fold_le0 l f st pl ks (xBetter l f st pl b k)
      have h2 : xBetter l f st pl b k ≤ f e + xOne k := by
        unfold xBetter; rw [he]; unfold mn; simp only; split <;> omega
      exact Int.le_trans h1 h2
    · exact fold_le l f st pl ks _ k e hk he
theorem pick_mem (l : List Int) (f : Nat → Int) (st pl : Nat) (lf : Int) : ∀ (ks : List Nat) (k e : Nat), xPick l f st pl lf ks = some (k, e) → k ∈ ks ∧ xBehind l st pl k = some e ∧ f e + xOne k = lf
  | [], _, _, h => by cases h
  | k' :: ks, k, e, h => by
    unfold xPick at h
    split at h
    · rename_i e' he
      split at h
      · rename_i hq
        cases h
        exact ⟨by simp, he, hq⟩
      · obtain ⟨g1, g2, g3⟩ := pick_mem l f st pl lf ks k e h
        exact ⟨List.mem_cons_of_mem _ g1, g2, g3⟩
    · obtain ⟨g1, g2, g3⟩ := pick_mem l f st pl lf ks k e h
      exact ⟨List.mem_cons_of_mem _ g1, g2, g3⟩
theorem pick_none (l : List Int) (f : Nat → Int) (st pl : Nat) (lf : Int) (ks : List Nat) (h : ∀ k ∈ ks, ∀ e, xBehind l st pl k = some e → ¬ f e + xOne k = lf) : xPick l f st pl lf ks = none := by
  cases hp : xPick l f st pl lf ks with
  | none => rfl
  | some r =>
    obtain ⟨k, e⟩ := r
    obtain ⟨g1, g2, g3⟩ := pick_mem l f st pl lf ks k e hp
    exact absurd g3 (h k g1 e g2)
theorem pick_app (l : List Int) (f : Nat → Int) (st pl : Nat) (lf : Int) : ∀ (ks : List Nat) (k : Nat), xPick l f st pl lf (ks ++ [k]) = (match xPick l f st pl lf ks with | some r => some r | none => xPick l f st pl lf [k])
  | [], k => rfl
  | k' :: ks, k => by
    have ih := pick_app l f st pl lf ks k
    rw [List.cons_append, xPick]
    conv => rhs; rw [xPick]
    split
    · split
      · rfl
      · exact ih
    · exact ih
theorem run_bounds (l : List Int) : ∀ m st pl lf, (runE l m st pl lf).length ≤ m ∧ ∀ x ∈ runE l m st pl lf, 0 ≤ x ∧ x ≤ 4
  | 0, st, pl, lf => by simp [runE]
  | m + 1, st, pl, lf => by
    unfold runE
    cases hp : xPick l (xFew l m (st + 1)) st pl lf [0, 1, 2, 3, 4] with
    | none =>
      have h := run_bounds l m (st + 1) pl lf
      exact ⟨by have := h.1; simp only; omega, h.2⟩
    | some r =>
      obtain ⟨k, e⟩ := r
      obtain ⟨g1, _, _⟩ := pick_mem _ _ _ _ _ _ _ _ hp
      have h := run_bounds l m (st + 1) e (lf - xOne k)
      have hk : k ≤ 4 := by simp at g1; omega
      refine ⟨by have := h.1; simp only [List.length_cons]; omega, fun x hx => ?_⟩
      simp only [List.mem_cons] at hx
      rcases hx with rfl | hx
      · omega
      · exact h.2 x hx
theorem cnt_le : ∀ l : List Int, (∀ x ∈ l, 0 ≤ x ∧ x ≤ 4) → 0 ≤ cntL l ∧ cntL l ≤ l.length
  | [], _ => by simp [cntL]
  | x :: l, h => by
    have h1 := cnt_le l (fun y hy => h y (List.mem_cons_of_mem _ hy))
    have h2 := h x (by simp)
    have h3 : 0 ≤ mn 1 x ∧ mn 1 x ≤ 1 := by unfold mn; split <;> omega
    simp only [cntL, List.length_cons]
    omega
theorem few_small (l : List Int) (m st pl : Nat) (h : xFew l m st pl < 1000000000) : xFew l m st pl ≤ m := by
  have h1 := run_count l m st pl h
  have h2 := run_bounds l m st pl (xFew l m st pl)
  have h3 := cnt_le _ h2.2
  have := h2.1
  omega
/-- The fewest faults by the first kinds. -/
def foldB (l : List Int) (f : Nat → Int) (st pl i : Nat) : Int := (kindsTo i).foldl (xBetter l f st pl) 1000000000
/-- What the reference's rounds have found behind the first kinds. -/
def stB (l : List Int) (m st pl i : Nat) : List Int × Bool := if foldB l (xFew l m (st + 1)) st pl i ≥ 1000000000 then ([], false) else (match xPick l (xFew l m (st + 1)) st pl (foldB l (xFew l m (st + 1)) st pl i) (kindsTo i) with | some (k, e) => ((k : Int) :: runE l m (st + 1) e (foldB l (xFew l m (st + 1)) st pl i - xOne k), true) | none => ([], true))
theorem kinds_app (i : Nat) (hi : i < 5) : kindsTo (i + 1) = kindsTo i ++ [i] := by
  have : i = 0 ∨ i = 1 ∨ i = 2 ∨ i = 3 ∨ i = 4 := by omega
  rcases this with rfl | rfl | rfl | rfl | rfl <;> rfl
theorem foldB_le (l : List Int) (f : Nat → Int) (st pl i : Nat) : foldB l f st pl i ≤ 1000000000 := fold_le0 l f st pl _ _
theorem pick_have (l : List Int) (f : Nat → Int) (st pl i : Nat) (h : foldB l f st pl i < 1000000000) : ∃ k e, xPick l f st pl (foldB l f st pl i) (kindsTo i) = some (k, e) := by
  rcases attain l f st pl (kindsTo i) 1000000000 with h1 | h1
  · unfold foldB at h; omega
  · obtain ⟨k, e, g, _⟩ := pick_some l f st pl _ (kindsTo i) h1
    exact ⟨k, e, g⟩
/-- A round that changes nothing. -/
theorem stB_same {l : List Int} {m st pl i : Nat} (hi : i < 5) (h : foldB l (xFew l m (st + 1)) st pl (i + 1) = foldB l (xFew l m (st + 1)) st pl i) : stB l m st pl (i + 1) = stB l m st pl i := by
  unfold stB
  rw [h]
  by_cases c : foldB l (xFew l m (st + 1)) st pl i ≥ 1000000000
  · rw [if_pos c, if_pos c]
  · rw [if_neg c, if_neg c, kinds_app i hi, pick_app]
    obtain ⟨k, e, g⟩ := pick_have l (xFew l m (st + 1)) st pl i (by omega)
    rw [g]
/-- A round that finds a better one. -/
theorem stB_new {l : List Int} {m st pl i e : Nat} (hi : i < 5) (he : xBehind l st pl i = some e) (hlt : xFew l m (st + 1) e + xOne i < foldB l (xFew l m (st + 1)) st pl i) : stB l m st pl (i + 1) = ((i : Int) :: runE l m (st + 1) e (xFew l m (st + 1) e), true) := by
  have hf : foldB l (xFew l m (st + 1)) st pl (i + 1) = xFew l m (st + 1) e + xOne i := by
    have h := kinds_step (l := l) (f := xFew l m (st + 1)) (st := st) (pl := pl) i hi
    show (kindsTo (i + 1)).foldl _ _ = _
    rw [h, kinds_some he]
    unfold mn
    exact if_pos hlt
  have hle := foldB_le l (xFew l m (st + 1)) st pl i
  unfold stB
  rw [hf, if_neg (by omega), kinds_app i hi, pick_app, pick_none l (xFew l m (st + 1)) st pl _ (kindsTo i) (fun k hk e' he' => by
    have := fold_le l (xFew l m (st + 1)) st pl (kindsTo i) 1000000000 k e' hk he'
    unfold foldB at hlt
    omega)]
  simp only [xPick, he]
  rw [if_pos trivial]
  simp only
  congr 2
  congr 1
  omega
theorem stB_end (l : List Int) (m st pl : Nat) : stB l m st pl 5 = bestB l (m + 1) st pl := by
  have hF : foldB l (xFew l m (st + 1)) st pl 5 = xFew l (m + 1) st pl := rfl
  unfold stB bestB
  rw [hF]
  by_cases c : xFew l (m + 1) st pl ≥ 1000000000
  · rw [if_pos c, if_pos c]
  · rw [if_neg c, if_neg c]
    obtain ⟨k, e, g⟩ := pick_have l (xFew l m (st + 1)) st pl 5 (by rw [hF]; omega)
    rw [hF] at g
    have g' : xPick l (xFew l m (st + 1)) st pl (xFew l (m + 1) st pl) [0, 1, 2, 3, 4] = some (k, e) := g
    rw [g, runE, g']
/-- The count of what was found. -/
theorem stB_count {l : List Int} {m st pl i : Nat} (h : foldB l (xFew l m (st + 1)) st pl i < 1000000000) : (stB l m st pl i).2 = true ∧ cntL (stB l m st pl i).1 = foldB l (xFew l m (st + 1)) st pl i ∧ (stB l m st pl i).1.length ≤ m + 1 ∧ ∀ x ∈ (stB l m st pl i).1, 0 ≤ x ∧ x ≤ 4 := by
  obtain ⟨k, e, g⟩ := pick_have l (xFew l m (st + 1)) st pl i h
  obtain ⟨g1, g2, g3⟩ := pick_mem _ _ _ _ _ _ _ _ g
  have hk1 : 0 ≤ xOne k := by unfold xOne; split <;> omega
  have hk4 : k ≤ 4 := by
    have : k ∈ ([0, 1, 2, 3, 4] : List Nat) := List.mem_of_mem_take g1
    simp at this; omega
  have hone : mn 1 (k : Int) = xOne k := by
    unfold mn xOne
    by_cases h0 : k = 0
    · subst h0; rfl
    · rw [if_neg h0, if_neg (by omega)]
  have hb := run_bounds l m (st + 1) e (foldB l (xFew l m (st + 1)) st pl i - xOne k)
  have hr := run_count l m (st + 1) e (by omega)
  unfold stB
  rw [if_neg (by omega), g]
  refine ⟨rfl, ?_, by have := hb.1; simp only [List.length_cons]; omega, fun x hx => ?_⟩
  · simp only [cntL]
    rw [show foldB l (xFew l m (st + 1)) st pl i - xOne k = xFew l m (st + 1) e from by omega, hr, hone]
    omega
  · simp only [List.mem_cons] at hx
    rcases hx with rfl | hx
    · omega
    · exact hb.2 x hx
theorem spec_l14Kinds_l0 (l : List Int) (hl : l.length ≤ 1000) (hr : ∀ x ∈ l, 0 ≤ x ∧ x ≤ 4) : ∀ d i, i + d = l.length → ∀ s : Int, 0 ≤ s → s ≤ i → Ev (fun k => spec_l14Kinds.l0 k l s (i : Int)) (s + cntL (l.drop i)) := by
  intro d
  induction d with
  | zero =>
    intro i hi s h1 h2
    refine Ev.succ ?_
    simp only [spec_l14Kinds.l0]
    have h3 : l.drop i = [] := List.drop_eq_nil_of_le (by omega)
    rw [h3]
    exact Ev.neg (by omega) (Ev.eq (by simp [cntL]))
  | succ d ih =>
    intro i hi s h1 h2
    rw [getD_drop l 0 i (by omega)]
    have hm := hr _ (getD_mem l 0 i (by omega))
    have e1 : wrap64 ((i : Int) + 1) = ((i + 1 : Nat) : Int) := by rw [w64 (by omega) (by omega)]; omega
    refine Ev.succ ?_
    simp only [spec_l14Kinds.l0, rd_nat, e1]
    generalize l.getD i 0 = y at hm ⊢
    have hb : 0 ≤ mn 1 y ∧ mn 1 y ≤ 1 := by unfold mn; split <;> omega
    rw [w64 (x := s + mn 1 y) (by omega) (by omega)]
    refine Ev.pos (by omega) (Ev.pos (by omega) ((ih (i + 1) (by omega) _ (by omega) (by omega)).cast ?_))
    simp only [cntL]; omega
theorem spec_l14Kinds_ev {l : List Int} (hl : l.length ≤ 1000) (hr : ∀ x ∈ l, 0 ≤ x ∧ x ≤ 4) : Ev (fun k => spec_l14Kinds.f k l) (cntL l) := by
  unfold spec_l14Kinds.f
  exact (spec_l14Kinds_l0 l hl hr l.length 0 (by omega) 0 (by omega) (by omega)).cast (by simp)
theorem bestB_bounds (l : List Int) (m st pl : Nat) : (bestB l m st pl).1.length ≤ m ∧ ∀ x ∈ (bestB l m st pl).1, 0 ≤ x ∧ x ≤ 4 := by
  unfold bestB
  split
  · simp
  · exact run_bounds ..
/-- One kind tried by the reference. -/
theorem round_ev {l : List Int} {n m st pl i : Nat} {R : List Int × Bool} (hi : i < 5) (hst : st + (m + 1) = n) (hn : n ≤ 12) (hpl : pl ≤ l.length) (hl : l.length ≤ 1000)
    (ih : ∀ e, e ≤ l.length → Ev (fun k => spec_l14Explain.f k (n : Int) ((st + 1 : Nat) : Int) (l.drop e)) (bestB l m (st + 1) e))
    (next : Ev (fun k => spec_l14Explain.l0 k (n : Int) (st : Int) (l.drop pl) (stB l m st pl (i + 1)).1 (stB l m st pl (i + 1)).2 ((i + 1 : Nat) : Int)) R)
    (pt : List Int) (hb : xBehind l st pl i = if pt.length ≤ (l.drop pl).length ∧ (l.drop pl).take pt.length = pt then some (pl + pt.length) else none) :
    Ev (fun k => spec_l14Explain.j2 k (n : Int) (st : Int) (l.drop pl) (stB l m st pl i).1 (stB l m st pl i).2 (i : Int) pt) R := by
  have e1 : wrap64 ((i : Int) + 1) = ((i + 1 : Nat) : Int) := by rw [w64 (by omega) (by omega)]; omega
  have e2 : wrap64 ((st : Int) + 1) = ((st + 1 : Nat) : Int) := by rw [w64 (by omega) (by omega)]; omega
  have hstep : foldB l (xFew l m (st + 1)) st pl (i + 1) = xBetter l (xFew l m (st + 1)) st pl (foldB l (xFew l m (st + 1)) st pl i) i := kinds_step i hi
  have hsame : foldB l (xFew l m (st + 1)) st pl (i + 1) = foldB l (xFew l m (st + 1)) st pl i → Ev (fun k => spec_l14Explain.l0 k (n : Int) (st : Int) (l.drop pl) (stB l m st pl i).1 (stB l m st pl i).2 ((i + 1 : Nat) : Int)) R := by
    intro h
    rw [stB_same hi h] at next
    exact next
  have hfits : ¬ (pt.length ≤ (l.drop pl).length ∧ (l.drop pl).take pt.length = pt) → Ev (fun k => spec_l14Explain.l0 k (n : Int) (st : Int) (l.drop pl) (stB l m st pl i).1 (stB l m st pl i).2 ((i + 1 : Nat) : Int)) R := by
    intro h
    rw [if_neg h] at hb
    exact hsame (by rw [hstep, kinds_none hb])
  refine Ev.succ ?_
  simp only [spec_l14Explain.j2]
  refine Ev.ite (fun h1 => Ev.succ ?_) (fun h1 => Ev.pos (by omega) (Ev.pos (by omega) ?_))
  · simp only [spec_l14Explain.j3, e1]
    exact Ev.pos (by trivial) (hfits (fun h => by omega))
  · have hdl : (l.drop pl).length = l.length - pl := by simp
    refine Ev.bind (spec_l01Same_ev (l := pt) (m := (l.drop pl).take ((pt.length : Int)).toNat) (by omega)) (Ev.succ ?_)
    simp only [spec_l14Explain.j3, e1, e2]
    refine Ev.ite (fun h2 => hfits (fun h => ?_)) (fun h2 => Ev.pos (by omega) (Ev.pos (by omega) ?_))
    · rw [Int.toNat_natCast, h.2] at h2
      simp at h2
    · have h3 : (l.drop pl).take pt.length = pt := by
        simp at h2
        exact h2.symm
      rw [if_pos ⟨by omega, h3⟩] at hb
      have hk1 : 0 ≤ xOne i ∧ xOne i ≤ 1 := by unfold xOne; split <;> omega
      have hone : mn 1 (i : Int) = xOne i := by
        unfold mn xOne
        by_cases h0 : i = 0
        · subst h0; rfl
        · rw [if_neg h0, if_neg (by omega)]
      have hfl := foldB_le l (xFew l m (st + 1)) st pl i
      have hsm := few_small l m (st + 1) (pl + pt.length)
      have hr := run_count l m (st + 1) (pl + pt.length)
      have hbb := bestB_bounds l m (st + 1) (pl + pt.length)
      have hcount := @stB_count l m st pl i
      have hnew := @stB_new l m st pl i (pl + pt.length) hi hb
      have hsm' : xFew l m (st + 1) (pl + pt.length) + xOne i ≥ foldB l (xFew l m (st + 1)) st pl i → foldB l (xFew l m (st + 1)) st pl (i + 1) = foldB l (xFew l m (st + 1)) st pl i := by
        intro h
        rw [hstep, kinds_some hb]
        unfold mn
        exact if_neg (by omega)
      have e3 : (l.drop pl).drop ((pt.length : Int)).toNat = l.drop (pl + pt.length) := by rw [Int.toNat_natCast, List.drop_drop]
      simp only [e3]
      refine Ev.bind (ih (pl + pt.length) (by omega)) ?_
      by_cases hF : xFew l m (st + 1) (pl + pt.length) ≥ 1000000000
      · have hB : bestB l m (st + 1) (pl + pt.length) = ([], false) := if_pos hF
        rw [hB]
        exact Ev.neg (by simp) (hsame (hsm' (by omega)))
      · have hB : bestB l m (st + 1) (pl + pt.length) = (runE l m (st + 1) (pl + pt.length) (xFew l m (st + 1) (pl + pt.length)), true) := if_neg hF
        rw [hB] at hbb ⊢
        have hr := hr (by omega)
        have hsm := hsm (by omega)
        simp only at hbb
        generalize hE : runE l m (st + 1) (pl + pt.length) (xFew l m (st + 1) (pl + pt.length)) = E at hr hnew hbb
        refine Ev.pos (by trivial) (Ev.bind (Ev.eq rfl) (Ev.pos (by simp; omega) (Ev.bind (a := (i : Int) :: E) (Ev.eq rfl) (Ev.ite (fun h4 => ?_) (fun h4 => ?_)))))
        · have hlt : foldB l (xFew l m (st + 1)) st pl i < 1000000000 := by
            refine Int.not_le.1 (fun h => ?_)
            have : (stB l m st pl i).2 = false := by unfold stB; rw [if_pos h]
            rw [this] at h4; cases h4
          obtain ⟨g1, g2, g3, g4⟩ := hcount hlt
          refine Ev.bind (spec_l14Kinds_ev (l := (i : Int) :: E) (by simp; omega) (fun x hx => ?_)) (Ev.bind (spec_l14Kinds_ev (by omega) g4) (Ev.ite (fun h5 => ?_) (fun h5 => ?_)))
          · simp only [List.mem_cons] at hx
            rcases hx with rfl | hx
            · omega
            · exact hbb.2 x hx
          · rw [g2] at h5
            simp only [cntL, hr, hone] at h5
            rw [hnew (by omega)] at next
            exact next
          · rw [g2] at h5
            simp only [cntL, hr, hone] at h5
            exact hsame (hsm' (by omega))
        · have hge : foldB l (xFew l m (st + 1)) st pl i ≥ 1000000000 := by
            refine Int.not_lt.1 (fun h => h4 (hcount h).1)
          rw [hnew (by omega)] at next
          exact next
theorem part_three (st : Nat) (hst : st ≤ 12) (i : Nat) (hi : i < 4) : spec_l14Part.f (st : Int) (i : Int) 0 = some (leftL st i) := by
  have e2 : wrap64 ((st : Int) + 1) = (st : Int) + 1 := w64 (by omega) (by omega)
  have e3 : wrap64 (-((st : Int) + 1)) = -((st : Int) + 1) := w64 (by omega) (by omega)
  have : i = 0 ∨ i = 1 ∨ i = 2 ∨ i = 3 := by omega
  rcases this with rfl | rfl | rfl | rfl <;> simp [spec_l14Part.f, leftL, e2, e3]
theorem take_drop_iff (l : List Int) (pl L : Nat) : (l.take (pl + L)).drop pl = (l.drop pl).take L := by
  rw [List.drop_take]; congr 1; omega
theorem kinds_ev {l : List Int} {n m st pl : Nat} (hst : st + (m + 1) = n) (hn : n ≤ 12) (hpl : pl ≤ l.length) (hl : l.length ≤ 1000)
    (ih : ∀ e, e ≤ l.length → Ev (fun k => spec_l14Explain.f k (n : Int) ((st + 1 : Nat) : Int) (l.drop e)) (bestB l m (st + 1) e)) :
    ∀ d i, i + d = 5 → Ev (fun k => spec_l14Explain.l0 k (n : Int) (st : Int) (l.drop pl) (stB l m st pl i).1 (stB l m st pl i).2 (i : Int)) (stB l m st pl 5) := by
  obtain ⟨R, hR⟩ : ∃ R, stB l m st pl 5 = R := ⟨_, rfl⟩
  rw [hR]
  intro d
  induction d with
  | zero =>
    intro i hi
    have hi : i = 5 := by omega
    subst hi
    rw [hR]
    refine Ev.succ ?_
    simp only [spec_l14Explain.l0]
    exact Ev.neg (by omega) (Ev.eq rfl)
  | succ d ihd =>
    intro i hi
    have hi5 : i < 5 := by omega
    have e1 : wrap64 ((i : Int) + 1) = ((i + 1 : Nat) : Int) := by rw [w64 (by omega) (by omega)]; omega
    have e2 : wrap64 ((st : Int) + 1) = (st : Int) + 1 := w64 (by omega) (by omega)
    have next := ihd (i + 1) (by omega)
    have hrnd := fun pt => round_ev (R := R) hi5 hst hn hpl hl ih next pt
    refine Ev.succ ?_
    simp only [spec_l14Explain.l0]
    by_cases h4 : i = 4
    · subst h4
      have hstep : foldB l (xFew l m (st + 1)) st pl (4 + 1) = xBetter l (xFew l m (st + 1)) st pl (foldB l (xFew l m (st + 1)) st pl 4) 4 := kinds_step 4 hi5
      have hskip : xBehind l st pl 4 = none → Ev (fun k => spec_l14Explain.l0 k (n : Int) (st : Int) (l.drop pl) (stB l m st pl 4).1 (stB l m st pl 4).2 ((4 + 1 : Nat) : Int)) R := by
        intro h
        rw [stB_same hi5 (by rw [hstep, kinds_none h])] at next
        exact next
      have e5 : wrap64 (((4 : Nat) : Int) + 1) = ((4 + 1 : Nat) : Int) := e1
      have hj : ∀ t, xBehind l st pl 4 = none → Ev (fun k => spec_l14Explain.j1 k (n : Int) (st : Int) (l.drop pl) (stB l m st pl 4).1 (stB l m st pl 4).2 ((4 : Nat) : Int) t false) R := by
        intro t h
        refine Ev.succ ?_
        simp only [spec_l14Explain.j1, e5]
        exact Ev.neg (by simp) (Ev.pos (by rfl) (hskip h))
      refine Ev.pos (by omega) (Ev.bind (a := [wrap64 (0 + 1)]) (Ev.eq (by simp [spec_l14Part.f])) (Ev.pos (by rfl) ?_))
      cases hd : l.drop pl with
      | nil =>
        rw [hd] at hj
        exact Ev.neg (by simp) (hj _ (by simp [xBehind, hd]))
      | cons x xs =>
        rw [hd] at hj hskip hrnd
        have er : rd (x :: xs) 0 = x := rfl
        have ht : pl < l.length := by
          refine Nat.not_le.1 (fun h => ?_)
          rw [List.drop_eq_nil_of_le h] at hd
          cases hd
        simp only [er, e2]
        refine Ev.pos (by simp) (Ev.pos (by simp) (Ev.ite (fun h1 => ?_) (fun h1 => hj _ ?_)))
        · by_cases h2 : x = (st : Int) + 1
          · have h3 : (x != (st : Int) + 1) = false := by simp [h2]
            rw [h3]
            exact hj _ (by simp [xBehind, hd, h2])
          · have h3 : (x != (st : Int) + 1) = true := by simp [h2]
            rw [h3]
            refine Ev.succ ?_
            simp only [spec_l14Explain.j1, er]
            refine Ev.pos (by trivial) (Ev.pos (by simp) (hrnd [x] ?_))
            have : ¬ (x < 1 ∨ x = (st : Int) + 1) := by omega
            simp [xBehind, hd, this]
        · have : x < 1 := by omega
          simp [xBehind, hd, this]
    · refine Ev.pos (by omega) (Ev.bind (Ev.eq (part_three st (by omega) i (by omega))) (Ev.neg (by omega) (Ev.succ ?_)))
      simp only [spec_l14Explain.j1]
      refine Ev.neg (by simp) (Ev.neg (by omega) (hrnd (leftL st i) ?_))
      unfold xBehind
      rw [if_neg h4, take_drop_iff]
      have : pl + (leftL st i).length ≤ l.length ↔ (leftL st i).length ≤ (l.drop pl).length := by simp; omega
      simp only [this]
theorem spec_l14Explain_ev {l : List Int} {n : Nat} (hn : n ≤ 12) (hl : l.length ≤ 1000) : ∀ m st pl, st + m = n → pl ≤ l.length → Ev (fun k => spec_l14Explain.f k (n : Int) (st : Int) (l.drop pl)) (bestB l m st pl) := by
  intro m
  induction m with
  | zero =>
    intro st pl hst hpl
    refine Ev.succ ?_
    simp only [spec_l14Explain.f]
    refine Ev.pos (by omega) (Ev.eq ?_)
    unfold bestB xFew
    by_cases h : pl = l.length
    · simp [h, runE]
    · have : ¬ l.length - pl = 0 := by omega
      simp [h, this]
  | succ m ih =>
    intro st pl hst hpl
    refine Ev.succ ?_
    simp only [spec_l14Explain.f]
    rw [w64 (x := (n : Int) - st) (by omega) (by omega), w64 (x := 2 * ((n : Int) - st)) (by omega) (by omega)]
    refine Ev.neg (by omega) (Ev.ite (fun h => Ev.eq ?_) (fun h => ?_))
    · have hf := few_long l (m + 1) st pl hpl
      have : xFew l (m + 1) st pl ≥ 1000000000 := by
        refine Int.not_lt.1 (fun h2 => ?_)
        have := hf h2
        simp at h
        omega
      unfold bestB
      rw [if_pos this]
    · rw [← stB_end]
      exact kinds_ev hst hn hpl hl (fun e he => ih (st + 1) e (by omega) he) 5 0 (by omega)
/-- The explanation of a block, or a code. -/
def explP (n : Int) (l : List Int) : List Int × Int := if xFew l n.toNat 0 0 ≥ 1000000000 then ([], 4) else (runE l n.toNat 0 0 (xFew l n.toNat 0 0), 0)
theorem spec_ExplainBlock_ev {n : Int} {l : List Int} (hn : 1 ≤ n ∧ n ≤ 12) (hf : fitsB n l = true) : Ev (fun k => spec_ExplainBlock.f k n l) (explP n l) := by
  have h1 := fitsB_iff hf
  obtain ⟨m, rfl⟩ := Int.eq_ofNat_of_zero_le (show 0 ≤ n by omega)
  unfold spec_ExplainBlock.f
  refine Ev.bind (spec_l14Fits_ev hn (by omega)) (Ev.pos hf (Ev.bind (spec_l14Explain_ev (l := l) (n := m) (by omega) (by omega) m 0 0 (by omega) (by omega)) ?_))
  unfold bestB explP
  simp only [Int.toNat_natCast]
  by_cases c : xFew l m 0 0 ≥ 1000000000
  · rw [if_pos c, if_pos c]; exact Ev.neg (by simp) (Ev.eq rfl)
  · rw [if_neg c, if_neg c]; exact Ev.pos (by trivial) (Ev.eq rfl)
theorem impl_ExplainBlock_ev {n : Int} {l : List Int} (hn : 1 ≤ n ∧ n ≤ 12) (hf : fitsB n l = true) : Ev (fun k => impl_ExplainBlock.f k n l) (explP n l) := by
  have h1 := fitsB_iff hf
  unfold impl_ExplainBlock.f
  refine Ev.bind (impl_isBlock_ev hn (by omega)) (Ev.pos hf (Ev.pos ⟨by omega, by omega, by omega, fun x hx => by have := h1.1 x hx; omega⟩ (Ev.eq ?_)))
  unfold explP
  split <;> rfl
theorem explP_length (n : Int) (l : List Int) : (explP n l).1.length ≤ n.toNat := by
  unfold explP
  split
  · simp
  · exact (run_bounds ..).1
end Go.Proofs.Ytmibfdphdmdnkaa.PX
end
section
namespace Go.Proofs.Ytmibfdphdmdnkaa.Pure
open Go.RowKit Go.Proofs.YtmibfdphdmdnkaaW.PrintWords Go.Proofs.YtmibfdphdmdnkaaB Go.Proofs.Ytmibfdphdmdnkaa.PX
set_option linter.unusedVariables false
set_option linter.unusedSimpArgs false
def value (n u : Int) (l : List Int) : List Int × Int := if (blockOfP n u l).2 = 0 then (if (explP n (blockOfP n u l).1).2 = 0 then ((explP n (blockOfP n u l).1).1, 0) else ([], 5)) else ([], (blockOfP n u l).2)
theorem fits_of {n u : Int} {l : List Int} (h : (blockOfP n u l).2 = 0) : (1 ≤ n ∧ n ≤ 12) ∧ fitsB n (blockOfP n u l).1 = true := by
  obtain ⟨h1, h2⟩ := blockOfP_zero h
  refine ⟨(lineOk_iff h1).1, ?_⟩
  have e : (blockOfP n u l).1 = blockS n u l := by unfold blockOfP; rw [if_pos h1, if_pos h2]
  rw [e]
  simp only [good, Bool.and_eq_true] at h2
  exact h2.1
theorem value_length (n u : Int) (l : List Int) : (value n u l).1.length ≤ 1048576 := by
  unfold value
  split
  · rename_i h
    have h1 := (fits_of h).1
    have h2 := explP_length n (blockOfP n u l).1
    split
    · simp only; omega
    · simp
  · simp
theorem spec_DiagnosePages_ev (n u : Int) {l : List Int} (hl : l.length ≤ 1048576) : Ev (fun k => spec_DiagnosePages.f k n u l) (value n u l) := by
  unfold spec_DiagnosePages.f value
  refine Ev.bind (spec_l28Block_ev n u hl) (Ev.ite (fun h => ?_) (fun h => Ev.eq (by rw [if_neg h])))
  have hf := fits_of h
  rw [if_pos h]
  refine Ev.bind (spec_ExplainBlock_ev hf.1 hf.2) (Ev.ite (fun h2 => Ev.eq (by rw [if_pos h2])) (fun h2 => Ev.eq (by rw [if_neg h2])))
theorem impl_DiagnosePages_ev (n u : Int) {l : List Int} (hl : l.length ≤ 1048576) : Ev (fun k => impl_DiagnosePages.f k n u l) (value n u l) := by
  unfold impl_DiagnosePages.f value
  refine Ev.bind (impl_blockOfPages_ev n u hl) (Ev.ite (fun h => ?_) (fun h => Ev.eq (by rw [if_neg h])))
  have hf := fits_of h
  rw [if_pos h]
  refine Ev.bind (impl_ExplainBlock_ev hf.1 hf.2) (Ev.ite (fun h2 => Ev.eq (by rw [if_pos h2])) (fun h2 => Ev.eq (by rw [if_neg h2])))
theorem FnExactDiagnosePages : laws_FnExactDiagnosePages.Pure := by
  intro n u l hn hu hg
  refine Ev.rounds (g := fun k => laws_FnExactDiagnosePages.f k n u l) ?_
  unfold laws_FnExactDiagnosePages.f
  refine Ev.ite (fun _ => Ev.eq rfl) (fun h => ?_)
  have hl : l.length ≤ 1048576 := by omega
  have s0 := laws_toInt64S_ev hl
  have s1 := spec_DiagnosePages_ev n u hl
  have s2 := impl_DiagnosePages_ev n u hl
  have hd := value_length n u l
  generalize value n u l = v at s1 s2 hd
  obtain ⟨v1, v2⟩ := v
  simp only at hd
  have q1 := laws_eqInt64S_refl (l := v1) (by omega)
  have q2 := laws_eqInt64S_refl (l := l) (by omega)
  have k1 := laws_markInt64S_ev (l := l) (n := 1) (by omega) (by omega) (by omega)
  have k2 := laws_markInt64S_ev (l := v1) (n := 1) (by omega) (by omega) (by omega)
  have k3 := laws_heldInt64S_ev (l := v1) (n := 1) (by omega) (by omega) (by omega)
  refine Ev.bind s0 (Ev.bind s1 (Ev.bind s0 (Ev.bind s2 (Ev.bind q1 (Ev.pos (by trivial) (Ev.succ ?_))))))
  simp only [laws_FnExactDiagnosePages.j0]
  refine Ev.neg (by simp) (Ev.bind s0 (Ev.bind q2 (Ev.pos (by trivial) (Ev.bind k1 (Ev.neg (by simp only; omega) (Ev.bind q1 (Ev.pos (by trivial) (Ev.succ ?_))))))))
  simp only [laws_FnExactDiagnosePages.j1]
  refine Ev.neg (by simp) (Ev.bind k2 (Ev.bind k3 (Ev.neg (by omega) (Ev.pos (by trivial) (Ev.bind s0 (Ev.bind s2 (Ev.bind q1 (Ev.pos (by trivial) (Ev.succ ?_)))))))))
  simp only [laws_FnExactDiagnosePages.j2]
  refine Ev.neg (by simp) (Ev.bind k3 (Ev.neg (by omega) (Ev.pos (by trivial) (Ev.eq rfl))))
end Go.Proofs.Ytmibfdphdmdnkaa.Pure
end
