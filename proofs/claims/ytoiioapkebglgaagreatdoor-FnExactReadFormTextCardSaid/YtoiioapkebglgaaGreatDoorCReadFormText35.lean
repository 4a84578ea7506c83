-- Gathered by this session's program wip/tool/shake.py out of its own texts and of what the kit's print and the session's patches of it wrote for this claim.
import Derived.Test.YtoiioapkebglgaaGreatDoorCReadFormText23
import Derived.Test.YtoiioapkebglgaaGreatDoorCReadFormText32
import Derived.Test.YtoiioapkebglgaaGreatDoorCReadFormText34
section
namespace Go.Proofs.YtoiioapkebglgaaGreatDoor.PF
open Go.RowKit Go.Proofs.YtoiioapkebglgaaGreatDoorW.PrintWords Go.Proofs.YtoiioapkebglgaaGreatDoorB
set_option linter.unusedVariables false
set_option linter.unusedSimpArgs false
theorem runI_pages {s : List Int} (hl : s.length ≤ 1000) (h : runI s = true) : ∀ x ∈ s, 1 ≤ x ∧ x ≤ 2000000000 := by
  intro x hx
  obtain ⟨i, hi, rfl⟩ := List.getElem_of_mem hx
  have h1 := List.all_eq_true.1 h i (List.mem_range.2 hi)
  simp only [okAt, inB, Bool.and_eq_true, decide_eq_true_eq] at h1
  obtain ⟨⟨g1, g2⟩, g3⟩ := h1
  rw [w64 (by omega) (by omega), rd_get s i hi] at g3
  omega
theorem form_pages {a b : Int} {p q h : List Int} (hf : formOk a b p q h = true) : (∀ x ∈ p, 1 ≤ x ∧ x ≤ 2000000000) ∧ (∀ x ∈ q, 1 ≤ x ∧ x ≤ 2000000000) ∧ (∀ x ∈ h, 0 ≤ x ∧ x ≤ 1) := by
  obtain ⟨_, _, h3, h4, _, h6, h7, h8⟩ := formOk_iff hf
  have hr := runI_pages (by rw [sortI_length, List.length_append]; omega) h8
  have hm : ∀ x ∈ p ++ q, 1 ≤ x ∧ x ≤ 2000000000 := fun x hx => hr x ((sortI_perm (p ++ q)).mem_iff.2 hx)
  refine ⟨fun x hx => hm x (List.mem_append_left _ hx), fun x hx => hm x (List.mem_append_right _ hx), fun x hx => ?_⟩
  have := List.all_eq_true.1 h7 x hx
  simpa [inB] using this
theorem mirror_mem {W H : Nat} {h : List Int} (hW : 0 < W) (hl : h.length = W * H) (hh : ∀ x ∈ h, 0 ≤ x ∧ x ≤ 1) : ∀ x ∈ mirror W h h.length, 0 ≤ x ∧ x ≤ 1 := by
  intro x hx
  simp only [mirror, List.mem_map, List.mem_range] at hx
  obtain ⟨i, hi, rfl⟩ := hx
  obtain ⟨p1, p2, p3⟩ := mirror_place (H := H) hW (show i < W * H by omega)
  unfold mirrorAt
  generalize i / W * W = Q at p1 p3
  generalize i % W = r at p1 p2
  have hb : Q + W - 1 - r < h.length := by omega
  rw [rd_get h _ hb]
  exact hh _ (List.getElem_mem hb)
theorem sideW_form {a b : Int} {p q h : List Int} (hf : formOk a b p q h = true) (s : Int) : SideW (sideF a b p q h s).1 (sideF a b p q h s).2.1 (sideF a b p q h s).2.2.1 (sideF a b p q h s).2.2.2 := by
  obtain ⟨g1, g2, g3, g4, g5, g6, _, _⟩ := formOk_iff hf
  obtain ⟨w1, w2, w3⟩ := form_pages hf
  have e := (area g1 g2).1
  have s1 := sideLen_iff g1
  have s2 := sideLen_iff g2
  obtain ⟨W, H, rfl, rfl, hW, hW8, hH8, hl, h64, hp, hq⟩ := form_nat hf
  unfold sideF
  split
  · exact ⟨w1, w3, by rw [e]; exact g3, show (h.length : Int) = (p.length : Int) by omega, s1, s2, hp⟩
  · refine ⟨w2, mirror_mem (H := H) hW hl w3, by rw [e]; exact g4, ?_, s1, s2, hq⟩
    simp only [mirror_length]
    omega
/-- The text of one side of a form. -/
def sideT (a b : Int) (p q h : List Int) (s : Int) : ByteArray := sideB (sideF a b p q h s).1 (sideF a b p q h s).2.2.1 (sideF a b p q h s).2.2.2
def formB (a b : Int) (p q h : List Int) : ByteArray := (sideT a b p q h 0 ++ (⟨#[61, 10]⟩ : ByteArray)) ++ sideT a b p q h 1
theorem sideT_size {a b : Int} {p q h : List Int} (hf : formOk a b p q h = true) (s : Int) : (sideT a b p q h s).size ≤ 1500 := sideB_size (sideW_form hf s)
theorem sideT_size2 {a b : Int} {p q h : List Int} (hf : formOk a b p q h = true) (s : Int) : (sideT a b p q h s ++ (⟨#[61, 10]⟩ : ByteArray)).size ≤ 1502 := by
  rw [ByteArray.size_append]
  exact Nat.add_le_add (sideT_size hf s) (Nat.le_of_eq rfl)
theorem impl_formText_ev {a b : Int} {p q h : List Int} (hf : formOk a b p q h = true) : Ev (fun k => impl_formText.f k a b p q h) (formB a b p q h) := by
  unfold impl_formText.f
  have z0 := sideT_size hf 0
  have z1 := sideT_size hf 1
  have z2 := sideT_size2 hf 0
  refine Ev.bind (impl_sideOf_ev hf 0) (Ev.bind (Ev.eq (impl_sideText_eq (sideW_form hf 0))) ?_)
  refine Ev.pos (show (sideT a b p q h 0).size + 2 ≤ _ by omega) (Ev.bind (impl_sideOf_ev hf 1) (Ev.bind (Ev.eq (impl_sideText_eq (sideW_form hf 1))) ?_))
  exact Ev.pos (show (sideT a b p q h 0 ++ (⟨#[61, 10]⟩ : ByteArray)).size + (sideT a b p q h 1).size ≤ _ by omega) (Ev.eq rfl)
end Go.Proofs.YtoiioapkebglgaaGreatDoor.PF
end
