-- Gathered by this session's program wip/tool/shake.py out of its own texts and of what the kit's print and the session's patches of it wrote for this claim.
import Derived.Test.YtejpfjokaphebaaDoorProg
import Derived.ArgAppend
import Derived.Below
import Derived.BigQuiet
import Derived.Deep.AppendLies
import Derived.Deep.CutBlock
import Derived.Deep.DeepCutAuto
import Derived.Deep.Draws
import Derived.Deep.LoopGhost
import Derived.Deep.OwnRows
import Derived.Deep.QuietTactic
import Derived.Deep.RegionHeld3
import Derived.Ground.SlgmProg
import Derived.Ground.SlgnProg
import Derived.KernelRfl
import Derived.Laws.BitsLemmas
import Derived.Laws.BytesArg
import Derived.Laws.IdiomCopy
import Derived.Laws.MakeOwn
import Derived.Laws.OwnMore
import Derived.Laws.Rows
import Derived.Laws.Slices
import Derived.Laws.StructEq
import Derived.Lib.AppendIntMem
import Derived.Lib.AppendStr
import Derived.Lib.ConvBytes
import Derived.Lib.ItoaLen
import Derived.Lib.ItoaMem
import Derived.Lib.ItoaNum
import Derived.Lib.LazyBuf
import Derived.Lib.SlKeysI
import Derived.LoopIn
import Derived.LoopNIn
import Derived.Maps.AppendAt
import Derived.OrdersHeld
import Derived.OwnWalk
import Derived.OwnWalkIn
import Derived.RangeFuncBox
import Derived.RangeFuncLeaves
import Derived.RowKit
import Derived.RowKit3
import Derived.Shelf.Abstract
import Derived.Shelf.LaysM
import Derived.Shelf.SlicesE.Clone
import Derived.Shelf.Small.Bits
import Derived.Shelf.SortM.Plain
import Derived.Shelf.SortM.SortNone
import Derived.Shelf.Strconv.Itoa0
import Derived.Shelf.Strconv.Itoa1
import Derived.Shelf.Strconv.Itoa2
import Derived.Shelf.Strconv.Itoa3
import Derived.Shelf.Strconv.Itoa4
import Derived.Shelf.Strings.Builder1
import Derived.Shelf.Strings.Builder2
import Derived.Shelf.Strings.BuilderF
import Derived.Shelf.Strings.BuilderK
import Derived.Shelf.Strings.OnBuilder
import Derived.Tactics
import Derived.TacticsInMore
import Derived.WalkKit
import Derived.WideLaws
import Derived.Test.YtejpfjokaphebaaDoorCFormText9
import Derived.Test.YtejpfjokaphebaaDoorCFormText19
import Derived.Test.YtejpfjokaphebaaDoorCFormText20
import Derived.Test.YtejpfjokaphebaaDoorCFormText22
import Derived.Test.YtejpfjokaphebaaDoorCFormText27
import Derived.Test.YtejpfjokaphebaaDoorCFormText29
section
namespace Go.Proofs.YtejpfjokaphebaaDoor.PC
open Go.RowKit Go.Proofs.YtejpfjokaphebaaDoorW.PrintWords Go.Proofs.YtejpfjokaphebaaDoorB
set_option linter.unusedVariables false
set_option linter.unusedSimpArgs false
theorem runI_pages {s : List Int} (hl : s.length ≤ 1000) (h : runI s = true) : ∀ x ∈ s, 1 ≤ x ∧ x ≤ 2000000000 := by
  intro x hx
  obtain ⟨i, hi, rfl⟩ := List.getElem_of_mem hx
  have h1 := List.all_eq_true.1 h i (List.mem_range.2 hi)
  simp only [okAt, inB, Bool.and_eq_true, decide_eq_true_eq] at h1
  obtain ⟨⟨g1, g2⟩, g3⟩ := h1
  rw [w64 (by omega) (by omega), rd_get s i hi] at g3
  omega
theorem form_pages {a b : Int} {p q h : List Int} (hf : formOk a b p q h = true) : (∀ x ∈ p, 1 ≤ x ∧ x ≤ 2000000000) ∧ (∀ x ∈ q, 1 ≤ x ∧ x ≤ 2000000000) ∧ (∀ x ∈ h, 0 ≤ x ∧ x ≤ 1) := by
  obtain ⟨_, _, h3, h4, _, h6, h7, h8⟩ := formOk_iff hf
  have hr := runI_pages (by rw [sortI_length, List.length_append]; omega) h8
  have hm : ∀ x ∈ p ++ q, 1 ≤ x ∧ x ≤ 2000000000 := fun x hx => hr x ((sortI_perm (p ++ q)).mem_iff.2 hx)
  refine ⟨fun x hx => hm x (List.mem_append_left _ hx), fun x hx => hm x (List.mem_append_right _ hx), fun x hx => ?_⟩
  have := List.all_eq_true.1 h7 x hx
  simpa [inB] using this
theorem mirror_mem {W H : Nat} {h : List Int} (hW : 0 < W) (hl : h.length = W * H) (hh : ∀ x ∈ h, 0 ≤ x ∧ x ≤ 1) : ∀ x ∈ mirror W h h.length, 0 ≤ x ∧ x ≤ 1 := by
  intro x hx
  simp only [mirror, List.mem_map, List.mem_range] at hx
  obtain ⟨i, hi, rfl⟩ := hx
  obtain ⟨p1, p2, p3⟩ := mirror_place (H := H) hW (show i < W * H by omega)
  unfold mirrorAt
  generalize i / W * W = Q at p1 p3
  generalize i % W = r at p1 p2
  have hb : Q + W - 1 - r < h.length := by omega
  rw [rd_get h _ hb]
  exact hh _ (List.getElem_mem hb)
theorem sideW_form {a b : Int} {p q h : List Int} (hf : formOk a b p q h = true) (s : Int) : SideW (sideF a b p q h s).1 (sideF a b p q h s).2.1 (sideF a b p q h s).2.2.1 (sideF a b p q h s).2.2.2 := by
  obtain ⟨g1, g2, g3, g4, g5, g6, _, _⟩ := formOk_iff hf
  obtain ⟨w1, w2, w3⟩ := form_pages hf
  have e := (area g1 g2).1
  have s1 := sideLen_iff g1
  have s2 := sideLen_iff g2
  obtain ⟨W, H, rfl, rfl, hW, hW8, hH8, hl, h64, hp, hq⟩ := form_nat hf
  unfold sideF
  split
  · exact ⟨w1, w3, by rw [e]; exact g3, show (h.length : Int) = (p.length : Int) by omega, s1, s2, hp⟩
  · refine ⟨w2, mirror_mem (H := H) hW hl w3, by rw [e]; exact g4, ?_, s1, s2, hq⟩
    simp only [mirror_length]
    omega
/-- The text of one side of a form. -/
def sideT (a b : Int) (p q h : List Int) (s : Int) : ByteArray := sideB (sideF a b p q h s).1 (sideF a b p q h s).2.2.1 (sideF a b p q h s).2.2.2
def formB (a b : Int) (p q h : List Int) : ByteArray := (sideT a b p q h 0 ++ (⟨#[61, 10]⟩ : ByteArray)) ++ sideT a b p q h 1
theorem sideT_size {a b : Int} {p q h : List Int} (hf : formOk a b p q h = true) (s : Int) : (sideT a b p q h s).size ≤ 1500 := sideB_size (sideW_form hf s)
theorem sideT_size2 {a b : Int} {p q h : List Int} (hf : formOk a b p q h = true) (s : Int) : (sideT a b p q h s ++ (⟨#[61, 10]⟩ : ByteArray)).size ≤ 1502 := by
  rw [ByteArray.size_append]
  exact Nat.add_le_add (sideT_size hf s) (Nat.le_of_eq rfl)
theorem impl_formText_ev {a b : Int} {p q h : List Int} (hf : formOk a b p q h = true) : Ev (fun k => impl_formText.f k a b p q h) (formB a b p q h) := by
  unfold impl_formText.f
  have z0 := sideT_size hf 0
  have z1 := sideT_size hf 1
  have z2 := sideT_size2 hf 0
  refine Ev.bind (impl_sideOf_ev hf 0) (Ev.bind (Ev.eq (impl_sideText_eq (sideW_form hf 0))) ?_)
  refine Ev.pos (show (sideT a b p q h 0).size + 2 ≤ _ by omega) (Ev.bind (impl_sideOf_ev hf 1) (Ev.bind (Ev.eq (impl_sideText_eq (sideW_form hf 1))) ?_))
  exact Ev.pos (show (sideT a b p q h 0 ++ (⟨#[61, 10]⟩ : ByteArray)).size + (sideT a b p q h 1).size ≤ _ by omega) (Ev.eq rfl)
def formText (a b : Int) (p q h : List Int) : ByteArray × Int := if formOk a b p q h = true then (formB a b p q h, 0) else (⟨#[]⟩, 1)
theorem spec_FormText_ev {a b : Int} {p q h : List Int} (hp : p.length ≤ 1048576) (hq : q.length ≤ 1048576) (hh : h.length ≤ 1048576) : Ev (fun k => spec_FormText.f k a b p q h) (formText a b p q h) := by
  unfold spec_FormText.f formText
  refine Ev.bind (spec_IsForm_ev hp hq hh) (Ev.ite (fun c => ?_) (fun c => Ev.eq (by rw [if_neg c])))
  rw [if_pos c]
  have z0 := sideT_size c 0
  have z1 := sideT_size c 1
  have z2 := sideT_size2 c 0
  refine Ev.bind (spec_l27Side_ev c 0) (Ev.bind (spec_l27Text_ev (sideW_form c 0)) ?_)
  refine Ev.pos (show (sideT a b p q h 0).size + 2 ≤ _ by omega) (Ev.bind (spec_l27Side_ev c 1) (Ev.bind (spec_l27Text_ev (sideW_form c 1)) ?_))
  exact Ev.pos (show (sideT a b p q h 0 ++ (⟨#[61, 10]⟩ : ByteArray)).size + (sideT a b p q h 1).size ≤ _ by omega) (Ev.eq rfl)
theorem impl_FormText_ev (a b : Int) (p q h : List Int) : Ev (fun k => impl_FormText.f k a b p q h) (formText a b p q h) := by
  unfold impl_FormText.f formText
  refine Ev.bind (Ev.eq (impl_IsForm_eq a b p q h)) (Ev.ite (fun c => ?_) (fun c => Ev.eq (by rw [if_neg c])))
  rw [if_pos c]
  exact Ev.bind (impl_formText_ev c) (Ev.eq rfl)
end Go.Proofs.YtejpfjokaphebaaDoor.PC
end
section
namespace Go.Proofs.YtejpfjokaphebaaDoor.Pure
open Go.RowKit Go.Proofs.YtejpfjokaphebaaDoorW.PrintWords Go.Proofs.YtejpfjokaphebaaDoorB Go.Proofs.YtejpfjokaphebaaDoor.PC
set_option linter.unusedVariables false
set_option linter.unusedSimpArgs false
theorem FnExactFormText : laws_FnExactFormText.Pure := by
  intro a b p q h ha hb hp hq hh
  obtain ⟨r, h1, h2⟩ := laws_szForm_eq (a := a) (b := b) (m := 1048576) hp.1 hq.1 hh.1 (by omega) (by omega)
  refine Ev.rounds (g := fun k => laws_FnExactFormText.f k a b p q h) ?_
  unfold laws_FnExactFormText.f
  refine Ev.bind (Ev.eq h1) (Ev.ite (fun _ => Ev.eq rfl) (fun hr => ?_))
  have hpl : p.length ≤ 1048576 := by omega
  have hql : q.length ≤ 1048576 := by omega
  have hhl : h.length ≤ 1048576 := by omega
  have s0 := laws_toForm_ev (a := a) (b := b) hpl hql hhl
  refine Ev.bind s0 (Ev.bind (spec_FormText_ev hpl hql hhl) (Ev.bind s0 (Ev.bind (impl_FormText_ev a b p q h) (Ev.pos rfl (Ev.succ ?_)))))
  simp only [laws_FnExactFormText.j0]
  exact Ev.neg (by simp) (Ev.bind s0 (Ev.bind (laws_eqForm_refl hpl hql hhl) (Ev.pos rfl (Ev.eq rfl))))
end Go.Proofs.YtejpfjokaphebaaDoor.Pure
end
