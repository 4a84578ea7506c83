import Derived.Lib.LazyBuf
import Derived.Test.YtokpepaoneiepaaGreatDoorCFnSides16
import Derived.Test.YtokpepaoneiepaaGreatDoorCFnSides33
import Derived.Test.YtokpepaoneiepaaGreatDoorCFnSides34
set_option linter.unusedVariables false
set_option linter.unusedSimpArgs false
section
namespace Go.Proofs.YtokpepaoneiepaaGreatDoor.PL
open Go.RowKit Go.Proofs.YtokpepaoneiepaaGreatDoorW.PrintWords Go.Proofs.YtokpepaoneiepaaGreatDoorB
theorem sideOk_all {a b : Int} {p h : List Int} (hs : sideOk a b p h = true) : (∀ x ∈ p, 1 ≤ x ∧ x ≤ 1000000000) ∧ (∀ x ∈ h, 0 ≤ x ∧ x ≤ 1) ∧ (p.length : Int) = wrap64 (a * b) ∧ (h.length : Int) = p.length ∧ (1 ≤ a ∧ a ≤ 8) ∧ (1 ≤ b ∧ b ≤ 8) ∧ p.length ≤ 64 := by
 have hl := sideOk_len hs
 simp only [sideOk, Bool.and_eq_true, decide_eq_true_eq, List.all_eq_true] at hs
 obtain ⟨⟨⟨⟨⟨h1, h2⟩, h3⟩, h4⟩, h5⟩, h6⟩ := hs
 exact ⟨h5, h6, h3, by omega, sideLen_iff h1, sideLen_iff h2, hl.2.2⟩
def SideW (a b : Int) (p h : List Int) : Prop := (∀ x ∈ p, 1 ≤ x ∧ x ≤ 2000000000) ∧ (∀ x ∈ h, 0 ≤ x ∧ x ≤ 1) ∧ (p.length : Int) = wrap64 (a * b) ∧ (h.length : Int) = p.length ∧ (1 ≤ a ∧ a ≤ 8) ∧ (1 ≤ b ∧ b ≤ 8) ∧ p.length ≤ 64
theorem sideW_of {a b : Int} {p h : List Int} (hs : sideOk a b p h = true) : SideW a b p h := by
 obtain ⟨h1, h2⟩ := sideOk_all hs
 exact ⟨fun x hx => ⟨(h1 x hx).1, by have := (h1 x hx).2; omega⟩, h2⟩
def numsB (l : List UInt8) : List Int := l.map fun b => (b.toNat : Int)
theorem numsB_append (a b : List UInt8) : numsB (a ++ b) = numsB a ++ numsB b := by simp [numsB]
theorem numsB_length (a : List UInt8) : (numsB a).length = a.length := by simp [numsB]
theorem strOf_numsB (a : List UInt8) : strOfNums (numsB a) = ⟨a.toArray⟩ := Lib.Lz.strOfNums_map a
theorem bytesOf_itoaB (n : Int) : bytesOf (itoaB n) = numsB (Lib.itoa n) := by unfold bytesOf numsB; rw [itoaB_data]
theorem head_byte (x : Int) (h : 0 ≤ x ∧ x ≤ 1) : bt (⟨#[94, 118]⟩ : ByteArray) x = ((if x = 0 then (94 : UInt8) else 118).toNat : Int) := by
 have h2 : x = 0 ∨ x = 1 := by omega
 rcases h2 with rfl | rfl <;> rfl
theorem sideL_bound (a : Int) (h p : List Int) (hp : ∀ x ∈ p, 1 ≤ x ∧ x ≤ 2000000000) : ∀ i, i ≤ p.length → (sideL a h p i).length ≤ 23 * i
  | 0, _ => by simp [sideL]
  | i + 1, hi => by
    have h1 := sideL_bound a h p hp i (by omega)
    have hm := hp _ (getD_mem p 0 i (by omega))
    have h2 := Lib.itoa_length_le (rd p (i : Int)) (by rw [rd_nat]; omega) (by rw [rd_nat]; omega)
    simp only [sideL, sidePiece, List.length_append, List.length_cons, List.length_nil]
    omega
theorem spec_l27Text_l0 {a b : Int} {p h : List Int} (hs : SideW a b p h) : ∀ d i, i + d = p.length →
    Ev (fun k => spec_l27Text.l0 k (numsB (sideL a h p i)) (i : Int) a b p h) ⟨(sideL a h p p.length).toArray⟩ := by
  obtain ⟨hp, hh, hn, hl, ha, hb, h64⟩ := hs
  intro d
  induction d with
  | zero =>
    intro i hi
    refine Ev.succ ?_
    simp only [spec_l27Text.l0, ← hn]
    have e : i = p.length := by omega
    subst e
    exact Ev.neg (by omega) (Ev.eq (by rw [strOf_numsB]))
  | succ d ih =>
    intro i hi
    have k0 : (0 : Int) ≤ (i : Int) := by omega
    have k1 : (i : Int) < (p.length : Int) := by omega
    have k2 : (i : Int) < (h.length : Int) := by omega
    have ka : ¬ a = 0 := by omega
    have kx : ∀ x y z : Nat, x ≤ 23 * i → y ≤ 21 → z ≤ 2 → x + y + z < 140737488355328 := by intro x y z; omega
    have hm1 := hp _ (getD_mem p 0 i (by omega))
    have hm2 := hh _ (getD_mem h 0 i (by omega))
    have e1 : wrap64 ((i : Int) + 1) = ((i + 1 : Nat) : Int) := by rw [w64 (by omega) (by omega)]; omega
    have e2 : wrap64 (a - 1) = a - 1 := w64 (by omega) (by omega)
    have h3 := ih (i + 1) (by omega)
    have hbd := sideL_bound a h p hp i (by omega)
    have hx1 : -9223372036854775808 ≤ p.getD i 0 ∧ p.getD i 0 ≤ 9223372036854775807 := by omega
    have hx0 : 0 ≤ p.getD i 0 := by omega
    have m0 : 0 ≤ h.getD i 0 := hm2.1
    have m2 : h.getD i 0 < 2 := by omega
    have h2 := Lib.itoa_length_le (p.getD i 0) hx1.1 hx1.2
    have hsz := itoaB_le hx1.1 hx1.2
    refine Ev.succ ?_
    simp only [spec_l27Text.l0, ← hn, rd_nat, e1, e2, Option.bind_some]
    have hstep : sideL a h p (i + 1) = sideL a h p i ++ ((Lib.itoa (p.getD i 0) ++ [if h.getD i 0 = 0 then 94 else 118]) ++ [if Int.tmod (i : Int) a = a - 1 then 10 else 32]) := by
      simp only [sideL, sidePiece, rd_nat]
    rw [hstep] at h3
    have g0 : (numsB (sideL a h p i)).length + (itoaB (p.getD i 0)).size < 140737488355328 := by rw [numsB_length]; exact kx _ _ 0 hbd hsz (by decide)
    have g1 : (numsB (sideL a h p i) ++ bytesOf (itoaB (p.getD i 0))).length < 140737488355328 := by rw [bytesOf_itoaB, List.length_append, numsB_length, numsB_length]; exact kx _ _ 0 hbd h2 (by decide)
    have g2 : (numsB (sideL a h p i) ++ bytesOf (itoaB (p.getD i 0)) ++ [bt (⟨#[94, 118]⟩ : ByteArray) (h.getD i 0)]).length < 140737488355328 := by
      simp only [bytesOf_itoaB, List.length_append, numsB_length, List.length_cons, List.length_nil]; exact kx _ _ 1 hbd h2 (by decide)
    refine Ev.pos k1 (Ev.pos k0 (Ev.pos k1 (Ev.bind (spec_l01Dec_ev hx0 hx1.2) (Ev.pos g0 (Ev.pos k2 (Ev.pos m0 (Ev.pos m2 (Ev.pos g1 (Ev.neg ka (Ev.ite (fun c => ?_) (fun c => ?_)))))))))))
    · rw [if_pos c] at h3
      refine Ev.pos g2 ?_
      rw [bytesOf_itoaB, head_byte _ hm2]
      simp only [numsB_append, List.append_assoc] at h3 ⊢
      exact h3
    · rw [if_neg c] at h3
      refine Ev.pos g2 ?_
      rw [bytesOf_itoaB, head_byte _ hm2]
      simp only [numsB_append, List.append_assoc] at h3 ⊢
      exact h3
def sideB (a : Int) (p h : List Int) : ByteArray := ⟨(sideL a h p p.length).toArray⟩
theorem sideB_size {a b : Int} {p h : List Int} (hs : SideW a b p h) : (sideB a p h).size ≤ 1500 := by
 obtain ⟨hp, hh, hn, hl, ha, hb, h64⟩ := hs
 have := sideL_bound a h p hp p.length (Nat.le_refl _)
 have e : (sideB a p h).size = (sideL a h p p.length).length := by unfold sideB; rw [ByteArray.size]; simp
 omega
theorem spec_l27Text_ev {a b : Int} {p h : List Int} (hs : SideW a b p h) : Ev (fun k => spec_l27Text.f k a b p h) (sideB a p h) := by
 unfold spec_l27Text.f
 exact spec_l27Text_l0 hs p.length 0 (by omega)
theorem impl_sideText_eq {a b : Int} {p h : List Int} (hs : SideW a b p h) : impl_sideText.f a b p h = some (sideB a p h) := by
 obtain ⟨hp, hh, hn, hl, ha, hb, h64⟩ := hs
 unfold impl_sideText.f
 rw [if_pos ⟨by omega, by omega, by omega, by omega, by simp only [List.all_eq_true, decide_eq_true_eq]; intro x hx; have := hp x hx; omega⟩]
 rfl
def sideText (a b : Int) (p h : List Int) : ByteArray × Int := if sideOk a b p h = true then (sideB a p h, 0) else (⟨#[]⟩, 1)
theorem spec_SideText_ev {a b : Int} {p h : List Int} (hp : p.length ≤ 1048576) (hh : h.length ≤ 1048576) : Ev (fun k => spec_SideText.f k a b p h) (sideText a b p h) := by
 unfold spec_SideText.f sideText
 refine Ev.bind (spec_IsSide_ev hp hh) (Ev.ite (fun c => ?_) (fun c => Ev.eq (by rw [if_neg c])))
 exact Ev.bind (spec_l27Text_ev (sideW_of c)) (Ev.eq (by rw [if_pos c]))
theorem impl_SideText_eq (a b : Int) (p h : List Int) : impl_SideText.f a b p h = some (sideText a b p h) := by
 unfold impl_SideText.f sideText
 rw [impl_IsSide_eq, Option.bind_some]
 by_cases c : sideOk a b p h = true
 ·rw [if_pos c, if_pos c, impl_sideText_eq (sideW_of c)]; rfl
 ·rw [if_neg c, if_neg c]
end Go.Proofs.YtokpepaoneiepaaGreatDoor.PL
end
