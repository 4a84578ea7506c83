import Derived.Test.YtokpepaoneiepaaGreatDoorCFnSides22
import Derived.Test.YtokpepaoneiepaaGreatDoorCFnSides23
import Derived.Test.YtokpepaoneiepaaGreatDoorCFnSides33
set_option linter.unusedVariables false
set_option linter.unusedSimpArgs false
section
namespace Go.Proofs.YtokpepaoneiepaaGreatDoor.PL
open Go.RowKit Go.Proofs.YtokpepaoneiepaaGreatDoorW.PrintWords Go.Proofs.YtokpepaoneiepaaGreatDoorB
structure RevInv (l L : List Int) (i : Nat) : Prop where
 len : L.length = l.length
 le : 2 * i ≤ l.length
 at_ : ∀ t, t < l.length → L.getD t 0 = if t < i ∨ l.length ≤ t + i then l.getD (l.length - 1 - t) 0 else l.getD t 0
theorem getD_set' (L : List Int) (i t : Nat) (v : Int) (hi : i < L.length) : (L.set i v).getD t 0 = if t = i then v else L.getD t 0 := by
 simp only [List.getD, List.getElem?_set]
 by_cases h : i = t
 ·subst h; simp [hi]
 ·rw [if_neg h, if_neg (fun e => h e.symm)]
theorem RevInv.step {l L : List Int} {i : Nat} (h : RevInv l L i) (hi : 2 * i + 1 < l.length) : RevInv l ((L.set i (L.getD (l.length - 1 - i) 0)).set (l.length - 1 - i) (L.getD i 0)) (i + 1) := by
 have hl := h.len
 refine ⟨by rw [List.length_set, List.length_set]; exact hl, by omega, fun t ht => ?_⟩
 rw [getD_set' _ _ _ _ (by rw [List.length_set]; omega), getD_set' _ _ _ _ (by omega)]
 have a1 := h.at_ i (by omega)
 have a2 := h.at_ (l.length - 1 - i) (by omega)
 have a3 := h.at_ t ht
 rw [if_neg (by omega)] at a1 a2
 by_cases h1 : t = l.length - 1 - i
 ·rw [if_pos h1, if_pos (by omega), a1]
  congr 1; omega
 ·rw [if_neg h1]
  by_cases h2 : t = i
  ·rw [if_pos h2, if_pos (by omega), a2, h2]
  ·rw [if_neg h2, a3]
   by_cases h3 : t < i ∨ l.length ≤ t + i
   ·rw [if_pos h3, if_pos (by omega)]
   ·rw [if_neg h3, if_neg (by omega)]
theorem RevInv.done {l L : List Int} {i : Nat} (h : RevInv l L i) (hi : l.length ≤ 2 * i + 1) : L = l.reverse := by
 have hl := h.len
 apply List.ext_getElem
 ·rw [List.length_reverse]; exact hl
 ·intro t h1 h2
  have ht : t < l.length := by omega
  have a := h.at_ t ht
  rw [List.getD, List.getElem?_eq_getElem h1, Option.getD_some] at a
  rw [a, List.getElem_reverse]
  by_cases h3 : t < i ∨ l.length ≤ t + i
  ·rw [if_pos h3, List.getD, List.getElem?_eq_getElem (by omega), Option.getD_some]
  ·rw [if_neg h3, List.getD, List.getElem?_eq_getElem (by omega), Option.getD_some]
   congr 1; omega
theorem rev_l0 (l : List Int) (hl : l.length ≤ 1000) : ∀ d i, 2 * i + d = l.length ∨ 2 * i + d = l.length + 1 → ∀ L, RevInv l L i → Ev (fun k => slices_Reverse_int64_int64.l0 k L (i : Int) ((l.length : Int) - 1 - (i : Int))) l.reverse := by
  intro d
  induction d using Nat.strongRecOn with
  | ind d ih =>
    intro i hd L hL
    have hlen := hL.len
    refine Ev.succ ?_
    simp only [slices_Reverse_int64_int64.l0]
    refine Ev.ite (fun h => ?_) (fun h => Ev.eq (by rw [hL.done (by omega)]))
    have hlt : 2 * i + 1 < l.length := by omega
    have e1 : wrap64 ((i : Int) + 1) = ((i + 1 : Nat) : Int) := by rw [w64 (by omega) (by omega)]; omega
    have e2 : wrap64 ((l.length : Int) - 1 - (i : Int) - 1) = (l.length : Int) - 1 - ((i + 1 : Nat) : Int) := by rw [w64 (by omega) (by omega)]; omega
    have e3 : ((l.length : Int) - 1 - (i : Int)).toNat = l.length - 1 - i := by omega
    have e4 : rd L ((l.length : Int) - 1 - (i : Int)) = L.getD (l.length - 1 - i) 0 := by unfold rd; rw [e3]
    rw [e1, e2, e3, e4, rd_nat, Int.toNat_natCast]
    refine Ev.pos (by omega) (Ev.pos (by omega) (Ev.pos (by omega) (Ev.pos (by omega) ?_)))
    exact ih (d - 2) (by omega) (i + 1) (by omega) _ (hL.step hlt)
theorem rev_ev {l : List Int} (hl : l.length ≤ 1000) : Ev (fun k => slices_Reverse_int64_int64.f k l) l.reverse := by
 unfold slices_Reverse_int64_int64.f
 have e : wrap64 ((l.length : Int) - 1) = (l.length : Int) - 1 - ((0 : Nat) : Int) := by rw [w64 (by omega) (by omega)]; omega
 rw [e]
 exact rev_l0 l hl l.length 0 (by omega) l ⟨rfl, by omega, fun t ht => by rw [if_neg (by omega)]⟩
theorem spec_TurnSide_l0 (a b : Int) (p h : List Int) (hp : p.length = h.length) (hl : p.length ≤ 64) : ∀ d, d ≤ p.length → ∀ P H : List Int, P.length + d ≤ 64 → H.length + d ≤ 64 →
    Ev (fun k => spec_TurnSide.l0 k ((d : Int) - 1) a b p h a b P H) (a, b, P ++ (p.take d).reverse, H ++ (h.take d).reverse.map turned, 0) := by
  intro d
  induction d with
  | zero =>
    intro _ P H _ _
    refine Ev.succ ?_
    simp only [spec_TurnSide.l0]
    exact Ev.neg (by omega) (Ev.eq (by simp))
  | succ d ih =>
    intro hd P H hP hH
    have e0 : (((d + 1 : Nat) : Int) - 1) = (d : Int) := by omega
    have e1 : wrap64 ((d : Int) - 1) = (d : Int) - 1 := w64 (by omega) (by omega)
    rw [e0]
    refine Ev.succ ?_
    simp only [spec_TurnSide.l0, rd_nat]
    rw [e1]
    refine Ev.pos (by omega) (Ev.pos (by omega) (Ev.pos (by omega) (Ev.pos (by omega) (Ev.pos (by omega) (Ev.pos (by omega) ?_)))))
    refine (ih (by omega) (P ++ [p.getD d 0]) (H ++ [wrap64 (1 - h.getD d 0)]) (by simp; omega) (by simp; omega)).cast ?_
    have t1 : p.take (d + 1) = p.take d ++ [p.getD d 0] := by rw [List.take_succ_eq_append_getElem (by omega)]; simp [List.getD, List.getElem?_eq_getElem (show d < p.length by omega)]
    have t2 : h.take (d + 1) = h.take d ++ [h.getD d 0] := by rw [List.take_succ_eq_append_getElem (by omega)]; simp [List.getD, List.getElem?_eq_getElem (show d < h.length by omega)]
    rw [t1, t2, List.reverse_append, List.reverse_append]
    simp [turned]
def turnOf (a b : Int) (p h : List Int) : Int × Int × List Int × List Int × Int := if sideOk a b p h = true then (a, b, p.reverse, h.reverse.map turned, 0) else (0, 0, [], [], 1)
theorem turnOf_length (a b : Int) (p h : List Int) : (turnOf a b p h).2.2.1.length ≤ p.length ∧ (turnOf a b p h).2.2.2.1.length ≤ h.length := by
 unfold turnOf
 split <;> simp
theorem spec_TurnSide_ev {a b : Int} {p h : List Int} (hp : p.length ≤ 1048576) (hh : h.length ≤ 1048576) : Ev (fun k => spec_TurnSide.f k a b p h) (turnOf a b p h) := by
 unfold spec_TurnSide.f turnOf
 refine Ev.bind (spec_IsSide_ev hp hh) (Ev.ite (fun c => ?_) (fun c => Ev.eq (by rw [if_neg c])))
 rw [if_pos c]
 obtain ⟨h0, h1, h2⟩ := sideOk_len c
 have e : wrap64 ((p.length : Int) - 1) = (p.length : Int) - 1 := w64 (by omega) (by omega)
 rw [e]
 refine (spec_TurnSide_l0 a b p h h1 h2 p.length (Nat.le_refl _) [] [] (by simp; omega) (by simp; omega)).cast ?_
 rw [List.take_length, h1, List.take_length]
 simp
theorem impl_TurnSide_ev {a b : Int} {p h : List Int} : Ev (fun k => impl_TurnSide.f k a b p h) (turnOf a b p h) := by
 unfold impl_TurnSide.f turnOf
 refine Ev.bind (Ev.eq (impl_IsSide_eq a b p h)) (Ev.ite (fun c => ?_) (fun c => Ev.eq (by rw [if_neg c])))
 rw [if_pos c]
 obtain ⟨h0, h1, h2⟩ := sideOk_len c
 exact Ev.pos (by omega) (Ev.bind (rev_ev (by omega)) (Ev.eq (by rw [if_pos (List.length_reverse)])))
end Go.Proofs.YtokpepaoneiepaaGreatDoor.PL
end
