import Derived.Test.YtokpepaoneiepaaGreatDoorCFnSides9
set_option linter.unusedVariables false
set_option linter.unusedSimpArgs false
section
namespace Go.Proofs.YtokpepaoneiepaaGreatDoor.PL
open Go.RowKit Go.Proofs.YtokpepaoneiepaaGreatDoorW.PrintWords Go.Proofs.YtokpepaoneiepaaGreatDoorW.PrintLast Go.Proofs.YtokpepaoneiepaaGreatDoorW.PrintMore
attribute [local go_sem] min2_int min_two
set_option maxHeartbeats 4000000 in
theorem slices_Concat_int64_int64.grow (n : Int) (w : World) (h0 : 0 ≤ n) (hn : n ≤ 1000) :
  Calls Tryz.prog 86 #[.slice none 0 0, .int .i64 n] w fun e w' => ∃ v, e = .returned v ∧ Kd.R (Kd.int .i64) 2 w' w.heap.size (fun _ => True) v ([] : List Int) ∧ Below w.heap.size w w' := by
 have b0 : decide (n < 0) = false := decide_eq_false (by omega)
 have hw : wrap64 n = n := by unfold wrap64; omega
 have HB := Aside0.mk (Below.refl w.heap.size w)
 have HW := Aside0.mk hw
 have HN := Aside0.mk (And.intro h0 hn)
 by_cases hp : 0 < n
 ·have b1 : decide (n > 0) = true := decide_eq_true hp
  have b2 : decide (0 < n) = true := decide_eq_true hp
  clear h0 hn hp
  go_enter Tryz.func86, Tryz.ntmps86
  go_wp2_with (((with_reducible refine gate_builtin (b := .append) (xs := #[.tmp 20, .tmp 21]) rfl ?_); at_builtin; refine Kd.R_append_zeros (Kd.int .i64) (w0 := w) w.heap.size rfl (.tmp 20) (.tmp 21) 24 3 2 (.int .i64 0) 8 rfl Tryz.underlying24 Tryz.underlying3 info2 rfl (by decide) (by decide) (.slice none 0 0) [] (0 : Int) (wrap64 n) (fun _ => True) rfl rfl ?hz (fun _ _ => trivial) ?hO (by rw [HW.out]; exact HN.out.1) HB.out (Nat.le_refl _) ?hl ?_; (case hz => exact rfl); (case hO => exact Kd.R_nil _ _ _ _ _); (case hl => rw [HW.out]; have := HN.out; simp; omega); intro v1 w1 hO hb hg hat; obtain ⟨A1, c1, e1⟩ := Kd.R_slice hO; subst e1; have HO := Aside0.mk hO; have HB1 := Aside0.mk hb; clear hO hb hg hat))
  go_ret
  exact ⟨_, rfl, (by have := Kd.R_take HO.out (m := 0) (Nat.zero_le _); simpa using this), HB1.out⟩
 ·have e0 : n = 0 := by omega
  subst e0
  clear h0 hn hp hw b0
  go_enter Tryz.func86, Tryz.ntmps86
  go_wp2
  go_ret
  exact ⟨_, rfl, Kd.R_nil _ _ _ _ _, HB.out⟩
def slices_Concat_int64_int64.catOf (l : List (List Int)) (i : Nat) : List Int := (l.take i).flatten
def slices_Concat_int64_int64.catLen (l : List (List Int)) (i : Nat) : Nat := (slices_Concat_int64_int64.catOf l i).length
theorem slices_Concat_int64_int64.catOf_succ (l : List (List Int)) (i : Nat) (h : i < l.length) : slices_Concat_int64_int64.catOf l (i + 1) = slices_Concat_int64_int64.catOf l i ++ l.getD i [] := by
 unfold slices_Concat_int64_int64.catOf
 rw [List.take_succ_eq_append_getElem h, List.flatten_append]; simp only [List.flatten_cons, List.flatten_nil, List.append_nil, List.getD, List.getElem?_eq_getElem h, Option.getD_some]
theorem slices_Concat_int64_int64.catOf_all (l : List (List Int)) : slices_Concat_int64_int64.catOf l l.length = l.flatten := by unfold slices_Concat_int64_int64.catOf; rw [List.take_length]
theorem slices_Concat_int64_int64.catLen_succ (l : List (List Int)) (i : Nat) (h : i < l.length) : slices_Concat_int64_int64.catLen l (i + 1) = slices_Concat_int64_int64.catLen l i + (l.getD i []).length := by
 unfold slices_Concat_int64_int64.catLen; rw [slices_Concat_int64_int64.catOf_succ l i h, List.length_append]
theorem slices_Concat_int64_int64.catLen_le (l : List (List Int)) (i : Nat) : slices_Concat_int64_int64.catLen l i ≤ l.flatten.length := by
 unfold slices_Concat_int64_int64.catLen slices_Concat_int64_int64.catOf
 have e : l.flatten.length = (l.take i).flatten.length + (l.drop i).flatten.length := by rw [← List.length_append, ← List.flatten_append, List.take_append_drop]
 omega
set_option maxHeartbeats 4000000 in
set_option maxRecDepth 100000 in
theorem slices_Concat_int64_int64.calls (A0 : Option Addr) (c0 : Nat) (l0 : List (List Int)) (w : World) (hr0 : Kd.C (Kd.slice 2 (Kd.int .i64)) w A0 l0.length l0) (hc0 : l0.length ≤ c0) (hl : l0.flatten.length ≤ 1000) (hll : l0.length ≤ 1000) :
  Calls Tryz.prog 65 #[.slice A0 l0.length c0] w fun e w' => ∃ v, e = .returned v ∧ Kd.R (Kd.int .i64) 2 w' w.heap.size (fun _ => True) v l0.flatten ∧ Below w.heap.size w w' := by
 have HR := Aside0.mk hr0; have HL := Aside0.mk (And.intro hl hll); have a2 := Aside0.mk (Below.refl w.heap.size w); clear hr0 hc0 hl hll; go_enter Tryz.func65, Tryz.ntmps65; go_wp2
 go_loopg [3, 5, 11] l0.length (fun gg s3 _ s11 wr => ∃ i : Nat, s3 = .int .i64 (slices_Concat_int64_int64.catLen l0 i : Int) ∧ s11 = .int .i64 i ∧ Aside0 (i ≤ l0.length ∧ l0.length - i ≤ gg) ∧ Aside0 (Below w.heap.size w wr))
 case atStart => exact ⟨0, rfl, rfl, ⟨(by omega)⟩, a2⟩
 case round =>
  obtain ⟨i, rfl, rfl, HI, HB⟩ := hrel; by_cases hlt : i < l0.length
  ·obtain ⟨ad, cs, e, hcl, ⟨A1, c1, hcs, a0, hr1⟩, hcc⟩ := Kd.C_get (Kd.C_below HR.out HB.out) [] (i : Int) (by omega) (by omega)
   subst e hcs; simp only [Int.toNat_natCast] at hcc hr1 a0; have hx : wr.cell? (ad.add i) = some (.slice A1 (l0.getD i []).length c1) := by have h := hcc 0 _ rfl; rw [show i * (Kd.slice 2 (Kd.int .i64)).sz + 0 = i from by show i * 1 + 0 = i; omega] at h; exact h
   have hle := slices_Concat_int64_int64.catLen_le l0 (i + 1); have hs := slices_Concat_int64_int64.catLen_succ l0 i hlt; generalize l0.getD i [] = x at hx hs hr1 a0; have hltz : (i : Int) < (l0.length : Int) := by omega
   have HQ := Aside0.mk hlt
   have hw : wrap64 ((slices_Concat_int64_int64.catLen l0 i : Int) + (x.length : Int)) = (slices_Concat_int64_int64.catLen l0 (i + 1) : Int) := by rw [hs]; have := HL.out; unfold wrap64; omega
   have a7 : decide ((slices_Concat_int64_int64.catLen l0 (i + 1) : Int) < 0) = false := decide_eq_false (by omega)
   have hwi : wrap64 ((i : Int) + 1) = ((i + 1 : Nat) : Int) := by have := HQ.out; have := HL.out; unfold wrap64; omega
   have HWI := Aside0.mk hwi; clear hcc hcl hlt hle hr1 a0 hwi hs; go_wp2
   go_roundg (l0.length - (i + 1))
   case measure => have := HI.out; have := HQ.out; omega
   case rel => exact ⟨i + 1, (by first | rfl | (rw [hw])), (by first | rfl | (rw [HWI.out])), ⟨(by have := HI.out; have := HQ.out; omega)⟩, HB⟩
  ·have hie : i = l0.length := by have := HI.out; omega
   subst hie; have HT := Aside0.mk (slices_Concat_int64_int64.catLen_le l0 l0.length); clear hlt
   go_wp2_with (go_at_call 86; (with_reducible refine (slices_Concat_int64_int64.grow _ _ ?s1 ?s2).mono ?_); (case s1 => omega); (case s2 => have := HT.out; have := HL.out; omega); rintro e w2 ⟨v, rfl, hO, hb⟩; have HO := Aside0.mk (Kd.R_lower hO HB.out.size); have a1 := Aside0.mk (HB.out.trans (hb.mono HB.out.size)); clear hO hb)
   go_loopg [6, 8, 27] l0.length (fun gg s6 _ a3 wr => ∃ (j : Nat) (v : Value), s6 = v ∧ a3 = .int .i64 j ∧ Aside0 (j ≤ l0.length ∧ l0.length - j ≤ gg) ∧ Aside0 (Kd.R (Kd.int .i64) 2 wr w.heap.size (fun _ => True) v (slices_Concat_int64_int64.catOf l0 j)) ∧ Aside0 (Below w.heap.size w wr))
   case atStart => exact ⟨0, _, rfl, rfl, ⟨(by omega)⟩, HO, a1⟩
   case round =>
    clear a1 HO HB HI; obtain ⟨j, v, rfl, rfl, HI, HO, HB⟩ := hrel; by_cases hlt : j < l0.length
    ·obtain ⟨ad, cs, e, hcl, ⟨A1, c1, hcs, a0, hr1⟩, hcc⟩ := Kd.C_get (Kd.C_below HR.out HB.out) [] (j : Int) (by omega) (by omega)
     subst e hcs; simp only [Int.toNat_natCast] at hcc hr1 a0; have hx := hcc 0 _ rfl; rw [show j * (Kd.slice 2 (Kd.int .i64)).sz + 0 = j from by show j * 1 + 0 = j; omega] at hx; have hle := slices_Concat_int64_int64.catLen_le l0 (j + 1); have hs := slices_Concat_int64_int64.catLen_succ l0 j hlt; have HS := Aside0.mk (slices_Concat_int64_int64.catOf_succ l0 j hlt); generalize l0.getD j [] = x at hx hs hr1 a0 HS; have hltz : (j : Int) < (l0.length : Int) := by omega
     have HQ := Aside0.mk hlt; have HX := Aside0.mk hr1; have HLE := Aside0.mk (show (slices_Concat_int64_int64.catOf l0 j).length + x.length ≤ l0.flatten.length by unfold slices_Concat_int64_int64.catLen at hle hs; omega); have HWI := Aside0.mk (show wrap64 ((j : Int) + 1) = ((j + 1 : Nat) : Int) by have := HQ.out; have := HL.out; unfold wrap64; omega); clear hcc hcl hlt hle hr1 a0 hs
     go_wp2_with (((with_reducible refine gate_builtin (b := .append) (xs := #[.tmp 31, .tmp 32]) rfl ?_); at_builtin; refine Kd.R_append_rows (Kd.int .i64) (w0 := w) w.heap.size rfl (.tmp 31) (.tmp 32) 24 2 (.int .i64 0) 8 rfl Tryz.underlying24 info2 rfl (by decide) (by omega) _ (slices_Concat_int64_int64.catOf l0 j) x _ _ _ (fun _ => True) (fun _ => False) rfl rfl ?aO ?aR (fun _ _ h => h) (fun _ h => h.elim) ?aF ?aB ?aS ?aL ?_; (case aR => exact HX.out); (case aB => exact HB.out); (case aF => exact (fun _ _ => trivial)); (case aO => exact HO.out); (case aS => exact HB.out.size); (case aL => have := HLE.out; have := HL.out; omega); intro a4 a8 ho hb hg hat; clear hg hat; rw [← HS.out] at ho; have a5 := Aside0.mk ho; have a6 := Aside0.mk hb; clear ho hb))
     go_roundg (l0.length - (j + 1))
     case measure => have := HI.out; have := HQ.out; omega
     case rel => exact ⟨j + 1, _, rfl, (by first | rfl | (rw [HWI.out])), ⟨(by have := HI.out; have := HQ.out; omega)⟩, a5, a6⟩
    ·have hje : j = l0.length := by have := HI.out; omega
     subst hje; have HA := Aside0.mk (slices_Concat_int64_int64.catOf_all l0); clear hlt; go_wp2; go_ret; exact ⟨_, rfl, (by rw [← HA.out]; exact HO.out), HB.out⟩
end Go.Proofs.YtokpepaoneiepaaGreatDoor.PL
end
