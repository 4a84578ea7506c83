-- Gathered by this session's program wip/tool/shake.py out of its own texts and of what the kit's print and the session's patches of it wrote for this claim.
import Derived.Lib.ItoaLen
import Derived.Test.YtoiioapkebglgaaGreatDoorCReadFormText8
import Derived.Test.YtoiioapkebglgaaGreatDoorCReadFormText12
import Derived.Test.YtoiioapkebglgaaGreatDoorCReadFormText16
section
namespace Go.Proofs.YtoiioapkebglgaaGreatDoor.PF
open Go.RowKit Go.Proofs.YtoiioapkebglgaaGreatDoorW.PrintWords Go.Proofs.YtoiioapkebglgaaGreatDoorW.PrintLast Go.Proofs.YtoiioapkebglgaaGreatDoorW.PrintMore
attribute [local go_sem] max2_int min2_int max_two min_two max_three min_three max_four min_four   -- for this text's walks alone
set_option linter.unusedVariables false
set_option linter.unusedSimpArgs false
def sidePiece (wide : Int) (heads : List Int) (i : Nat) (p : Int) : List UInt8 := (Lib.itoa p ++ [if rd heads (i : Int) = 0 then 94 else 118]) ++ [if Int.tmod (i : Int) wide = wide - 1 then 10 else 32]
/-- The text of the first cells of a side. -/
def sideL (wide : Int) (heads : List Int) (pages : List Int) : Nat → List UInt8
  | 0 => []
  | i + 1 => sideL wide heads pages i ++ sidePiece wide heads i (rd pages (i : Int))
theorem sideL_le (wide : Int) (heads pages : List Int) (hp : ∀ i : Nat, -9223372036854775808 ≤ rd pages (i : Int) ∧ rd pages (i : Int) ≤ 9223372036854775807) : ∀ i, (sideL wide heads pages i).length ≤ 23 * i
  | 0 => by simp [sideL]
  | i + 1 => by
    have h1 := sideL_le wide heads pages hp i
    have h2 := Lib.itoa_length_le (rd pages (i : Int)) (hp i).1 (hp i).2
    simp only [sideL, sidePiece, List.length_append, List.length_cons, List.length_nil]
    omega
theorem builderAt_below {T e : TypeId} {B b : Nat} {p : Value} {bs : List Value} {w w' : World} (h : Lib.BuilderAt T e B b p bs w) (hb : Below w.heap.size w w') : Lib.BuilderAt T e B b p bs w' := by
  have hlt := h.lt
  obtain ⟨hB, v, hk, ho, hn⟩ := h
  exact ⟨hB, v, (hb.block b hlt).trans hk, own_move ho (fun k hk' => hb.block k (own_lt ho k hk')), hn⟩
theorem builder_below {T e : TypeId} {B b : Nat} {bs : List Value} {w w' : World} (h : Lib.IsBuilder T e B b bs w) (hb : Below w.heap.size w w') : Lib.IsBuilder T e B b bs w' :=
  h.elim (fun h => .inl (builderAt_below h hb)) (fun h => .inr (builderAt_below h hb))
theorem side_write (B : Nat) (l : List UInt8) (s : ByteArray) (w : World) (h : Lib.IsBuilder 80 5 B B (Lib.byteCells l) w) (hlen : l.length + s.size ≤ 1000000) (hBw : B ≤ w.heap.size) :
    Calls Tryz.prog 56 #[.pointer (some ⟨B, 0, none⟩), .string s] w fun e w' => e = .returned (.tuple #[.int .i64 s.size, .nilIface]) ∧ Lib.IsBuilder 80 5 B B (Lib.byteCells (l ++ s.data.toList)) w' ∧ Below B w w' := by
  refine (Any.Builder_WriteString (P := Tryz.prog) (ρ := Tryz.lays166_ren) { Tryz.lays166 with } Tryz.Builder_Extra_166 B B (Lib.byteCells l) s w h (by rw [Lib.byteCells_length]; omega) hBw).mono ?_
  rintro e w' ⟨rfl, h1, h2⟩
  refine ⟨rfl, ?_, h2⟩
  rw [Lib.byteCells_append]
  exact .inr h1
theorem side_string (B : Nat) (l : List UInt8) (w : World) (h : Lib.IsBuilder 80 5 B B (Lib.byteCells l) w) (hBw : B ≤ w.heap.size) :
    Calls Tryz.prog 57 #[.pointer (some ⟨B, 0, none⟩)] w fun e w' => e = .returned (.string ⟨l.toArray⟩) ∧ Below B w w' :=
  Any.Builder_String_any (P := Tryz.prog) (ρ := Tryz.lays169_ren) { Tryz.lays169 with } Tryz.Builder_Extra_169 B B l w h hBw
def impl_sideText.f (a0_0 : Int) (a0_1 : Int) (l0_2 : List Int) (l0_3 : List Int) : Option ByteArray :=
  if l0_2.length ≤ l0_3.length ∧ l0_2.length ≤ 1000 ∧ 1 ≤ a0_0 ∧ a0_0 ≤ 1000 ∧ (l0_2.all fun x => decide (-9223372036854775808 ≤ x ∧ x ≤ 9223372036854775807)) = true then some ⟨(sideL a0_0 l0_3 l0_2 l0_2.length).toArray⟩ else none
theorem af6_ {p : Prop} (h : p) : Aside0 p := ⟨h⟩
set_option maxHeartbeats 4000000 in
set_option maxRecDepth 100000 in
theorem impl_sideText.calls (a0_0 : Int) (a0_1 : Int) (A0_2 : Option Addr) (c0_2 : Nat) (l0_2 : List Int) (A0_3 : Option Addr) (c0_3 : Nat) (l0_3 : List Int) (r : ByteArray) (w : World) (hr0_2 : Kd.C (Kd.int .i64) w A0_2 l0_2.length l0_2) (hc0_2 : l0_2.length ≤ c0_2) (hr0_3 : Kd.C (Kd.int .i64) w A0_3 l0_3.length l0_3) (hc0_3 : l0_3.length ≤ c0_3) (h : impl_sideText.f a0_0 a0_1 l0_2 l0_3 = some r) (hT : TabW w) :
 Calls Tryz.prog 38 #[.agg #[.int .i64 a0_0, .int .i64 a0_1, .slice A0_2 l0_2.length c0_2, .slice A0_3 l0_3.length c0_3]] w fun e w' => e = .returned (.string r) ∧ Below w.heap.size w w' := by
 unfold impl_sideText.f at h
 split at h
 case isFalse => cases h
 rename_i hc
 obtain rfl := Option.some.inj h; obtain ⟨h1, h2, h3, h4, h5⟩ := hc
 have hp : ∀ i : Nat, -9223372036854775808 ≤ rd l0_2 (i : Int) ∧ rd l0_2 (i : Int) ≤ 9223372036854775807 := by
  intro i
  rw [List.all_eq_true] at h5
  unfold rd
  rw [Int.toNat_natCast]
  by_cases hi : i < l0_2.length
  ·
   have := h5 (l0_2.getD i 0) (by simp [List.getD, List.getElem?_eq_getElem hi])
   simpa using this
  ·
   rw [List.getD, List.getElem?_eq_none (by omega)]; simp
 have HP := af6_ hp; have HLE := af6_ (sideL_le a0_0 l0_3 l0_2 hp); have HC := af6_ (And.intro h1 (And.intro h2 (And.intro h3 h4))); have HR2 := af6_ hr0_2; have HR3 := af6_ hr0_3; have HT := af6_ hT; clear h h1 h2 h3 h4 h5 hp hr0_2 hr0_3 hc0_2 hc0_3 hT; obtain ⟨W1, hW1⟩ : ∃ W1, W1 = w.alloc (.cells #[.int .i64 a0_0, .int .i64 a0_1, .slice A0_2 l0_2.length c0_2, .slice A0_3 l0_3.length c0_3] 33) := ⟨_, rfl⟩; obtain ⟨W2, hW2⟩ : ∃ W2, W2 = W1.alloc (.cells #[.pointer none, .slice none 0 0] 80) := ⟨_, rfl⟩
 have hs1 : W1.heap.size = w.heap.size + 1 := by rw [hW1]; simp
 have HB2 := af6_ (show Below w.heap.size w W2 by rw [hW2, hW1]; exact ((Below.refl _ w).alloc (Nat.le_refl _) _).alloc (by simp) _)
 have HF := af6_ (show Lib.IsBuilder 80 5 (w.heap.size + 1) (w.heap.size + 1) (Lib.byteCells (sideL a0_0 l0_3 l0_2 0)) W2 by
  have h := Lib.fresh_isBuilder 80 5 W1
  rw [hs1, ← hW2] at h
  exact h)
 have hblk : W2.heap[w.heap.size]? = some (.cells #[.int .i64 a0_0, .int .i64 a0_1, .slice A0_2 l0_2.length c0_2, .slice A0_3 l0_3.length c0_3] 33 (0, 0)) := by
  rw [hW2, Lib.alloc_old _ _ _ (by rw [hs1]; exact Nat.lt_succ_self _), hW1]; exact heap_alloc_new w _
 have hx0 : W2.cell? ⟨w.heap.size, 0, none⟩ = some (.int .i64 a0_0) := (Lib.cell_of_heap hblk 0).trans rfl; have hx3 : W2.cell? ⟨w.heap.size, 3, none⟩ = some (.slice A0_3 l0_3.length c0_3) := (Lib.cell_of_heap hblk 3).trans rfl; have HX0 := af6_ hx0; have HX3 := af6_ hx3
 have HS2 := af6_ (show W2.heap.size = w.heap.size + 2 by rw [hW2, hW1]; simp)
 have HWE := af6_ (show (w.alloc (.cells #[.int .i64 a0_0, .int .i64 a0_1, .slice A0_2 l0_2.length c0_2, .slice A0_3 l0_3.length c0_3] 33)).alloc (.cells #[.pointer none, .slice none 0 0] 80) = W2 by rw [hW2, hW1])
 clear hx0 hx3 hblk hs1 hW2 hW1 W1; have hu39 := Tryz.underlying33; have hu126 := Tryz.underlying80
 go_enter Tryz.func38, Tryz.ntmps38
 go_wp2_with fail
 rw [HWE.out]
 go_loopg [4, 5, 9] l0_2.length (fun gg _ _ s9 wr => ∃ i : Nat, s9 = .int .i64 i ∧ Aside0 (i ≤ l0_2.length ∧ l0_2.length - i ≤ gg) ∧ Aside0 (Lib.IsBuilder 80 5 (w.heap.size + 1) (w.heap.size + 1) (Lib.byteCells (sideL a0_0 l0_3 l0_2 i)) wr) ∧ Aside0 (Below (w.heap.size + 1) W2 wr))
 case atStart => exact ⟨0, rfl, ⟨(by omega)⟩, HF, ⟨Below.refl _ _⟩⟩
 case round =>
  obtain ⟨i, rfl, HI, HBB, HB⟩ := hrel
  by_cases hlt : i < l0_2.length
  ·
   have HBW := af6_ (HB2.out.trans (HB.out.mono (Nat.le_succ _)))
   have hsz : w.heap.size + 1 < wr.heap.size := by have := HB.out.size; have := HS2.out; omega
   obtain ⟨ad, e, hx⟩ := Kd.at_int (Kd.C_below HR2.out HBW.out) (i : Int) (by omega) (by omega)
   cases e
   have y0 : wr.cell? ⟨w.heap.size, 0, none⟩ = some (.int .i64 a0_0) := (HB.out.cell (p := ⟨w.heap.size, 0, none⟩) (Nat.lt_succ_self _)).trans HX0.out; have y3 : wr.cell? ⟨w.heap.size, 3, none⟩ = some (.slice A0_3 l0_3.length c0_3) := (HB.out.cell (p := ⟨w.heap.size, 3, none⟩) (Nat.lt_succ_self _)).trans HX3.out; have Y0 := af6_ y0; have Y3 := af6_ y3; clear y0 y3; have HQ := af6_ hlt; have q0 : ((0 : Int) ≤ (i : Int)) = True := eq_true (by omega); have q1 : ((i : Int) < (l0_2.length : Int)) = True := eq_true (by omega); have b0 : decide ((i : Int) < (l0_2.length : Int)) = true := decide_eq_true (by omega)
   simp only [Int.toNat_natCast] at hx
   clear hlt
   have hd : impl_decimal.f (rd l0_2 (i : Int)) = some (itoaB (rd l0_2 (i : Int))) := by
    unfold impl_decimal.f strconv_FormatInt.f
    rw [if_pos ⟨(HP.out i).1, (HP.out i).2, rfl⟩]; rfl
   have HD := af6_ hd; have HSZ := af6_ hsz; clear hd hsz
   go_wp2_with fail
   refine (impl_decimal.calls (rd l0_2 (i : Int)) (itoaB (rd l0_2 (i : Int))) wr HD.out (tabw_below HT.out HBW.out)).mono ?_
   rintro e w3 ⟨rfl, hb3⟩; have H3 := af6_ (builder_below HBB.out hb3); have HB3 := af6_ (HB.out.trans (hb3.mono (Nat.le_of_lt HSZ.out))); have HZ3 := af6_ (Nat.le_trans (Nat.le_of_lt HSZ.out) hb3.size); have HIL := af6_ (Lib.itoa_length_le (rd l0_2 (i : Int)) (HP.out i).1 (HP.out i).2)
   have HIS := af6_ (show (itoaB (rd l0_2 (i : Int))).size = (Lib.itoa (rd l0_2 (i : Int))).length by unfold itoaB; rw [ByteArray.size]; simp)
   clear hb3 hx HBB HB
   go_wp2_with fail
   refine (side_write (w.heap.size + 1) (sideL a0_0 l0_3 l0_2 i) (itoaB (rd l0_2 (i : Int))) w3 H3.out (by have := HLE.out i; have := HC.out.2.1; have := HQ.out; have := HIL.out; have := HIS.out; omega) HZ3.out).mono ?_
   rintro e w4 ⟨rfl, h4, hb4⟩; have H4 := af6_ h4; have HB4 := af6_ (HB3.out.trans hb4); have HZ4 := af6_ (Nat.le_trans HZ3.out hb4.size); clear h4 hb4 H3 HB3 HZ3; have HBW4 := af6_ (HB2.out.trans (HB4.out.mono (Nat.le_succ _))); obtain ⟨ad3, e, hx3⟩ := Kd.at_int (Kd.C_below HR3.out HBW4.out) (i : Int) (by omega) (by have := HC.out.1; have := HQ.out; omega)
   cases e
   simp only [Int.toNat_natCast] at hx3
   have y3 : w4.cell? ⟨w.heap.size, 3, none⟩ = some (.slice (some ad3) l0_3.length c0_3) := (HB4.out.cell (p := ⟨w.heap.size, 3, none⟩) (Nat.lt_succ_self _)).trans HX3.out; have p1 : ((i : Int) < (l0_3.length : Int)) = True := eq_true (by have := HC.out.1; have := HQ.out; omega); obtain ⟨hv, hhv⟩ : ∃ hv, rd l0_3 (i : Int) = hv := ⟨_, rfl⟩; have HHV := af6_ hhv
   rw [hhv] at hx3
   clear hhv
   by_cases hz : hv = 0
   ·
    have z0 : (hv == 0) = true := beq_iff_eq.mpr hz; have z1 : decide (hv = 0) = true := decide_eq_true hz; have HZV := af6_ hz; clear hz
    go_wp2_with fail
    refine (side_write (w.heap.size + 1) _ ⟨#[94]⟩ w4 H4.out (by have := HLE.out i; have := HC.out.2.1; have := HQ.out; have := HIL.out; have := HIS.out; have := data_length (itoaB (rd l0_2 (i : Int))); rw [show (⟨#[94]⟩ : ByteArray).size = 1 from rfl, List.length_append]; omega) HZ4.out).mono ?_
    rintro e w5 ⟨rfl, h5, hb5⟩; have H5 := af6_ h5; have HB5 := af6_ (HB4.out.trans hb5); have HZ5 := af6_ (Nat.le_trans HZ4.out hb5.size); clear h5 hb5 H4 HB4 HZ4 z0 z1 y3 hx3 HBW4; have y0 : w5.cell? ⟨w.heap.size, 0, none⟩ = some (.int .i64 a0_0) := (HB5.out.cell (p := ⟨w.heap.size, 0, none⟩) (Nat.lt_succ_self _)).trans HX0.out; have n0 : (a0_0 == 0) = false := beq_eq_false_iff_ne.mpr (by have := HC.out; omega)
    have n2 : ¬ a0_0 = 0 := by have := HC.out; omega
    by_cases hm : Int.tmod (i : Int) a0_0 = wrap64 (a0_0 - 1)
    ·
     have m0 : (Int.tmod (i : Int) a0_0 == wrap64 (a0_0 - 1)) = true := beq_iff_eq.mpr hm
     have m1 : ((i : Int) % a0_0 == wrap64 (a0_0 - 1)) = true := by rw [← Int.tmod_eq_emod_of_nonneg (show (0 : Int) ≤ (i : Int) by omega)]; exact m0
     clear m0
     have HM := af6_ (show _ from (show wrap64 (a0_0 - 1) = a0_0 - 1 by have := HC.out; unfold wrap64; omega) ▸ hm)
     clear hm
     go_wp2_with fail
     repeat (go_quiet (fail); try go_wp2_with fail)
     have HW5 := af6_ (pw_below_drewN (Below.refl w5.heap.size w5) nq)
     refine (side_write (w.heap.size + 1) (sideL a0_0 l0_3 l0_2 i ++ (itoaB (rd l0_2 (i : Int))).data.toList ++ (⟨#[94]⟩ : ByteArray).data.toList) ⟨#[10]⟩ (w5.drewN nq) (builder_below H5.out HW5.out) (by have := HLE.out i; have := HC.out.2.1; have := HQ.out; have := HIL.out; have := HIS.out; have := data_length (itoaB (rd l0_2 (i : Int))); rw [show (⟨#[10]⟩ : ByteArray).size = 1 from rfl, List.length_append, List.length_append, show (⟨#[94]⟩ : ByteArray).data.toList.length = 1 from rfl]; omega) HZ5.out).mono ?_
     rintro e w6 ⟨rfl, h6, hb6⟩; have H6 := af6_ h6; have HB6 := af6_ (HB5.out.trans ((HW5.out.mono HZ5.out).trans hb6)); clear h6 hb6 H5 HB5 HZ5
     have HNEXT := af6_ (show (sideL a0_0 l0_3 l0_2 i ++ (itoaB (rd l0_2 (i : Int))).data.toList ++ (⟨#[94]⟩ : ByteArray).data.toList ++ (⟨#[10]⟩ : ByteArray).data.toList) = sideL a0_0 l0_3 l0_2 (i + 1) by
      simp only [sideL, sidePiece, HHV.out, if_pos HZV.out, if_pos HM.out, itoaB, List.append_assoc])
     have HW := af6_ (show wrap64 ((i : Int) + 1) = ((i + 1 : Nat) : Int) by have := HC.out.2.1; have := HQ.out; unfold wrap64; omega)
     go_wp2_with fail
     go_roundg (l0_2.length - (i + 1))
     case measure => have := HI.out; have := HQ.out; omega
     case rel => exact ⟨i + 1, (by rw [HW.out]), ⟨(by have := HQ.out; omega)⟩, ⟨(by rw [← HNEXT.out]; exact H6.out)⟩, HB6⟩
    ·
     have m0 : (Int.tmod (i : Int) a0_0 == wrap64 (a0_0 - 1)) = false := beq_eq_false_iff_ne.mpr hm
     have m1 : ((i : Int) % a0_0 == wrap64 (a0_0 - 1)) = false := by rw [← Int.tmod_eq_emod_of_nonneg (show (0 : Int) ≤ (i : Int) by omega)]; exact m0
     clear m0
     have HM := af6_ (show _ from (show wrap64 (a0_0 - 1) = a0_0 - 1 by have := HC.out; unfold wrap64; omega) ▸ hm)
     clear hm
     go_wp2_with fail
     repeat (go_quiet (fail); try go_wp2_with fail)
     have HW5 := af6_ (pw_below_drewN (Below.refl w5.heap.size w5) nq)
     refine (side_write (w.heap.size + 1) (sideL a0_0 l0_3 l0_2 i ++ (itoaB (rd l0_2 (i : Int))).data.toList ++ (⟨#[94]⟩ : ByteArray).data.toList) ⟨#[32]⟩ (w5.drewN nq) (builder_below H5.out HW5.out) (by have := HLE.out i; have := HC.out.2.1; have := HQ.out; have := HIL.out; have := HIS.out; have := data_length (itoaB (rd l0_2 (i : Int))); rw [show (⟨#[32]⟩ : ByteArray).size = 1 from rfl, List.length_append, List.length_append, show (⟨#[94]⟩ : ByteArray).data.toList.length = 1 from rfl]; omega) HZ5.out).mono ?_
     rintro e w6 ⟨rfl, h6, hb6⟩; have H6 := af6_ h6; have HB6 := af6_ (HB5.out.trans ((HW5.out.mono HZ5.out).trans hb6)); clear h6 hb6 H5 HB5 HZ5
     have HNEXT := af6_ (show (sideL a0_0 l0_3 l0_2 i ++ (itoaB (rd l0_2 (i : Int))).data.toList ++ (⟨#[94]⟩ : ByteArray).data.toList ++ (⟨#[32]⟩ : ByteArray).data.toList) = sideL a0_0 l0_3 l0_2 (i + 1) by
      simp only [sideL, sidePiece, HHV.out, if_pos HZV.out, if_neg HM.out, itoaB, List.append_assoc])
     have HW := af6_ (show wrap64 ((i : Int) + 1) = ((i + 1 : Nat) : Int) by have := HC.out.2.1; have := HQ.out; unfold wrap64; omega)
     go_wp2_with fail
     go_roundg (l0_2.length - (i + 1))
     case measure => have := HI.out; have := HQ.out; omega
     case rel => exact ⟨i + 1, (by rw [HW.out]), ⟨(by have := HQ.out; omega)⟩, ⟨(by rw [← HNEXT.out]; exact H6.out)⟩, HB6⟩
   ·
    have z0 : (hv == 0) = false := beq_eq_false_iff_ne.mpr hz; have z1 : decide (hv = 0) = false := decide_eq_false hz; have HZV := af6_ hz; clear hz
    go_wp2_with fail
    refine (side_write (w.heap.size + 1) _ ⟨#[118]⟩ w4 H4.out (by have := HLE.out i; have := HC.out.2.1; have := HQ.out; have := HIL.out; have := HIS.out; have := data_length (itoaB (rd l0_2 (i : Int))); rw [show (⟨#[118]⟩ : ByteArray).size = 1 from rfl, List.length_append]; omega) HZ4.out).mono ?_
    rintro e w5 ⟨rfl, h5, hb5⟩; have H5 := af6_ h5; have HB5 := af6_ (HB4.out.trans hb5); have HZ5 := af6_ (Nat.le_trans HZ4.out hb5.size); clear h5 hb5 H4 HB4 HZ4 z0 z1 y3 hx3 HBW4; have y0 : w5.cell? ⟨w.heap.size, 0, none⟩ = some (.int .i64 a0_0) := (HB5.out.cell (p := ⟨w.heap.size, 0, none⟩) (Nat.lt_succ_self _)).trans HX0.out; have n0 : (a0_0 == 0) = false := beq_eq_false_iff_ne.mpr (by have := HC.out; omega)
    have n2 : ¬ a0_0 = 0 := by have := HC.out; omega
    by_cases hm : Int.tmod (i : Int) a0_0 = wrap64 (a0_0 - 1)
    ·
     have m0 : (Int.tmod (i : Int) a0_0 == wrap64 (a0_0 - 1)) = true := beq_iff_eq.mpr hm
     have m1 : ((i : Int) % a0_0 == wrap64 (a0_0 - 1)) = true := by rw [← Int.tmod_eq_emod_of_nonneg (show (0 : Int) ≤ (i : Int) by omega)]; exact m0
     clear m0
     have HM := af6_ (show _ from (show wrap64 (a0_0 - 1) = a0_0 - 1 by have := HC.out; unfold wrap64; omega) ▸ hm)
     clear hm
     go_wp2_with fail
     repeat (go_quiet (fail); try go_wp2_with fail)
     have HW5 := af6_ (pw_below_drewN (Below.refl w5.heap.size w5) nq)
     refine (side_write (w.heap.size + 1) (sideL a0_0 l0_3 l0_2 i ++ (itoaB (rd l0_2 (i : Int))).data.toList ++ (⟨#[118]⟩ : ByteArray).data.toList) ⟨#[10]⟩ (w5.drewN nq) (builder_below H5.out HW5.out) (by have := HLE.out i; have := HC.out.2.1; have := HQ.out; have := HIL.out; have := HIS.out; have := data_length (itoaB (rd l0_2 (i : Int))); rw [show (⟨#[10]⟩ : ByteArray).size = 1 from rfl, List.length_append, List.length_append, show (⟨#[118]⟩ : ByteArray).data.toList.length = 1 from rfl]; omega) HZ5.out).mono ?_
     rintro e w6 ⟨rfl, h6, hb6⟩; have H6 := af6_ h6; have HB6 := af6_ (HB5.out.trans ((HW5.out.mono HZ5.out).trans hb6)); clear h6 hb6 H5 HB5 HZ5
     have HNEXT := af6_ (show (sideL a0_0 l0_3 l0_2 i ++ (itoaB (rd l0_2 (i : Int))).data.toList ++ (⟨#[118]⟩ : ByteArray).data.toList ++ (⟨#[10]⟩ : ByteArray).data.toList) = sideL a0_0 l0_3 l0_2 (i + 1) by
      simp only [sideL, sidePiece, HHV.out, if_neg HZV.out, if_pos HM.out, itoaB, List.append_assoc])
     have HW := af6_ (show wrap64 ((i : Int) + 1) = ((i + 1 : Nat) : Int) by have := HC.out.2.1; have := HQ.out; unfold wrap64; omega)
     go_wp2_with fail
     go_roundg (l0_2.length - (i + 1))
     case measure => have := HI.out; have := HQ.out; omega
     case rel => exact ⟨i + 1, (by rw [HW.out]), ⟨(by have := HQ.out; omega)⟩, ⟨(by rw [← HNEXT.out]; exact H6.out)⟩, HB6⟩
    ·
     have m0 : (Int.tmod (i : Int) a0_0 == wrap64 (a0_0 - 1)) = false := beq_eq_false_iff_ne.mpr hm
     have m1 : ((i : Int) % a0_0 == wrap64 (a0_0 - 1)) = false := by rw [← Int.tmod_eq_emod_of_nonneg (show (0 : Int) ≤ (i : Int) by omega)]; exact m0
     clear m0
     have HM := af6_ (show _ from (show wrap64 (a0_0 - 1) = a0_0 - 1 by have := HC.out; unfold wrap64; omega) ▸ hm)
     clear hm
     go_wp2_with fail
     repeat (go_quiet (fail); try go_wp2_with fail)
     have HW5 := af6_ (pw_below_drewN (Below.refl w5.heap.size w5) nq)
     refine (side_write (w.heap.size + 1) (sideL a0_0 l0_3 l0_2 i ++ (itoaB (rd l0_2 (i : Int))).data.toList ++ (⟨#[118]⟩ : ByteArray).data.toList) ⟨#[32]⟩ (w5.drewN nq) (builder_below H5.out HW5.out) (by have := HLE.out i; have := HC.out.2.1; have := HQ.out; have := HIL.out; have := HIS.out; have := data_length (itoaB (rd l0_2 (i : Int))); rw [show (⟨#[32]⟩ : ByteArray).size = 1 from rfl, List.length_append, List.length_append, show (⟨#[118]⟩ : ByteArray).data.toList.length = 1 from rfl]; omega) HZ5.out).mono ?_
     rintro e w6 ⟨rfl, h6, hb6⟩; have H6 := af6_ h6; have HB6 := af6_ (HB5.out.trans ((HW5.out.mono HZ5.out).trans hb6)); clear h6 hb6 H5 HB5 HZ5
     have HNEXT := af6_ (show (sideL a0_0 l0_3 l0_2 i ++ (itoaB (rd l0_2 (i : Int))).data.toList ++ (⟨#[118]⟩ : ByteArray).data.toList ++ (⟨#[32]⟩ : ByteArray).data.toList) = sideL a0_0 l0_3 l0_2 (i + 1) by
      simp only [sideL, sidePiece, HHV.out, if_neg HZV.out, if_neg HM.out, itoaB, List.append_assoc])
     have HW := af6_ (show wrap64 ((i : Int) + 1) = ((i + 1 : Nat) : Int) by have := HC.out.2.1; have := HQ.out; unfold wrap64; omega)
     go_wp2_with fail
     go_roundg (l0_2.length - (i + 1))
     case measure => have := HI.out; have := HQ.out; omega
     case rel => exact ⟨i + 1, (by rw [HW.out]), ⟨(by have := HQ.out; omega)⟩, ⟨(by rw [← HNEXT.out]; exact H6.out)⟩, HB6⟩
  ·
   have hie : i = l0_2.length := by have := HI.out; omega
   subst hie; have b0 : decide ((l0_2.length : Int) < (l0_2.length : Int)) = false := decide_eq_false (by omega)
   have HZ := af6_ (show w.heap.size + 1 ≤ wr.heap.size by have := HB.out.size; have := HS2.out; omega)
   go_wp2_with fail
   refine (side_string (w.heap.size + 1) _ wr HBB.out HZ.out).mono ?_
   rintro e w5 ⟨rfl, hb5⟩; have HB5 := af6_ (HB2.out.trans ((HB.out.trans hb5).mono (Nat.le_succ _))); clear hb5
   go_wp2
   go_ret
   exact ⟨rfl, HB5.out⟩
end Go.Proofs.YtoiioapkebglgaaGreatDoor.PF
end
