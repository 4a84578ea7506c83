import Derived.Lib.ItoaLen
import Derived.Test.YtokpepaoneiepaaGreatDoorCFnSides11
import Derived.Test.YtokpepaoneiepaaGreatDoorCFnSides13
import Derived.Test.YtokpepaoneiepaaGreatDoorCFnSides15
set_option linter.unusedVariables false
set_option linter.unusedSimpArgs false
section
namespace Go.Proofs.YtokpepaoneiepaaGreatDoor.PL
open Go.RowKit Go.Proofs.YtokpepaoneiepaaGreatDoorW.PrintWords Go.Proofs.YtokpepaoneiepaaGreatDoorW.PrintLast Go.Proofs.YtokpepaoneiepaaGreatDoorW.PrintMore
attribute [local go_sem] min2_int min_two
def sidePiece (wide : Int) (heads : List Int) (i : Nat) (p : Int) : List UInt8 := (Lib.itoa p ++ [if rd heads (i : Int) = 0 then 94 else 118]) ++ [if Int.tmod (i : Int) wide = wide - 1 then 10 else 32]
def sideL (wide : Int) (heads : List Int) (pages : List Int) : Nat → List UInt8
 | 0 => []
 | i + 1 => sideL wide heads pages i ++ sidePiece wide heads i (rd pages (i : Int))
theorem sideL_le (wide : Int) (heads pages : List Int) (hp : ∀ i : Nat, -9223372036854775808 ≤ rd pages (i : Int) ∧ rd pages (i : Int) ≤ 9223372036854775807) : ∀ i, (sideL wide heads pages i).length ≤ 23 * i
  | 0 => by simp [sideL]
  | i + 1 => by
    have h1 := sideL_le wide heads pages hp i
    have h2 := Lib.itoa_length_le (rd pages (i : Int)) (hp i).1 (hp i).2
    simp only [sideL, sidePiece, List.length_append, List.length_cons, List.length_nil]
    omega
theorem builderAt_below {T e : TypeId} {B b : Nat} {p : Value} {bs : List Value} {w w' : World} (h : Lib.BuilderAt T e B b p bs w) (hb : Below w.heap.size w w') : Lib.BuilderAt T e B b p bs w' := by
 have hlt := h.lt
 obtain ⟨hB, v, hk, ho, hn⟩ := h
 exact ⟨hB, v, (hb.block b hlt).trans hk, own_move ho (fun k hk' => hb.block k (own_lt ho k hk')), hn⟩
theorem builder_below {T e : TypeId} {B b : Nat} {bs : List Value} {w w' : World} (h : Lib.IsBuilder T e B b bs w) (hb : Below w.heap.size w w') : Lib.IsBuilder T e B b bs w' :=
 h.elim (fun h => .inl (builderAt_below h hb)) (fun h => .inr (builderAt_below h hb))
theorem side_write (B : Nat) (l : List UInt8) (s : ByteArray) (w : World) (h : Lib.IsBuilder 74 5 B B (Lib.byteCells l) w) (hlen : l.length + s.size ≤ 1000000) (hBw : B ≤ w.heap.size) :
  Calls Tryz.prog 45 #[.pointer (some ⟨B, 0, none⟩), .string s] w fun e w' => e = .returned (.tuple #[.int .i64 s.size, .nilIface]) ∧ Lib.IsBuilder 74 5 B B (Lib.byteCells (l ++ s.data.toList)) w' ∧ Below B w w' := by
 refine (Any.Builder_WriteString (P := Tryz.prog) (ρ := Tryz.lays166_ren) { Tryz.lays166 with } Tryz.Builder_Extra_166 B B (Lib.byteCells l) s w h (by rw [Lib.byteCells_length]; omega) hBw).mono ?_
 rintro e w' ⟨rfl, h1, h2⟩
 refine ⟨rfl, ?_, h2⟩
 rw [Lib.byteCells_append]
 exact .inr h1
theorem side_string (B : Nat) (l : List UInt8) (w : World) (h : Lib.IsBuilder 74 5 B B (Lib.byteCells l) w) (hBw : B ≤ w.heap.size) :
  Calls Tryz.prog 47 #[.pointer (some ⟨B, 0, none⟩)] w fun e w' => e = .returned (.string ⟨l.toArray⟩) ∧ Below B w w' :=
 Any.Builder_String_any (P := Tryz.prog) (ρ := Tryz.lays169_ren) { Tryz.lays169 with } Tryz.Builder_Extra_169 B B l w h hBw
def impl_sideText.f (a0_0 : Int) (a0_1 : Int) (l0_2 : List Int) (l0_3 : List Int) : Option ByteArray :=
 if l0_2.length ≤ l0_3.length ∧ l0_2.length ≤ 1000 ∧ 1 ≤ a0_0 ∧ a0_0 ≤ 1000 ∧ (l0_2.all fun x => decide (-9223372036854775808 ≤ x ∧ x ≤ 9223372036854775807)) = true then some ⟨(sideL a0_0 l0_3 l0_2 l0_2.length).toArray⟩ else none
theorem al11_ {p : Prop} (h : p) : Aside0 p := ⟨h⟩
set_option maxHeartbeats 4000000 in
set_option maxRecDepth 100000 in
theorem impl_sideText.calls (a0_0 : Int) (a0_1 : Int) (A0_2 : Option Addr) (c0_2 : Nat) (l0_2 : List Int) (A0_3 : Option Addr) (c0_3 : Nat) (l0_3 : List Int) (r : ByteArray) (w : World) (hr0_2 : Kd.C (Kd.int .i64) w A0_2 l0_2.length l0_2) (hc0_2 : l0_2.length ≤ c0_2) (hr0_3 : Kd.C (Kd.int .i64) w A0_3 l0_3.length l0_3) (hc0_3 : l0_3.length ≤ c0_3) (h : impl_sideText.f a0_0 a0_1 l0_2 l0_3 = some r) (hT : TabW w) :
 Calls Tryz.prog 20 #[.agg #[.int .i64 a0_0, .int .i64 a0_1, .slice A0_2 l0_2.length c0_2, .slice A0_3 l0_3.length c0_3]] w fun e w' => e = .returned (.string r) ∧ Below w.heap.size w w' := by
 unfold impl_sideText.f at h
 split at h
 case isFalse => cases h
 rename_i hc; obtain rfl := Option.some.inj h; obtain ⟨h1, h2, h3, h4, h5⟩ := hc
 have hp : ∀ i : Nat, -9223372036854775808 ≤ rd l0_2 (i : Int) ∧ rd l0_2 (i : Int) ≤ 9223372036854775807 := by
  intro i; rw [List.all_eq_true] at h5; unfold rd; rw [Int.toNat_natCast]; by_cases hi : i < l0_2.length
  ·
   have := h5 (l0_2.getD i 0) (by simp [List.getD, List.getElem?_eq_getElem hi])
   simpa using this
  ·
   rw [List.getD, List.getElem?_eq_none (by omega)]; simp
 have HP := al11_ hp; have HLE := al11_ (sideL_le a0_0 l0_3 l0_2 hp); have HC := al11_ (And.intro h1 (And.intro h2 (And.intro h3 h4))); have ao := al11_ hr0_2; have ap := al11_ hr0_3; have HT := al11_ hT; clear h h1 h2 h3 h4 h5 hp hr0_2 hr0_3 hc0_2 hc0_3 hT; obtain ⟨W1, a8⟩ : ∃ W1, W1 = w.alloc (.cells #[.int .i64 a0_0, .int .i64 a0_1, .slice A0_2 l0_2.length c0_2, .slice A0_3 l0_3.length c0_3] 26) := ⟨_, rfl⟩; obtain ⟨W2, a9⟩ : ∃ W2, W2 = W1.alloc (.cells #[.pointer none, .slice none 0 0] 74) := ⟨_, rfl⟩
 have ae : W1.heap.size = w.heap.size + 1 := by rw [a8]; simp
 have af := al11_ (show Below w.heap.size w W2 by rw [a9, a8]; exact ((Below.refl _ w).alloc (Nat.le_refl _) _).alloc (by simp) _)
 have HF := al11_ (show Lib.IsBuilder 74 5 (w.heap.size + 1) (w.heap.size + 1) (Lib.byteCells (sideL a0_0 l0_3 l0_2 0)) W2 by
  have h := Lib.fresh_isBuilder 74 5 W1; rw [ae, ← a9] at h
  exact h)
 have hblk : W2.heap[w.heap.size]? = some (.cells #[.int .i64 a0_0, .int .i64 a0_1, .slice A0_2 l0_2.length c0_2, .slice A0_3 l0_3.length c0_3] 26 (0, 0)) := by
  rw [a9, Lib.alloc_old _ _ _ (by rw [ae]; exact Nat.lt_succ_self _), a8]; exact heap_alloc_new w _
 have hx0 : W2.cell? ⟨w.heap.size, 0, none⟩ = some (.int .i64 a0_0) := (Lib.cell_of_heap hblk 0).trans rfl; have a5 : W2.cell? ⟨w.heap.size, 3, none⟩ = some (.slice A0_3 l0_3.length c0_3) := (Lib.cell_of_heap hblk 3).trans rfl; have ag := al11_ hx0; have aj := al11_ a5; have ak := al11_ (show W2.heap.size = w.heap.size + 2 by rw [a9, a8]; simp); have HWE := al11_ (show (w.alloc (.cells #[.int .i64 a0_0, .int .i64 a0_1, .slice A0_2 l0_2.length c0_2, .slice A0_3 l0_3.length c0_3] 26)).alloc (.cells #[.pointer none, .slice none 0 0] 74) = W2 by rw [a9, a8]); clear hx0 a5 hblk ae a9 a8 W1; have aq := Tryz.underlying26; have al := Tryz.underlying74; go_enter Tryz.func20, Tryz.ntmps20
 go_wp2_with fail
 rw [HWE.out]
 go_loopg [4, 5, 9] l0_2.length (fun gg _ _ s9 wr => ∃ i : Nat, s9 = .int .i64 i ∧ Aside0 (i ≤ l0_2.length ∧ l0_2.length - i ≤ gg) ∧ Aside0 (Lib.IsBuilder 74 5 (w.heap.size + 1) (w.heap.size + 1) (Lib.byteCells (sideL a0_0 l0_3 l0_2 i)) wr) ∧ Aside0 (Below (w.heap.size + 1) W2 wr))
 case atStart => exact ⟨0, rfl, ⟨(by omega)⟩, HF, ⟨Below.refl _ _⟩⟩
 case round =>
  obtain ⟨i, rfl, HI, HBB, HB⟩ := hrel; by_cases hlt : i < l0_2.length
  ·
   have HBW := al11_ (af.out.trans (HB.out.mono (Nat.le_succ _)))
   have hsz : w.heap.size + 1 < wr.heap.size := by have := HB.out.size; have := ak.out; omega
   obtain ⟨ad, e, hx⟩ := Kd.at_int (Kd.C_below ao.out HBW.out) (i : Int) (by omega) (by omega); cases e; have y0 : wr.cell? ⟨w.heap.size, 0, none⟩ = some (.int .i64 a0_0) := (HB.out.cell (p := ⟨w.heap.size, 0, none⟩) (Nat.lt_succ_self _)).trans ag.out; have y3 : wr.cell? ⟨w.heap.size, 3, none⟩ = some (.slice A0_3 l0_3.length c0_3) := (HB.out.cell (p := ⟨w.heap.size, 3, none⟩) (Nat.lt_succ_self _)).trans aj.out; have Y0 := al11_ y0; have Y3 := al11_ y3; clear y0 y3; have HQ := al11_ hlt; have q0 : ((0 : Int) ≤ (i : Int)) = True := eq_true (by omega); have q1 : ((i : Int) < (l0_2.length : Int)) = True := eq_true (by omega); have b0 : decide ((i : Int) < (l0_2.length : Int)) = true := decide_eq_true (by omega); simp only [Int.toNat_natCast] at hx; clear hlt
   have hd : impl_decimal.f (rd l0_2 (i : Int)) = some (itoaB (rd l0_2 (i : Int))) := by
    unfold impl_decimal.f strconv_FormatInt.f
    rw [if_pos ⟨(HP.out i).1, (HP.out i).2, rfl⟩]; rfl
   have HD := al11_ hd; have HSZ := al11_ hsz; clear hd hsz
   go_wp2_with fail
   refine (impl_decimal.calls (rd l0_2 (i : Int)) (itoaB (rd l0_2 (i : Int))) wr HD.out (tabw_below HT.out HBW.out)).mono ?_; rintro e w3 ⟨rfl, ac⟩; have H3 := al11_ (builder_below HBB.out ac); have am := al11_ (HB.out.trans (ac.mono (Nat.le_of_lt HSZ.out))); have ah := al11_ (Nat.le_trans (Nat.le_of_lt HSZ.out) ac.size); have HIL := al11_ (Lib.itoa_length_le (rd l0_2 (i : Int)) (HP.out i).1 (HP.out i).2); have HIS := al11_ (show (itoaB (rd l0_2 (i : Int))).size = (Lib.itoa (rd l0_2 (i : Int))).length by unfold itoaB; rw [ByteArray.size]; simp); clear ac hx HBB HB
   go_wp2_with fail
   refine (side_write (w.heap.size + 1) (sideL a0_0 l0_3 l0_2 i) (itoaB (rd l0_2 (i : Int))) w3 H3.out (by have := HLE.out i; have := HC.out.2.1; have := HQ.out; have := HIL.out; have := HIS.out; omega) ah.out).mono ?_; rintro e w4 ⟨rfl, h4, ai⟩; have H4 := al11_ h4; have aa := al11_ (am.out.trans ai); have ab := al11_ (Nat.le_trans ah.out ai.size); clear h4 ai H3 am ah; have a6 := al11_ (af.out.trans (aa.out.mono (Nat.le_succ _))); obtain ⟨ar, e, a5⟩ := Kd.at_int (Kd.C_below ap.out a6.out) (i : Int) (by omega) (by have := HC.out.1; have := HQ.out; omega); cases e; simp only [Int.toNat_natCast] at a5; have y3 : w4.cell? ⟨w.heap.size, 3, none⟩ = some (.slice (some ar) l0_3.length c0_3) := (aa.out.cell (p := ⟨w.heap.size, 3, none⟩) (Nat.lt_succ_self _)).trans aj.out; have p1 : ((i : Int) < (l0_3.length : Int)) = True := eq_true (by have := HC.out.1; have := HQ.out; omega); obtain ⟨hv, hhv⟩ : ∃ hv, rd l0_3 (i : Int) = hv := ⟨_, rfl⟩; have HHV := al11_ hhv; rw [hhv] at a5; clear hhv; by_cases hz : hv = 0
   ·
    have z0 : (hv == 0) = true := beq_iff_eq.mpr hz; have z1 : decide (hv = 0) = true := decide_eq_true hz; have HZV := al11_ hz; clear hz
    go_wp2_with fail
    refine (side_write (w.heap.size + 1) _ ⟨#[94]⟩ w4 H4.out (by have := HLE.out i; have := HC.out.2.1; have := HQ.out; have := HIL.out; have := HIS.out; have := data_length (itoaB (rd l0_2 (i : Int))); rw [show (⟨#[94]⟩ : ByteArray).size = 1 from rfl, List.length_append]; omega) ab.out).mono ?_; rintro e w5 ⟨rfl, h5, a4⟩; have H5 := al11_ h5; have a0 := al11_ (aa.out.trans a4); have a1 := al11_ (Nat.le_trans ab.out a4.size); clear h5 a4 H4 aa ab z0 z1 y3 a5 a6; have y0 : w5.cell? ⟨w.heap.size, 0, none⟩ = some (.int .i64 a0_0) := (a0.out.cell (p := ⟨w.heap.size, 0, none⟩) (Nat.lt_succ_self _)).trans ag.out; have n0 : (a0_0 == 0) = false := beq_eq_false_iff_ne.mpr (by have := HC.out; omega)
    have n2 : ¬ a0_0 = 0 := by have := HC.out; omega
    by_cases hm : Int.tmod (i : Int) a0_0 = wrap64 (a0_0 - 1)
    ·
     have m0 : (Int.tmod (i : Int) a0_0 == wrap64 (a0_0 - 1)) = true := beq_iff_eq.mpr hm; have m1 : ((i : Int) % a0_0 == wrap64 (a0_0 - 1)) = true := by rw [← Int.tmod_eq_emod_of_nonneg (show (0 : Int) ≤ (i : Int) by omega)]; exact m0
     clear m0; have HM := al11_ (show _ from (show wrap64 (a0_0 - 1) = a0_0 - 1 by have := HC.out; unfold wrap64; omega) ▸ hm); clear hm
     go_wp2_with fail
     repeat (go_quiet (fail); try go_wp2_with fail)
     have a2 := al11_ (pw_below_drewN (Below.refl w5.heap.size w5) nq); refine (side_write (w.heap.size + 1) (sideL a0_0 l0_3 l0_2 i ++ (itoaB (rd l0_2 (i : Int))).data.toList ++ (⟨#[94]⟩ : ByteArray).data.toList) ⟨#[10]⟩ (w5.drewN nq) (builder_below H5.out a2.out) (by have := HLE.out i; have := HC.out.2.1; have := HQ.out; have := HIL.out; have := HIS.out; have := data_length (itoaB (rd l0_2 (i : Int))); rw [show (⟨#[10]⟩ : ByteArray).size = 1 from rfl, List.length_append, List.length_append, show (⟨#[94]⟩ : ByteArray).data.toList.length = 1 from rfl]; omega) a1.out).mono ?_; rintro e w6 ⟨rfl, h6, a3⟩; have H6 := al11_ h6; have a7 := al11_ (a0.out.trans ((a2.out.mono a1.out).trans a3)); clear h6 a3 H5 a0 a1
     have HNEXT := al11_ (show (sideL a0_0 l0_3 l0_2 i ++ (itoaB (rd l0_2 (i : Int))).data.toList ++ (⟨#[94]⟩ : ByteArray).data.toList ++ (⟨#[10]⟩ : ByteArray).data.toList) = sideL a0_0 l0_3 l0_2 (i + 1) by
      simp only [sideL, sidePiece, HHV.out, if_pos HZV.out, if_pos HM.out, itoaB, List.append_assoc])
     have HW := al11_ (show wrap64 ((i : Int) + 1) = ((i + 1 : Nat) : Int) by have := HC.out.2.1; have := HQ.out; unfold wrap64; omega)
     go_wp2_with fail
     go_roundg (l0_2.length - (i + 1))
     case measure => have := HI.out; have := HQ.out; omega
     case rel => exact ⟨i + 1, (by rw [HW.out]), ⟨(by have := HQ.out; omega)⟩, ⟨(by rw [← HNEXT.out]; exact H6.out)⟩, a7⟩
    ·
     have m0 : (Int.tmod (i : Int) a0_0 == wrap64 (a0_0 - 1)) = false := beq_eq_false_iff_ne.mpr hm; have m1 : ((i : Int) % a0_0 == wrap64 (a0_0 - 1)) = false := by rw [← Int.tmod_eq_emod_of_nonneg (show (0 : Int) ≤ (i : Int) by omega)]; exact m0
     clear m0; have HM := al11_ (show _ from (show wrap64 (a0_0 - 1) = a0_0 - 1 by have := HC.out; unfold wrap64; omega) ▸ hm); clear hm
     go_wp2_with fail
     repeat (go_quiet (fail); try go_wp2_with fail)
     have a2 := al11_ (pw_below_drewN (Below.refl w5.heap.size w5) nq); refine (side_write (w.heap.size + 1) (sideL a0_0 l0_3 l0_2 i ++ (itoaB (rd l0_2 (i : Int))).data.toList ++ (⟨#[94]⟩ : ByteArray).data.toList) ⟨#[32]⟩ (w5.drewN nq) (builder_below H5.out a2.out) (by have := HLE.out i; have := HC.out.2.1; have := HQ.out; have := HIL.out; have := HIS.out; have := data_length (itoaB (rd l0_2 (i : Int))); rw [show (⟨#[32]⟩ : ByteArray).size = 1 from rfl, List.length_append, List.length_append, show (⟨#[94]⟩ : ByteArray).data.toList.length = 1 from rfl]; omega) a1.out).mono ?_; rintro e w6 ⟨rfl, h6, a3⟩; have H6 := al11_ h6; have a7 := al11_ (a0.out.trans ((a2.out.mono a1.out).trans a3)); clear h6 a3 H5 a0 a1
     have HNEXT := al11_ (show (sideL a0_0 l0_3 l0_2 i ++ (itoaB (rd l0_2 (i : Int))).data.toList ++ (⟨#[94]⟩ : ByteArray).data.toList ++ (⟨#[32]⟩ : ByteArray).data.toList) = sideL a0_0 l0_3 l0_2 (i + 1) by
      simp only [sideL, sidePiece, HHV.out, if_pos HZV.out, if_neg HM.out, itoaB, List.append_assoc])
     have HW := al11_ (show wrap64 ((i : Int) + 1) = ((i + 1 : Nat) : Int) by have := HC.out.2.1; have := HQ.out; unfold wrap64; omega)
     go_wp2_with fail
     go_roundg (l0_2.length - (i + 1))
     case measure => have := HI.out; have := HQ.out; omega
     case rel => exact ⟨i + 1, (by rw [HW.out]), ⟨(by have := HQ.out; omega)⟩, ⟨(by rw [← HNEXT.out]; exact H6.out)⟩, a7⟩
   ·
    have z0 : (hv == 0) = false := beq_eq_false_iff_ne.mpr hz; have z1 : decide (hv = 0) = false := decide_eq_false hz; have HZV := al11_ hz; clear hz
    go_wp2_with fail
    refine (side_write (w.heap.size + 1) _ ⟨#[118]⟩ w4 H4.out (by have := HLE.out i; have := HC.out.2.1; have := HQ.out; have := HIL.out; have := HIS.out; have := data_length (itoaB (rd l0_2 (i : Int))); rw [show (⟨#[118]⟩ : ByteArray).size = 1 from rfl, List.length_append]; omega) ab.out).mono ?_; rintro e w5 ⟨rfl, h5, a4⟩; have H5 := al11_ h5; have a0 := al11_ (aa.out.trans a4); have a1 := al11_ (Nat.le_trans ab.out a4.size); clear h5 a4 H4 aa ab z0 z1 y3 a5 a6; have y0 : w5.cell? ⟨w.heap.size, 0, none⟩ = some (.int .i64 a0_0) := (a0.out.cell (p := ⟨w.heap.size, 0, none⟩) (Nat.lt_succ_self _)).trans ag.out; have n0 : (a0_0 == 0) = false := beq_eq_false_iff_ne.mpr (by have := HC.out; omega)
    have n2 : ¬ a0_0 = 0 := by have := HC.out; omega
    by_cases hm : Int.tmod (i : Int) a0_0 = wrap64 (a0_0 - 1)
    ·
     have m0 : (Int.tmod (i : Int) a0_0 == wrap64 (a0_0 - 1)) = true := beq_iff_eq.mpr hm; have m1 : ((i : Int) % a0_0 == wrap64 (a0_0 - 1)) = true := by rw [← Int.tmod_eq_emod_of_nonneg (show (0 : Int) ≤ (i : Int) by omega)]; exact m0
     clear m0; have HM := al11_ (show _ from (show wrap64 (a0_0 - 1) = a0_0 - 1 by have := HC.out; unfold wrap64; omega) ▸ hm); clear hm
     go_wp2_with fail
     repeat (go_quiet (fail); try go_wp2_with fail)
     have a2 := al11_ (pw_below_drewN (Below.refl w5.heap.size w5) nq); refine (side_write (w.heap.size + 1) (sideL a0_0 l0_3 l0_2 i ++ (itoaB (rd l0_2 (i : Int))).data.toList ++ (⟨#[118]⟩ : ByteArray).data.toList) ⟨#[10]⟩ (w5.drewN nq) (builder_below H5.out a2.out) (by have := HLE.out i; have := HC.out.2.1; have := HQ.out; have := HIL.out; have := HIS.out; have := data_length (itoaB (rd l0_2 (i : Int))); rw [show (⟨#[10]⟩ : ByteArray).size = 1 from rfl, List.length_append, List.length_append, show (⟨#[118]⟩ : ByteArray).data.toList.length = 1 from rfl]; omega) a1.out).mono ?_; rintro e w6 ⟨rfl, h6, a3⟩; have H6 := al11_ h6; have a7 := al11_ (a0.out.trans ((a2.out.mono a1.out).trans a3)); clear h6 a3 H5 a0 a1
     have HNEXT := al11_ (show (sideL a0_0 l0_3 l0_2 i ++ (itoaB (rd l0_2 (i : Int))).data.toList ++ (⟨#[118]⟩ : ByteArray).data.toList ++ (⟨#[10]⟩ : ByteArray).data.toList) = sideL a0_0 l0_3 l0_2 (i + 1) by
      simp only [sideL, sidePiece, HHV.out, if_neg HZV.out, if_pos HM.out, itoaB, List.append_assoc])
     have HW := al11_ (show wrap64 ((i : Int) + 1) = ((i + 1 : Nat) : Int) by have := HC.out.2.1; have := HQ.out; unfold wrap64; omega)
     go_wp2_with fail
     go_roundg (l0_2.length - (i + 1))
     case measure => have := HI.out; have := HQ.out; omega
     case rel => exact ⟨i + 1, (by rw [HW.out]), ⟨(by have := HQ.out; omega)⟩, ⟨(by rw [← HNEXT.out]; exact H6.out)⟩, a7⟩
    ·
     have m0 : (Int.tmod (i : Int) a0_0 == wrap64 (a0_0 - 1)) = false := beq_eq_false_iff_ne.mpr hm; have m1 : ((i : Int) % a0_0 == wrap64 (a0_0 - 1)) = false := by rw [← Int.tmod_eq_emod_of_nonneg (show (0 : Int) ≤ (i : Int) by omega)]; exact m0
     clear m0; have HM := al11_ (show _ from (show wrap64 (a0_0 - 1) = a0_0 - 1 by have := HC.out; unfold wrap64; omega) ▸ hm); clear hm
     go_wp2_with fail
     repeat (go_quiet (fail); try go_wp2_with fail)
     have a2 := al11_ (pw_below_drewN (Below.refl w5.heap.size w5) nq); refine (side_write (w.heap.size + 1) (sideL a0_0 l0_3 l0_2 i ++ (itoaB (rd l0_2 (i : Int))).data.toList ++ (⟨#[118]⟩ : ByteArray).data.toList) ⟨#[32]⟩ (w5.drewN nq) (builder_below H5.out a2.out) (by have := HLE.out i; have := HC.out.2.1; have := HQ.out; have := HIL.out; have := HIS.out; have := data_length (itoaB (rd l0_2 (i : Int))); rw [show (⟨#[32]⟩ : ByteArray).size = 1 from rfl, List.length_append, List.length_append, show (⟨#[118]⟩ : ByteArray).data.toList.length = 1 from rfl]; omega) a1.out).mono ?_; rintro e w6 ⟨rfl, h6, a3⟩; have H6 := al11_ h6; have a7 := al11_ (a0.out.trans ((a2.out.mono a1.out).trans a3)); clear h6 a3 H5 a0 a1
     have HNEXT := al11_ (show (sideL a0_0 l0_3 l0_2 i ++ (itoaB (rd l0_2 (i : Int))).data.toList ++ (⟨#[118]⟩ : ByteArray).data.toList ++ (⟨#[32]⟩ : ByteArray).data.toList) = sideL a0_0 l0_3 l0_2 (i + 1) by
      simp only [sideL, sidePiece, HHV.out, if_neg HZV.out, if_neg HM.out, itoaB, List.append_assoc])
     have HW := al11_ (show wrap64 ((i : Int) + 1) = ((i + 1 : Nat) : Int) by have := HC.out.2.1; have := HQ.out; unfold wrap64; omega)
     go_wp2_with fail
     go_roundg (l0_2.length - (i + 1))
     case measure => have := HI.out; have := HQ.out; omega
     case rel => exact ⟨i + 1, (by rw [HW.out]), ⟨(by have := HQ.out; omega)⟩, ⟨(by rw [← HNEXT.out]; exact H6.out)⟩, a7⟩
  ·
   have hie : i = l0_2.length := by have := HI.out; omega
   subst hie; have b0 : decide ((l0_2.length : Int) < (l0_2.length : Int)) = false := decide_eq_false (by omega); have HZ := al11_ (show w.heap.size + 1 ≤ wr.heap.size by have := HB.out.size; have := ak.out; omega)
   go_wp2_with fail
   refine (side_string (w.heap.size + 1) _ wr HBB.out HZ.out).mono ?_; rintro e w5 ⟨rfl, a4⟩; have a0 := al11_ (af.out.trans ((HB.out.trans a4).mono (Nat.le_succ _))); clear a4; go_wp2; go_ret; exact ⟨rfl, a0.out⟩
def impl_SideText.f (a0_0 : Int) (a0_1 : Int) (l0_2 : List Int) (l0_3 : List Int) : Option (ByteArray × Int) := (impl_IsSide.f a0_0 a0_1 l0_2 l0_3).bind fun t515 => (if t515 = true then ((impl_sideText.f a0_0 a0_1 l0_2 l0_3).bind fun t516 => (some (t516, 0))) else (some ((⟨#[]⟩ : ByteArray), 1)))
set_option maxHeartbeats 8000000 in
set_option maxRecDepth 100000 in
theorem impl_SideText.calls (a0_0 : Int) (a0_1 : Int) (A0_2 : Option Addr) (c0_2 : Nat) (l0_2 : List Int) (A0_3 : Option Addr) (c0_3 : Nat) (l0_3 : List Int) (r1 : ByteArray) (r2 : Int) (w : World) (hr0_2 : Kd.C (Kd.int .i64) w A0_2 l0_2.length l0_2) (hc0_2 : l0_2.length ≤ c0_2) (hr0_3 : Kd.C (Kd.int .i64) w A0_3 l0_3.length l0_3) (hc0_3 : l0_3.length ≤ c0_3) (h : impl_SideText.f a0_0 a0_1 l0_2 l0_3 = some (r1, r2)) (hT : TabW w) :
  Calls Tryz.prog 6 #[.agg #[.int .i64 a0_0, .int .i64 a0_1, .slice A0_2 l0_2.length c0_2, .slice A0_3 l0_3.length c0_3]] w fun e w' => e = .returned (.tuple #[.string r1, .int .i64 r2]) ∧ Below w.heap.size w w' := by
 have HT := Aside0.mk hT; clear hT; have aa := Tryz.underlying26; have a1 := Aside0.mk hr0_2; have a2 := Aside0.mk hc0_2; clear hr0_2 hc0_2; have a3 := Aside0.mk hr0_3; have a4 := Aside0.mk hc0_3; clear hr0_3 hc0_3; have HB := Aside0.mk (Below.refl w.heap.size w); unfold impl_SideText.f at h; have H := h; clear h; obtain ⟨a8, A2, H⟩ := bd_ H; (try dsimp only at H); by_cases c3 : a8 = true
 ·subst c3
  replace H := it_ H; obtain ⟨ab, A4, H⟩ := bd_ H; (try dsimp only at H); simp only [Option.some.injEq, Prod.mk.injEq] at H; obtain ⟨rfl, rfl⟩ := H; go_enter Tryz.func6, Tryz.ntmps6
  go_wp2_with (first | ((with_reducible refine gd_ 1 ?_); refine box_event ?hg (N := 1) ?hd (cs := #[.int .i64 a0_0, .int .i64 a0_1, .slice A0_2 l0_2.length c0_2, .slice A0_3 l0_3.length c0_3]) (t := 26) ?hr ?_; (case hd => rfl); (case hg => rfl); (case hr => first | (go_simp; done) | (go_simp; rfl)); intro a5 hg w5 hbox hb; have a0 := Aside0.mk hbox; have a6 := ge_ hg HB; have a7 := ge_ hg HB; replace HB := bst_ HB hb; clear hb hbox hg; have ac := cf4 a0.out) | ((with_reducible refine gt_ 17 ?_); refine cl_ (some 5) Tryz.func17 (impl_IsSide.calls _ _ _ _ _ _ _ _ _ _ (Kd.cb_ a1 HB) a2.out (Kd.cb_ a3 HB) a4.out A2.out) ?_; rintro e w7 ⟨rfl, hb⟩; refine ⟨_, rfl, ?_⟩; replace a0 := bb_ a0 hb; replace HB := bst_ HB hb; (try clear hb); (try clear hb2); (try clear hk); (try clear hi); have ae := cf4 a0.out) | ((with_reducible refine gt_ 20 ?_); refine cl_ (some 8) Tryz.func20 (impl_sideText.calls _ _ _ _ _ _ _ _ _ _ (Kd.cb_ a1 HB) a2.out (Kd.cb_ a3 HB) a4.out A4.out (tabw_below HT.out (wn_ HB))) ?_; rintro e w9 ⟨rfl, hb⟩; refine ⟨_, rfl, ?_⟩; replace a0 := bb_ a0 hb; replace HB := bst_ HB hb; (try clear hb); (try clear hb2); (try clear hk); (try clear hi)))
  go_ret2
  exact ⟨k3_, (wn_ HB)⟩
 ·replace c3 := Bool.eq_false_iff.mpr c3
  subst c3; replace H := if0_ H; simp only [Option.some.injEq, Prod.mk.injEq] at H; obtain ⟨rfl, rfl⟩ := H; go_enter Tryz.func6, Tryz.ntmps6
  go_wp2_with (first | ((with_reducible refine gd_ 1 ?_); refine box_event ?hg (N := 1) ?hd (cs := #[.int .i64 a0_0, .int .i64 a0_1, .slice A0_2 l0_2.length c0_2, .slice A0_3 l0_3.length c0_3]) (t := 26) ?hr ?_; (case hd => rfl); (case hg => rfl); (case hr => first | (go_simp; done) | (go_simp; rfl)); intro a5 hg af hbox hb; have a0 := Aside0.mk hbox; have a6 := ge_ hg HB; have a7 := ge_ hg HB; replace HB := bst_ HB hb; clear hb hbox hg; have a9 := cf4 a0.out) | ((with_reducible refine gt_ 17 ?_); refine cl_ (some 5) Tryz.func17 (impl_IsSide.calls _ _ _ _ _ _ _ _ _ _ (Kd.cb_ a1 HB) a2.out (Kd.cb_ a3 HB) a4.out A2.out) ?_; rintro e ag ⟨rfl, hb⟩; refine ⟨_, rfl, ?_⟩; replace a0 := bb_ a0 hb; replace HB := bst_ HB hb; (try clear hb); (try clear hb2); (try clear hk); (try clear hi)))
  go_ret2
  exact ⟨k3_, (wn_ HB)⟩
end Go.Proofs.YtokpepaoneiepaaGreatDoor.PL
end
