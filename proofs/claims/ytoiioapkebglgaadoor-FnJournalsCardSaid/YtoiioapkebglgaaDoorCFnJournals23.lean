-- Gathered by this session's program wip/tool/shake.py out of its own texts and of what the kit's print and the session's patches of it wrote for this claim.
import Derived.Test.YtoiioapkebglgaaDoorCFnJournals3
import Derived.Test.YtoiioapkebglgaaDoorCFnJournals9
import Derived.Test.YtoiioapkebglgaaDoorCFnJournals17
import Derived.Test.YtoiioapkebglgaaDoorCFnJournals19
import Derived.Test.YtoiioapkebglgaaDoorCFnJournals21
section
namespace Go.Proofs.YtoiioapkebglgaaDoor.PG
open Go.RowKit Go.Proofs.YtoiioapkebglgaaDoorW.PrintWords Go.Proofs.YtoiioapkebglgaaDoorW.PrintLast Go.Proofs.YtoiioapkebglgaaDoorW.PrintMore
attribute [local go_sem] max2_int min2_int max_two min_two max_three min_three max_four min_four   -- for this text's walks alone
set_option linter.unusedVariables false
set_option linter.unusedSimpArgs false
theorem ret_i {k : IntKind} {a b : Int} (h : a = b) : Ending.returned (.int k a) = .returned (.int k b) := by rw [h]
theorem eql_nil {P : Program} (w : World) (t e : TypeId) (a : Option Addr) (n c : Nat) (h : P.underlying t = some (.slice e)) : (binOp .eql t (.slice a n c) (.slice none 0 0)).run P w = .ok (.bool a.isNone) w := by
  have h1 : ∀ d : Nat, (Op.equalIn (d + 1) t (.slice a n c) (.slice none 0 0)).run P w = .ok a.isNone w := fun d => by cases a <;> simp [Op.equalIn, run_underlying h]
  simp [binOp, Op.equal, Op.maxDepth, h1 9999]
end Go.Proofs.YtoiioapkebglgaaDoor.PG
end
section
namespace Go.Proofs.YtoiioapkebglgaaDoor.PG
open Go.RowKit Go.Proofs.YtoiioapkebglgaaDoorW.PrintWords Go.Proofs.YtoiioapkebglgaaDoorW.PrintLast Go.Proofs.YtoiioapkebglgaaDoorW.PrintMore
attribute [local go_sem] max2_int min2_int max_two min_two max_three min_three max_four min_four   -- for this text's walks alone
set_option linter.unusedVariables false
set_option linter.unusedSimpArgs false
def spec_l01Damage.f (s0_0 : List Int) (s0_1 : Int) (s0_2 : Int) (a1 : ByteArray) : Option (ByteArray × Int × Int) := (spec_l01Next.f s0_0 s0_1 s0_2 (wrap64 ((a1.size : Int) + 1))).bind fun bt340 => ((spec_l01Next.f s0_0 bt340.2.1 bt340.2.2 8).bind fun bt343 => (if bt343.1 = 0 then (if 0 ≤ bt340.1 then (if bt340.1 ≤ (a1.size : Int) then (some (a1.extract 0 (bt340.1 : Int).toNat, bt343.2.1, bt343.2.2)) else (none)) else (none)) else (if bt343.1 = 1 then (if 0 ≤ bt340.1 then (if bt340.1 ≤ (a1.size : Int) then ((some (([(⟨#[48]⟩ : ByteArray), (⟨#[49]⟩ : ByteArray), (⟨#[32]⟩ : ByteArray), (⟨#[45]⟩ : ByteArray), (⟨#[46]⟩ : ByteArray), (⟨#[44]⟩ : ByteArray), (⟨#[10]⟩ : ByteArray), (⟨#[120]⟩ : ByteArray)] : List ByteArray) : List ByteArray)).bind fun y346 => ((spec_l01Next.f s0_0 bt343.2.1 bt343.2.2 8).bind fun bt349 => (if 0 ≤ bt349.1 then (if bt349.1 < (y346.length : Int) then (if (a1.extract 0 (bt340.1 : Int).toNat).size + (rdOf ByteArray.empty y346 bt349.1).size ≤ 9223372036854775807 then (if ((a1.extract 0 (bt340.1 : Int).toNat) ++ (rdOf ByteArray.empty y346 bt349.1)).size + (a1.extract (bt340.1 : Int).toNat a1.size).size ≤ 9223372036854775807 then (some (((a1.extract 0 (bt340.1 : Int).toNat) ++ (rdOf ByteArray.empty y346 bt349.1)) ++ (a1.extract (bt340.1 : Int).toNat a1.size), bt349.2.1, bt349.2.2)) else (none)) else (none)) else (none)) else (none)))) else (none)) else (none)) else (if bt343.1 = 2 then (if bt340.1 < (a1.size : Int) then (if 0 ≤ bt340.1 then (if bt340.1 ≤ (a1.size : Int) then (if 0 ≤ (wrap64 (bt340.1 + 1)) then (if (wrap64 (bt340.1 + 1)) ≤ (a1.size : Int) then (if (a1.extract 0 (bt340.1 : Int).toNat).size + (a1.extract ((wrap64 (bt340.1 + 1)) : Int).toNat a1.size).size ≤ 9223372036854775807 then (some ((a1.extract 0 (bt340.1 : Int).toNat) ++ (a1.extract ((wrap64 (bt340.1 + 1)) : Int).toNat a1.size), bt343.2.1, bt343.2.2)) else (none)) else (none)) else (none)) else (none)) else (none)) else (some (a1, bt343.2.1, bt343.2.2))) else (some (a1, bt343.2.1, bt343.2.2))))))
def spec_l01Damage.T6 : Bool × List (List Nat × List Nat) := (true, [([], []), ([], []), ([0, 1], [0, 1]), ([], []), ([], []), ([4], [4]), ([3, 5], [3, 5]), ([6], [6]), ([2, 7], [2, 7]), ([], []), ([], []), ([9, 10], [9, 10]), ([8, 11], [8, 11]), ([12, 5, 0, 1, 2, 3, 4, 5, 6, 7, 8, 9, 10, 11, 12], [12])])
def spec_l01Damage.B6 : List Nat := [0, 0, 3, 0, 0, 16, 56, 120, 255, 0, 0, 1536, 4095, 8191]
theorem spec_l01Damage.tab6 : rtab .any (opsOf Tryd.f159 6) = spec_l01Damage.T6 := by kernel_rfl
theorem spec_l01Damage.bits6 : waitsOk spec_l01Damage.T6.2 spec_l01Damage.B6 = true := by kernel_rfl
def spec_l01Damage.T9 : Bool × List (List Nat × List Nat) := (true, [([], []), ([], []), ([0, 1], [0, 1]), ([], []), ([], []), ([4], [4]), ([3, 5], [3, 5]), ([2, 6], [2, 6]), ([7, 0, 1, 2, 3, 4, 5, 6, 7], [7])])
def spec_l01Damage.B9 : List Nat := [0, 0, 3, 0, 0, 16, 56, 127, 255]
theorem spec_l01Damage.tab9 : rtab .any (opsOf Tryd.f159 9) = spec_l01Damage.T9 := by kernel_rfl
theorem spec_l01Damage.bits9 : waitsOk spec_l01Damage.T9.2 spec_l01Damage.B9 = true := by kernel_rfl
theorem ag14_ {p : Prop} (h : p) : Aside0 p := ⟨h⟩
abbrev s0g14_ : List ByteArray := ([(⟨#[48]⟩ : ByteArray), (⟨#[49]⟩ : ByteArray), (⟨#[32]⟩ : ByteArray), (⟨#[45]⟩ : ByteArray), (⟨#[46]⟩ : ByteArray), (⟨#[44]⟩ : ByteArray), (⟨#[10]⟩ : ByteArray), (⟨#[120]⟩ : ByteArray)] : List ByteArray)
theorem w1g14_ {p : Prop} (h : p := by repeat (first | (with_reducible first | exact HI0.out | apply IsS200.alloc | apply IsS200.drewN | apply IsS200.drew | apply IsS200.set_1 | apply IsS200.set_2) | exact HI0.out)) : p := h
theorem w2g14_ {p : Prop} (h : p := by repeat (first | (with_reducible first | exact HB.out | apply below_alloc | apply pw_below_drewN | apply below_drew1 | refine below_set ?_ (IsS200.ge HI0.out)) | exact HB.out)) : p := h
theorem w3g14_ {p : Prop} (h : p := by repeat (first | (with_reducible first | exact HK.out | apply KeepBut.set_ | apply keep_drewN | apply keep_drew | apply keep_alloc) | exact HK.out)) : p := h
theorem w4g14_ {p : Prop} (h : p := by (try simp only [List.map_toArray, List.map_cons, List.map_nil]); first | done | rfl | (simp only [List.length_drop, List.length_take]; rfl)) : p := h
theorem w5g14_ {p : Prop} (h : p := by first | rfl | (simp [errW_none, errW_some] <;> rfl) | (simp [*, errW_none, errW_some] <;> rfl)) : p := h
theorem w6g14_ {p : Prop} (h : p := by repeat (first | (with_reducible first | exact HB.out | apply below_alloc | apply pw_below_drewN | apply below_drew1) | exact HB.out)) : p := h
theorem w7g14_ {p : Prop} (h : p := by first | (with_reducible assumption) | assumption) : p := h
set_option maxHeartbeats 8000000 in
set_option maxRecDepth 100000 in
theorem spec_l01Damage.calls (g : Nat) (s0_0 : List Int) (s0_1 : Int) (s0_2 : Int) (a1 : ByteArray) (r1 : ByteArray) (r2 : Int) (r3 : Int) (w0 w : World) (hI : IsS200 w0 w g s0_0 s0_1 s0_2) (hB : Below w0.heap.size w0 w) (h : spec_l01Damage.f s0_0 s0_1 s0_2 a1 = some (r1, r2, r3)) :
 Calls Tryd.prog 159 #[.pointer (some ⟨g, 0, none⟩), .string a1] w fun e w' => e = .returned (.string r1) ∧ IsS200 w0 w' g s0_0 r2 r3 ∧ Below w0.heap.size w0 w' ∧ KeepBut w w' g none := by
 have HI0 := ag14_ hI; have HK := ag14_ (KeepBut.refl w g none); have HL := ag14_ hB.size; clear hI; have HW0 := ag14_ hB.size; have HB := ag14_ hB; clear hB; have H : ((spec_l01Next.f s0_0 s0_1 s0_2 (wrap64 ((a1.size : Int) + 1))).bind fun bt340 => ((spec_l01Next.f s0_0 bt340.2.1 bt340.2.2 8).bind fun bt343 => (if bt343.1 = 0 then (if 0 ≤ bt340.1 then (if bt340.1 ≤ (a1.size : Int) then (some (a1.extract 0 (bt340.1 : Int).toNat, bt343.2.1, bt343.2.2)) else (none)) else (none)) else (if bt343.1 = 1 then (if 0 ≤ bt340.1 then (if bt340.1 ≤ (a1.size : Int) then ((some (s0g14_ : List ByteArray)).bind fun y346 => ((spec_l01Next.f s0_0 bt343.2.1 bt343.2.2 8).bind fun bt349 => (if 0 ≤ bt349.1 then (if bt349.1 < (y346.length : Int) then (if (a1.extract 0 (bt340.1 : Int).toNat).size + (rdOf ByteArray.empty y346 bt349.1).size ≤ 9223372036854775807 then (if ((a1.extract 0 (bt340.1 : Int).toNat) ++ (rdOf ByteArray.empty y346 bt349.1)).size + (a1.extract (bt340.1 : Int).toNat a1.size).size ≤ 9223372036854775807 then (some (((a1.extract 0 (bt340.1 : Int).toNat) ++ (rdOf ByteArray.empty y346 bt349.1)) ++ (a1.extract (bt340.1 : Int).toNat a1.size), bt349.2.1, bt349.2.2)) else (none)) else (none)) else (none)) else (none)))) else (none)) else (none)) else (if bt343.1 = 2 then (if bt340.1 < (a1.size : Int) then (if 0 ≤ bt340.1 then (if bt340.1 ≤ (a1.size : Int) then (if 0 ≤ (wrap64 (bt340.1 + 1)) then (if (wrap64 (bt340.1 + 1)) ≤ (a1.size : Int) then (if (a1.extract 0 (bt340.1 : Int).toNat).size + (a1.extract ((wrap64 (bt340.1 + 1)) : Int).toNat a1.size).size ≤ 9223372036854775807 then (some ((a1.extract 0 (bt340.1 : Int).toNat) ++ (a1.extract ((wrap64 (bt340.1 + 1)) : Int).toNat a1.size), bt343.2.1, bt343.2.2)) else (none)) else (none)) else (none)) else (none)) else (none)) else (some (a1, bt343.2.1, bt343.2.2))) else (some (a1, bt343.2.1, bt343.2.2))))))) = some (r1, r2, r3) := h; clear h
 replace H := Option.bind_eq_some_iff.mp H
 obtain ⟨⟨t340, t341, t342⟩, A30, H⟩ := H
 try dsimp only at H
 have A3 := ag14_ A30; clear A30
 replace H := Option.bind_eq_some_iff.mp H
 obtain ⟨⟨t343, t344, t345⟩, A40, H⟩ := H
 try dsimp only at H
 have A4 := ag14_ A40; clear A40
 by_cases c5 : t343 = 0
 ·
  rw [if_pos c5] at H
  have c5b0 : (t343 == 0) = true := beq_iff_eq.mpr c5; have c5b1 : (t343 != 0) = false := bne_eq_false_iff_eq.mpr c5; clear c5
  by_cases c6 : 0 ≤ t340
  ·
   rw [if_pos c6] at H
   have c6b0 := eq_true c6; have c6b1 : decide (0 ≤ t340) = true := decide_eq_true c6; clear c6
   by_cases c7 : t340 ≤ (a1.size : Int)
   ·
    rw [if_pos c7] at H
    have c7b0 := eq_true c7; have c7b1 : decide (t340 ≤ (a1.size : Int)) = true := decide_eq_true c7; clear c7
    simp only [Option.some.injEq, Prod.mk.injEq] at H
    obtain ⟨rfl, rfl, rfl⟩ := H
    go_enter Tryd.func159, Tryd.ntmps159
    go_wp2_with (first | ((with_reducible refine gate_callee (f := 102) rfl ?_); refine goesL_ (some 10) rfl rfl Tryd.func102 (by kernel_rfl) rfl #[.pointer (some ⟨g, 0, none⟩), .int .i64 (wrap64 ((a1.size : Int) + 1))] rfl w4g14_ ?_; (with_reducible refine (spec_l01Next.calls g s0_0 s0_1 s0_2 (wrap64 ((a1.size : Int) + 1)) t340 t341 t342 w0 _ ?side1 ?side2 A3.out).mono ?_); (case side1 => exact w1g14_); (case side2 => exact w2g14_); rintro e w8 ⟨rfl, hi, hb, hk⟩; refine ⟨_, rfl, ?_⟩; replace HK := ag14_ (KeepBut.trans w3g14_ hk (.inl rfl)); replace HB := ag14_ (hb); replace HI0 := ag14_ (hi); clear hb hk hi) | ((with_reducible refine gate_callee (f := 102) rfl ?_); refine goesL_ (some 12) rfl rfl Tryd.func102 (by kernel_rfl) rfl #[.pointer (some ⟨g, 0, none⟩), .int .i64 8] rfl w4g14_ ?_; (with_reducible refine (spec_l01Next.calls g s0_0 t341 t342 8 t343 t344 t345 w0 _ ?side1 ?side2 A4.out).mono ?_); (case side1 => exact w1g14_); (case side2 => exact w2g14_); rintro e w9 ⟨rfl, hi, hb, hk⟩; refine ⟨_, rfl, ?_⟩; replace HK := ag14_ (KeepBut.trans w3g14_ hk (.inl rfl)); replace HB := ag14_ (hb); replace HI0 := ag14_ (hi); clear hb hk hi))
    go_ret
    exact ⟨w5g14_, w1g14_, w2g14_, w3g14_⟩
   ·
    rw [if_neg c7] at H
    exact absurd H (by simp)
  ·
   rw [if_neg c6] at H
   exact absurd H (by simp)
 ·
  rw [if_neg c5] at H
  have c5b0 : (t343 == 0) = false := beq_eq_false_iff_ne.mpr c5; have c5b1 : (t343 != 0) = true := bne_iff_ne.mpr c5
  by_cases c10 : t343 = 1
  ·
   rw [if_pos c10] at H
   have c10b0 : (t343 == 1) = true := beq_iff_eq.mpr c10; have c10b1 : (t343 != 1) = false := bne_eq_false_iff_eq.mpr c10; clear c10
   by_cases c11 : 0 ≤ t340
   ·
    rw [if_pos c11] at H
    have c11b0 := eq_true c11; have c11b1 : decide (0 ≤ t340) = true := decide_eq_true c11; clear c11
    by_cases c12 : t340 ≤ (a1.size : Int)
    ·
     rw [if_pos c12] at H
     have c12b0 := eq_true c12; have c12b1 : decide (t340 ≤ (a1.size : Int)) = true := decide_eq_true c12; clear c12; obtain ⟨y346, hy346⟩ : ∃ y_ : List ByteArray, y_ = (s0g14_) := ⟨_, rfl⟩
     replace H : ((spec_l01Next.f s0_0 t344 t345 8).bind fun bt349 => (if 0 ≤ bt349.1 then (if bt349.1 < (y346.length : Int) then (if (a1.extract 0 (t340 : Int).toNat).size + (rdOf ByteArray.empty y346 bt349.1).size ≤ 9223372036854775807 then (if ((a1.extract 0 (t340 : Int).toNat) ++ (rdOf ByteArray.empty y346 bt349.1)).size + (a1.extract (t340 : Int).toNat a1.size).size ≤ 9223372036854775807 then (some (((a1.extract 0 (t340 : Int).toNat) ++ (rdOf ByteArray.empty y346 bt349.1)) ++ (a1.extract (t340 : Int).toNat a1.size), bt349.2.1, bt349.2.2)) else (none)) else (none)) else (none)) else (none))) = some (r1, r2, r3) := by first | (rw [hy346]; with_reducible exact H) | (have H2_ := (Option.bind_some _ _).symm.trans H; rw [hy346]; with_reducible exact H2_) | (have H2_ := (Option.bind_some _ _).symm.trans H; with_reducible exact H2_) | with_reducible exact H | (rw [hy346]; exact H) | exact H
     have Ny346 := ag14_ hy346; clear hy346
     replace H := Option.bind_eq_some_iff.mp H
     obtain ⟨⟨t349, t350, t351⟩, A130, H⟩ := H
     try dsimp only at H
     have A13 := ag14_ A130; clear A130
     by_cases c14 : 0 ≤ t349
     ·
      rw [if_pos c14] at H
      have c14b0 : decide (0 ≤ t349) = true := decide_eq_true c14; clear c14
      by_cases c15 : t349 < (y346.length : Int)
      ·
       rw [if_pos c15] at H
       have c15b0 : decide (t349 < (y346.length : Int)) = true := decide_eq_true c15; clear c15
       by_cases c16 : (a1.extract 0 (t340 : Int).toNat).size + (rdOf ByteArray.empty y346 t349).size ≤ 9223372036854775807
       ·
        rw [if_pos c16] at H
        have c16x : (t340).toNat + (rdOf ByteArray.empty y346 t349).size ≤ 9223372036854775807 := by have h_ := c16; simp only [ByteArray.size_append, ByteArray.size_extract] at h_; (try have q0_ := of_decide_eq_true (show decide (0 ≤ t340) = true by assumption)); (try have p0_ := of_decide_eq_true (show decide (t340 ≤ (a1.size : Int)) = true by assumption)); omega
        have c16x0 := eq_true c16x; have c16x1 : (9223372036854775807 < (t340).toNat + (rdOf ByteArray.empty y346 t349).size) = False := eq_false (by omega); have c16x2 : decide ((t340).toNat + (rdOf ByteArray.empty y346 t349).size ≤ 9223372036854775807) = true := decide_eq_true c16x; have c16b0 := eq_true c16; have c16b1 : decide ((a1.extract 0 (t340 : Int).toNat).size + (rdOf ByteArray.empty y346 t349).size ≤ 9223372036854775807) = true := decide_eq_true c16
        try have c16b2 : (9223372036854775807 < (a1.extract 0 (t340 : Int).toNat).size + (rdOf ByteArray.empty y346 t349).size) = False := eq_false (Nat.not_lt.2 c16)
        have c17b0 := eq_true (of_decide_eq_true w7g14_ : 0 ≤ t340)
        have c18b0 := eq_true (of_decide_eq_true w7g14_ : t340 ≤ (a1.size : Int))
        by_cases c19 : ((a1.extract 0 (t340 : Int).toNat) ++ (rdOf ByteArray.empty y346 t349)).size + (a1.extract (t340 : Int).toNat a1.size).size ≤ 9223372036854775807
        ·
         rw [if_pos c19] at H
         have c19x : (t340).toNat + (rdOf ByteArray.empty y346 t349).size + (a1.size - (t340).toNat) ≤ 9223372036854775807 := by have h_ := c19; simp only [ByteArray.size_append, ByteArray.size_extract] at h_; (try have q0_ := of_decide_eq_true (show decide (0 ≤ t340) = true by assumption)); (try have p0_ := of_decide_eq_true (show decide (t340 ≤ (a1.size : Int)) = true by assumption)); omega
         have c19x0 := eq_true c19x; have c19x1 : (9223372036854775807 < (t340).toNat + (rdOf ByteArray.empty y346 t349).size + (a1.size - (t340).toNat)) = False := eq_false (by omega); have c19x2 : decide ((t340).toNat + (rdOf ByteArray.empty y346 t349).size + (a1.size - (t340).toNat) ≤ 9223372036854775807) = true := decide_eq_true c19x; have c19b0 := eq_true c19; have c19b1 : decide (((a1.extract 0 (t340 : Int).toNat) ++ (rdOf ByteArray.empty y346 t349)).size + (a1.extract (t340 : Int).toNat a1.size).size ≤ 9223372036854775807) = true := decide_eq_true c19
         try have c19b1s := c19b1
         try simp only [ByteArray.size_append] at c19b1s
         try have c19b2 : (9223372036854775807 < ((a1.extract 0 (t340 : Int).toNat) ++ (rdOf ByteArray.empty y346 t349)).size + (a1.extract (t340 : Int).toNat a1.size).size) = False := eq_false (Nat.not_lt.2 c19)
         try have c19b2s := c19b2
         try simp only [ByteArray.size_append] at c19b2s
         simp only [Option.some.injEq, Prod.mk.injEq] at H
         obtain ⟨rfl, rfl, rfl⟩ := H
         go_enter Tryd.func159, Tryd.ntmps159
         try go_wp2_with (first | ((with_reducible refine gate_callee (f := 102) rfl ?_); refine goesL_ (some 10) rfl rfl Tryd.func102 (by kernel_rfl) rfl #[.pointer (some ⟨g, 0, none⟩), .int .i64 (wrap64 ((a1.size : Int) + 1))] rfl w4g14_ ?_; (with_reducible refine (spec_l01Next.calls g s0_0 s0_1 s0_2 (wrap64 ((a1.size : Int) + 1)) t340 t341 t342 w0 _ ?side1 ?side2 A3.out).mono ?_); (case side1 => exact w1g14_); (case side2 => exact w2g14_); rintro e w20 ⟨rfl, hi, hb, hk⟩; refine ⟨_, rfl, ?_⟩; replace HK := ag14_ (KeepBut.trans w3g14_ hk (.inl rfl)); replace HB := ag14_ (hb); replace HI0 := ag14_ (hi); clear hb hk hi) | ((with_reducible refine gate_callee (f := 102) rfl ?_); refine goesL_ (some 12) rfl rfl Tryd.func102 (by kernel_rfl) rfl #[.pointer (some ⟨g, 0, none⟩), .int .i64 8] rfl w4g14_ ?_; (with_reducible refine (spec_l01Next.calls g s0_0 t341 t342 8 t343 t344 t345 w0 _ ?side1 ?side2 A4.out).mono ?_); (case side1 => exact w1g14_); (case side2 => exact w2g14_); rintro e w21 ⟨rfl, hi, hb, hk⟩; refine ⟨_, rfl, ?_⟩; replace HK := ag14_ (KeepBut.trans w3g14_ hk (.inl rfl)); replace HB := ag14_ (hb); replace HI0 := ag14_ (hi); clear hb hk hi))
         have pi352 : (0 ≤ (t349 : Int)) = True := eq_true (of_decide_eq_true w7g14_)
         have qi352 : (t349 < (y346.length : Int)) = True := eq_true (of_decide_eq_true w7g14_)
         have n0_ := ag14_ (IsS200.drew HI0.out); have n1_ := ag14_ (keep_drew HK.out); have n2_ := ag14_ (below_drew1 HB.out); clear HI0 HK HB; have HI0 := n0_; have HK := n1_; have HB := n2_; clear n0_ n1_ n2_
         refine start_ (n := 14) (S := fun w' => True) (ds := []) #[false, false, false, false, false, false, false, false, false, false, false, false, false, false] (by kernel_rfl) rfl rfl trivial (fun hHeld => ?_); refine with_tabW spec_l01Damage.tab6 spec_l01Damage.bits6 (fun HT_ HW_ => ?_)
         generalize w21.drew = w22 at HI0 HK HB hHeld ⊢
         refine pd_ (i := 0) (N := some 20) #[true, false, false, false, false, false, false, false, false, false, false, false, false, false] rfl rfl ?_
         refine pd_ (i := 1) (N := some 21) #[true, true, false, false, false, false, false, false, false, false, false, false, false, false] rfl rfl ?_
         refine pd_ (i := 4) (N := some 24) #[true, true, false, false, true, false, false, false, false, false, false, false, false, false] rfl rfl ?_
         refine pd_ (i := 9) (N := some 29) #[true, true, false, false, true, false, false, false, false, true, false, false, false, false] rfl rfl ?_
         refine pd_ (i := 10) (N := some 30) #[true, true, false, false, true, false, false, false, false, true, true, false, false, false] rfl rfl ?_
         refine inv_at [2, 3, 5, 6, 7, 8, 11, 12, 13] (fun a0_ b a w' => ∃ (v347 : Value) (adz_v347 : Addr) (m6_ : Value), a = putSel a0_ b [(2, 22, .string (a1.extract 0 (t340 : Int).toNat)), (3, 23, v347), (5, 25, .int .i64 t349), (6, 26, m6_), (7, 27, .string (rdOf ByteArray.empty y346 t349)), (8, 28, .string ((a1.extract 0 (t340 : Int).toNat) ++ (rdOf ByteArray.empty y346 t349))), (11, 31, .string (a1.extract (t340 : Int).toNat a1.size)), (12, 32, .string (((a1.extract 0 (t340 : Int).toNat) ++ (rdOf ByteArray.empty y346 t349)) ++ (a1.extract (t340 : Int).toNat a1.size))), (13, 4, .string (((a1.extract 0 (t340 : Int).toNat) ++ (rdOf ByteArray.empty y346 t349)) ++ (a1.extract (t340 : Int).toNat a1.size)))] ∧ (b 5 = false → IsS200 w0 w' g s0_0 t344 t345) ∧ (KeepBut w w' g none) ∧ (Below w0.heap.size w0 w') ∧ (b 3 = true → Kd.R Kd.string 9 w' w.heap.size (fun _ => True) v347 y346) ∧ (b 3 = true → ∃ c_, (v347 : Value) = .slice (some adz_v347) y346.length c_) ∧ (b 5 = true → IsS200 w0 w' g s0_0 t350 t351) ∧ (b 6 = true → (m6_ : Value) = .pointer (some (adz_v347.add (t349).toNat)))) HT_.out HW_.out (by kernel_rfl) (by kernel_rfl) ?_ ?_ ?_
         ·
          exact ⟨.bool false, ⟨0, 0, none⟩, .bool false, by simp only [putSel, Bool.false_eq_true, if_false], fun _ => HI0.out, HK.out, HB.out, fun h_ => absurd h_ (by decide), fun h_ => absurd h_ (by decide), fun h_ => absurd h_ (by decide), fun h_ => absurd h_ (by decide)⟩
         ·
          clear HB HI0 HK
          refine steps_cons ?_ ?_
          ·
           rintro b a w' ⟨v347, adz_v347, m6_, ha, Q_HI0, Q_HK, Q_HB, Q_HO348, Q_HA_HO348, Q_HI0_e5, Q_X6_⟩ hb_ hon hoff
           refine ⟨_, rfl, fun K hK => ?_⟩
           have e20 : a.tmps[20]? = some (.string a1) := by rw [ha]; exact (putSel_off rfl).trans rfl
           have e21 : a.tmps[21]? = some (.int .i64 t340) := by rw [ha]; exact (putSel_off rfl).trans rfl
           replace ha := ag14_ ha
           have HK := ag14_ Q_HK; have HB := ag14_ Q_HB
           refine value_ (w1 := w') (v := .string (a1.extract 0 (t340 : Int).toNat)) (by rfl) rfl ?_ ?_
           ·
            go_simp
            (try simp only [i64_w])
            try rfl
           refine hK.out _ _ ⟨v347, adz_v347, m6_, (by rw [ha.out]; exact putSel_upk 0 hb_ rfl rfl rfl), Q_HI0, Q_HK, Q_HB, Q_HO348, Q_HA_HO348, Q_HI0_e5, Q_X6_⟩
          refine steps_cons ?_ ?_
          ·
           rintro b a w' ⟨v347, adz_v347, m6_, ha, Q_HI0, Q_HK, Q_HB, Q_HO348, Q_HA_HO348, Q_HI0_e5, Q_X6_⟩ hb_ hon hoff
           refine ⟨_, rfl, fun K hK => ?_⟩
           replace ha := ag14_ ha
           have HK := ag14_ Q_HK; have HB := ag14_ Q_HB
           refine Kd.R_lit_step Kd.string _ 9 ?hg (N := 23) ?hd (xs := s0g14_) (inner := [.string (⟨#[48]⟩ : ByteArray), .string (⟨#[49]⟩ : ByteArray), .string (⟨#[32]⟩ : ByteArray), .string (⟨#[45]⟩ : ByteArray), .string (⟨#[46]⟩ : ByteArray), .string (⟨#[44]⟩ : ByteArray), .string (⟨#[10]⟩ : ByteArray), .string (⟨#[120]⟩ : ByteArray)]) (ok := fun _ => True) (okp := fun _ => True) ?hr ?hp (fun _ hk => hk) trivial (Below.refl _ _) (Nat.le_refl _) (by simp) ?_; (case hd => rfl); (case hg => rfl); (case hr => first | (go_simp; done) | (go_simp; rfl)); (case hp => exact (by exact (Reps.one (show Kd.M Kd.string _ _ _ (⟨#[48]⟩ : ByteArray) [.string (⟨#[48]⟩ : ByteArray)] from rfl) (Reps.one (show Kd.M Kd.string _ _ _ (⟨#[49]⟩ : ByteArray) [.string (⟨#[49]⟩ : ByteArray)] from rfl) (Reps.one (show Kd.M Kd.string _ _ _ (⟨#[32]⟩ : ByteArray) [.string (⟨#[32]⟩ : ByteArray)] from rfl) (Reps.one (show Kd.M Kd.string _ _ _ (⟨#[45]⟩ : ByteArray) [.string (⟨#[45]⟩ : ByteArray)] from rfl) (Reps.one (show Kd.M Kd.string _ _ _ (⟨#[46]⟩ : ByteArray) [.string (⟨#[46]⟩ : ByteArray)] from rfl) (Reps.one (show Kd.M Kd.string _ _ _ (⟨#[44]⟩ : ByteArray) [.string (⟨#[44]⟩ : ByteArray)] from rfl) (Reps.one (show Kd.M Kd.string _ _ _ (⟨#[10]⟩ : ByteArray) [.string (⟨#[10]⟩ : ByteArray)] from rfl) (Reps.one (show Kd.M Kd.string _ _ _ (⟨#[120]⟩ : ByteArray) [.string (⟨#[120]⟩ : ByteArray)] from rfl) (Reps.none _ _)))))))))))
           intro v347 w23 ho24 hb hg_ hnew_; clear hg_ hnew_
           (first | rw [← Ny346.out] at ho24 | (simp only [Int.reduceToNat] at ho24; rw [← Ny346.out] at ho24))
           have n0_ := ag14_ (Kd.R_lower ho24 (keep_size (w := w) (g := g) (row := none) w3g14_))
           have n2_ := ag14_ (KeepBut.trans w3g14_ (KeepBut.of_below hb g none) (.inl rfl))
           have n3_ := ag14_ (below_step w6g14_ hb)
           have z_HI0 := fun (h0_ : b 5 = false) => (show IsS200 w0 w23 g s0_0 t344 t345 from (by first | exact (IsS200.below (by repeat (first | (with_reducible first | exact (Q_HI0 h0_) | apply IsS200.alloc | apply IsS200.drewN | apply IsS200.drew | apply IsS200.set_1 | apply IsS200.set_2) | exact (Q_HI0 h0_))) hb)))
           have z_HI0_e5 := fun (h0_ : b 5 = true) => (show IsS200 w0 w23 g s0_0 t350 t351 from (by first | exact (IsS200.below (by repeat (first | (with_reducible first | exact (Q_HI0_e5 h0_) | apply IsS200.alloc | apply IsS200.drewN | apply IsS200.drew | apply IsS200.set_1 | apply IsS200.set_2) | exact (Q_HI0_e5 h0_))) hb)))
           clear HK HB; have HO348 := n0_; have HK := n2_; have HB := n3_; clear n0_ n2_ n3_ hb ho24; obtain ⟨Ao25, co25, eo25⟩ := Kd.R_slice HO348.out; subst eo25; obtain ⟨ado25, fo25, _⟩ := Kd.at_string (Kd.R_reads' HO348.out).2.2 0 (by decide) (by rw [Ny346.out]; simp)
           cases fo25
           refine hK.out _ _ ⟨.slice (some ado25) y346.length co25, ado25, m6_, (by rw [ha.out]; exact putSel_upk 1 hb_ rfl rfl rfl), z_HI0, w3g14_, w6g14_, fun _ => (by (with_reducible repeat (first | apply Kd.R_alloc | apply Kd.R_drewN | apply Kd.R_drew)); exact HO348.out), fun _ => ⟨_, rfl⟩, z_HI0_e5, fun h0_ => absurd ((hoff 6 (by kernel_rfl)).symm.trans h0_) (by decide)⟩
          refine steps_cons ?_ ?_
          ·
           rintro b a w' ⟨v347, adz_v347, m6_, ha, Q_HI0, Q_HK, Q_HB, Q_HO348, Q_HA_HO348, Q_HI0_e5, Q_X6_⟩ hb_ hon hoff
           refine ⟨_, rfl, fun K hK => ?_⟩
           have e24 : a.tmps[24]? = some (.pointer (some ⟨g, 0, none⟩)) := by rw [ha]; exact (putSel_off rfl).trans rfl
           replace ha := ag14_ ha
           have HI0 := ag14_ (Q_HI0 hb_); have HK := ag14_ Q_HK; have HB := ag14_ Q_HB
           refine goes_ Tryd.func102 (by kernel_rfl) rfl #[.pointer (some ⟨g, 0, none⟩), .int .i64 8] (by rfl) rfl rfl (by first | (simp only [List.map_toArray, List.map_cons, List.map_nil, Act.eval, Array.getD_eq_getD_getElem?, Option.getD_some, e24]; done) | (simp only [List.map_toArray, List.map_cons, List.map_nil, Act.eval, Array.getD_eq_getD_getElem?, Option.getD_some, e24]; rfl)) ?_
           with_reducible refine (spec_l01Next.calls g s0_0 t344 t345 8 t349 t350 t351 w0 _ ?side1 ?side2 A13.out).mono ?_
           (case side1 => exact w1g14_)
           (case side2 => exact w2g14_)
           rintro e w23 ⟨rfl, hi, hb, hk⟩
           refine ⟨_, rfl, ?_⟩
           have n0_ := ag14_ (KeepBut.trans w3g14_ hk (.inl rfl))
           have n1_ := ag14_ (hb); have n2_ := ag14_ (hi)
           have z_HO348 := fun (h0_ : b 3 = true) => (show Kd.R Kd.string 9 w23 w.heap.size (fun _ => True) v347 y346 from (by first | exact (Kd.R_mono (Kd.R_keep (IsS200.apart (show IsS200 w0 _ g s0_0 t344 t345 from w1g14_) (by (with_reducible repeat (first | apply Kd.R_alloc | apply Kd.R_drewN | apply Kd.R_drew)); exact (Q_HO348 h0_)) (by decide)) hk (fun _ h => h.2)) (fun _ h => h.1)) | exact Kd.R_mono (Kd.R_mono (Kd.R_keep (IsS200.apart (show IsS200 w0 _ g s0_0 t344 t345 from w1g14_) (by (with_reducible repeat (first | apply Kd.R_alloc | apply Kd.R_drewN | apply Kd.R_drew)); exact (Q_HO348 h0_)) (by decide)) hk (fun _ h => h.2)) (fun _ h => h.1)) (fun _ h_ => by first | trivial | exact h_ | exact h_.1)))
           clear HK HB HI0; have HK := n0_; have HB := n1_; have HI0 := n2_; clear n0_ n1_ n2_
           (try clear hb)
           (try clear hb2)
           (try clear hk)
           (try clear hi)
           refine hK.out _ _ ⟨v347, adz_v347, m6_, (by rw [ha.out]; exact putSel_upk 2 hb_ rfl rfl rfl), fun h0_ => absurd ((up_self b 5).symm.trans h0_) (by decide), w3g14_, w2g14_, z_HO348, Q_HA_HO348, fun _ => w1g14_, fun h0_ => absurd ((hoff 6 (by kernel_rfl)).symm.trans h0_) (by decide)⟩
          refine steps_cons ?_ ?_
          ·
           rintro b a w' ⟨v347, adz_v347, m6_, ha, Q_HI0, Q_HK, Q_HB, Q_HO348, Q_HA_HO348, Q_HI0_e5, Q_X6_⟩ hb_ hon hoff
           refine ⟨_, rfl, fun K hK => ?_⟩
           have e23 : a.tmps[23]? = some (v347) := by rw [ha]; exact putSel_on (e := (3, 23, v347)) 1 rfl rfl (hon 3 (by kernel_rfl)) rfl
           have e25 : a.tmps[25]? = some (.int .i64 t349) := by rw [ha]; exact putSel_on (e := (5, 25, .int .i64 t349)) 2 rfl rfl (hon 5 (by kernel_rfl)) rfl
           replace ha := ag14_ ha
           have HK := ag14_ Q_HK; have HB := ag14_ Q_HB; have HO348 := ag14_ (Q_HO348 (hon 3 (by kernel_rfl))); have HA_HO348 := ag14_ (Q_HA_HO348 (hon 3 (by kernel_rfl))); have HI0 := ag14_ (Q_HI0_e5 (hon 5 (by kernel_rfl))); obtain ⟨c_, hv_⟩ := HA_HO348.out
           rw [hv_] at e23
           refine value_ (w1 := w') (v := .pointer (some (adz_v347.add (t349).toNat))) (by rfl) rfl ?_ ?_
           ·
            go_simp
            (try simp only [i64_w])
            try rfl
           refine hK.out _ _ ⟨v347, adz_v347, (.pointer (some (adz_v347.add (t349).toNat))), (by rw [ha.out]; exact putSel_upk 3 hb_ rfl rfl rfl), fun h0_ => absurd ((hon 5 (by kernel_rfl)).symm.trans h0_) (by decide), Q_HK, Q_HB, Q_HO348, Q_HA_HO348, Q_HI0_e5, fun _ => rfl⟩
          refine steps_cons ?_ ?_
          ·
           rintro b a w' ⟨v347, adz_v347, m6_, ha, Q_HI0, Q_HK, Q_HB, Q_HO348, Q_HA_HO348, Q_HI0_e5, Q_X6_⟩ hb_ hon hoff
           refine ⟨_, rfl, fun K hK => ?_⟩
           have e26 : a.tmps[26]? = some (m6_) := by rw [ha]; exact putSel_on (e := (6, 26, m6_)) 3 rfl rfl (hon 6 (by kernel_rfl)) rfl
           rw [Q_X6_ (hon 6 (by kernel_rfl))] at e26
           replace ha := ag14_ ha
           have HK := ag14_ Q_HK; have HB := ag14_ Q_HB; have HO348 := ag14_ (Q_HO348 (hon 3 (by kernel_rfl))); have HA_HO348 := ag14_ (Q_HA_HO348 (hon 3 (by kernel_rfl))); have HI0 := ag14_ (Q_HI0_e5 (hon 5 (by kernel_rfl))); obtain ⟨c_, hv_⟩ := HA_HO348.out; have hF_ := HO348.out
           rw [hv_] at hF_
           obtain ⟨ad_, ea_, hx_⟩ := Kd.at_string (Kd.R_reads' hF_).2.2 t349 (of_eq_true pi352) (of_eq_true qi352)
           cases ea_
           refine value_ (w1 := w') (v := .string (rdOf ByteArray.empty y346 t349)) (by rfl) rfl ?_ ?_
           ·
            go_simp
            (try simp only [i64_w])
            try rfl
           refine hK.out _ _ ⟨v347, adz_v347, m6_, (by rw [ha.out]; exact putSel_upk 4 hb_ rfl rfl rfl), fun h0_ => absurd ((hon 5 (by kernel_rfl)).symm.trans h0_) (by decide), Q_HK, Q_HB, Q_HO348, Q_HA_HO348, Q_HI0_e5, Q_X6_⟩
          refine steps_cons ?_ ?_
          ·
           rintro b a w' ⟨v347, adz_v347, m6_, ha, Q_HI0, Q_HK, Q_HB, Q_HO348, Q_HA_HO348, Q_HI0_e5, Q_X6_⟩ hb_ hon hoff
           refine ⟨_, rfl, fun K hK => ?_⟩
           have e22 : a.tmps[22]? = some (.string (a1.extract 0 (t340 : Int).toNat)) := by rw [ha]; exact putSel_on (e := (2, 22, .string (a1.extract 0 (t340 : Int).toNat))) 0 rfl rfl (hon 2 (by kernel_rfl)) rfl
           have e27 : a.tmps[27]? = some (.string (rdOf ByteArray.empty y346 t349)) := by rw [ha]; exact putSel_on (e := (7, 27, .string (rdOf ByteArray.empty y346 t349))) 4 rfl rfl (hon 7 (by kernel_rfl)) rfl
           replace ha := ag14_ ha
           have HK := ag14_ Q_HK; have HB := ag14_ Q_HB; have HO348 := ag14_ (Q_HO348 (hon 3 (by kernel_rfl))); have HA_HO348 := ag14_ (Q_HA_HO348 (hon 3 (by kernel_rfl))); have HI0 := ag14_ (Q_HI0_e5 (hon 5 (by kernel_rfl)))
           refine value_ (w1 := w') (v := .string ((a1.extract 0 (t340 : Int).toNat) ++ (rdOf ByteArray.empty y346 t349))) (by rfl) rfl ?_ ?_
           ·
            go_simp
            (try simp only [i64_w])
            try rfl
           refine hK.out _ _ ⟨v347, adz_v347, m6_, (by rw [ha.out]; exact putSel_upk 5 hb_ rfl rfl rfl), fun h0_ => absurd ((hon 5 (by kernel_rfl)).symm.trans h0_) (by decide), Q_HK, Q_HB, Q_HO348, Q_HA_HO348, Q_HI0_e5, Q_X6_⟩
          refine steps_cons ?_ ?_
          ·
           rintro b a w' ⟨v347, adz_v347, m6_, ha, Q_HI0, Q_HK, Q_HB, Q_HO348, Q_HA_HO348, Q_HI0_e5, Q_X6_⟩ hb_ hon hoff
           refine ⟨_, rfl, fun K hK => ?_⟩
           have e29 : a.tmps[29]? = some (.string a1) := by rw [ha]; exact (putSel_off rfl).trans rfl
           have e30 : a.tmps[30]? = some (.int .i64 t340) := by rw [ha]; exact (putSel_off rfl).trans rfl
           replace ha := ag14_ ha
           have HK := ag14_ Q_HK; have HB := ag14_ Q_HB
           refine value_ (w1 := w') (v := .string (a1.extract (t340 : Int).toNat a1.size)) (by rfl) rfl ?_ ?_
           ·
            go_simp
            (try simp only [i64_w])
            try rfl
           refine hK.out _ _ ⟨v347, adz_v347, m6_, (by rw [ha.out]; exact putSel_upk 6 hb_ rfl rfl rfl), Q_HI0, Q_HK, Q_HB, Q_HO348, Q_HA_HO348, Q_HI0_e5, Q_X6_⟩
          refine steps_cons ?_ ?_
          ·
           rintro b a w' ⟨v347, adz_v347, m6_, ha, Q_HI0, Q_HK, Q_HB, Q_HO348, Q_HA_HO348, Q_HI0_e5, Q_X6_⟩ hb_ hon hoff
           refine ⟨_, rfl, fun K hK => ?_⟩
           have e28 : a.tmps[28]? = some (.string ((a1.extract 0 (t340 : Int).toNat) ++ (rdOf ByteArray.empty y346 t349))) := by rw [ha]; exact putSel_on (e := (8, 28, .string ((a1.extract 0 (t340 : Int).toNat) ++ (rdOf ByteArray.empty y346 t349)))) 5 rfl rfl (hon 8 (by kernel_rfl)) rfl
           have e31 : a.tmps[31]? = some (.string (a1.extract (t340 : Int).toNat a1.size)) := by rw [ha]; exact putSel_on (e := (11, 31, .string (a1.extract (t340 : Int).toNat a1.size))) 6 rfl rfl (hon 11 (by kernel_rfl)) rfl
           replace ha := ag14_ ha
           have HK := ag14_ Q_HK; have HB := ag14_ Q_HB; have HO348 := ag14_ (Q_HO348 (hon 3 (by kernel_rfl))); have HA_HO348 := ag14_ (Q_HA_HO348 (hon 3 (by kernel_rfl))); have HI0 := ag14_ (Q_HI0_e5 (hon 5 (by kernel_rfl)))
           refine value_ (w1 := w') (v := .string (((a1.extract 0 (t340 : Int).toNat) ++ (rdOf ByteArray.empty y346 t349)) ++ (a1.extract (t340 : Int).toNat a1.size))) (by rfl) rfl ?_ ?_
           ·
            go_simp
            (try simp only [i64_w])
            try rfl
           refine hK.out _ _ ⟨v347, adz_v347, m6_, (by rw [ha.out]; exact putSel_upk 7 hb_ rfl rfl rfl), fun h0_ => absurd ((hon 5 (by kernel_rfl)).symm.trans h0_) (by decide), Q_HK, Q_HB, Q_HO348, Q_HA_HO348, Q_HI0_e5, Q_X6_⟩
          refine steps_cons ?_ ?_
          ·
           rintro b a w' ⟨v347, adz_v347, m6_, ha, Q_HI0, Q_HK, Q_HB, Q_HO348, Q_HA_HO348, Q_HI0_e5, Q_X6_⟩ hb_ hon hoff
           refine ⟨_, rfl, fun K hK => ?_⟩
           have e32 : a.tmps[32]? = some (.string (((a1.extract 0 (t340 : Int).toNat) ++ (rdOf ByteArray.empty y346 t349)) ++ (a1.extract (t340 : Int).toNat a1.size))) := by rw [ha]; exact putSel_on (e := (12, 32, .string (((a1.extract 0 (t340 : Int).toNat) ++ (rdOf ByteArray.empty y346 t349)) ++ (a1.extract (t340 : Int).toNat a1.size)))) 7 rfl rfl (hon 12 (by kernel_rfl)) rfl
           replace ha := ag14_ ha
           have HK := ag14_ Q_HK; have HB := ag14_ Q_HB; have HO348 := ag14_ (Q_HO348 (hon 3 (by kernel_rfl))); have HA_HO348 := ag14_ (Q_HA_HO348 (hon 3 (by kernel_rfl))); have HI0 := ag14_ (Q_HI0_e5 (hon 5 (by kernel_rfl)))
           refine value_ (w1 := w') (v := .string (((a1.extract 0 (t340 : Int).toNat) ++ (rdOf ByteArray.empty y346 t349)) ++ (a1.extract (t340 : Int).toNat a1.size))) (by rfl) rfl ?_ ?_
           ·
            go_simp
            (try simp only [i64_w])
            try rfl
           refine hK.out _ _ ⟨v347, adz_v347, m6_, (by rw [ha.out]; exact putSel_upk 8 hb_ rfl rfl rfl), fun h0_ => absurd ((hon 5 (by kernel_rfl)).symm.trans h0_) (by decide), Q_HK, Q_HB, Q_HO348, Q_HA_HO348, Q_HI0_e5, Q_X6_⟩
          exact steps_nil
         rintro b a w27 hall ⟨v347, adz_v347, m6_, ha, Q_HI0, Q_HK, Q_HB, Q_HO348, Q_HA_HO348, Q_HI0_e5, Q_X6_⟩; clear HB HI0 HK; have hb2_ := hall 2 (by kernel_rfl); have hb3_ := hall 3 (by kernel_rfl); have hb5_ := hall 5 (by kernel_rfl); have hb6_ := hall 6 (by kernel_rfl); have hb7_ := hall 7 (by kernel_rfl); have hb8_ := hall 8 (by kernel_rfl); have hb11_ := hall 11 (by kernel_rfl); have hb12_ := hall 12 (by kernel_rfl); have hb13_ := hall 13 (by kernel_rfl); subst ha; obtain rfl := Q_X6_ hb6_
         simp only [putSel, hb2_, hb3_, hb5_, hb6_, hb7_, hb8_, hb11_, hb12_, hb13_, if_true, Act.put, List.setIfInBounds_toArray, List.set_cons_zero, List.set_cons_succ]
         clear Q_HI0; have HK := ag14_ Q_HK; clear Q_HK; have HB := ag14_ Q_HB; clear Q_HB; have HO348 := ag14_ (Q_HO348 hb3_); clear Q_HO348; have HA_HO348 := ag14_ (Q_HA_HO348 hb3_); clear Q_HA_HO348; have HI0 := ag14_ (Q_HI0_e5 hb5_); clear Q_HI0_e5 hall hb2_ hb3_ hb5_ hb6_ hb7_ hb8_ hb11_ hb12_ hb13_; obtain ⟨co28, eo28⟩ := HA_HO348.out; clear HA_HO348; subst eo28
         try go_wp2
         go_ret
         exact ⟨w5g14_, w1g14_, w2g14_, w3g14_⟩
        ·
         rw [if_neg c19] at H
         exact absurd H (by simp)
       ·
        rw [if_neg c16] at H
        exact absurd H (by simp)
      ·
       rw [if_neg c15] at H
       exact absurd H (by simp)
     ·
      rw [if_neg c14] at H
      exact absurd H (by simp)
    ·
     rw [if_neg c12] at H
     exact absurd H (by simp)
   ·
    rw [if_neg c11] at H
    exact absurd H (by simp)
  ·
   rw [if_neg c10] at H
   have c10b0 : (t343 == 1) = false := beq_eq_false_iff_ne.mpr c10; have c10b1 : (t343 != 1) = true := bne_iff_ne.mpr c10
   by_cases c29 : t343 = 2
   ·
    rw [if_pos c29] at H
    have c29b0 : (t343 == 2) = true := beq_iff_eq.mpr c29; have c29b1 : (t343 != 2) = false := bne_eq_false_iff_eq.mpr c29; clear c29
    by_cases c30 : t340 < (a1.size : Int)
    ·
     rw [if_pos c30] at H
     have c30b0 : decide (t340 < (a1.size : Int)) = true := decide_eq_true c30; clear c30
     by_cases c31 : 0 ≤ t340
     ·
      rw [if_pos c31] at H
      have c31b0 := eq_true c31; have c31b1 : decide (0 ≤ t340) = true := decide_eq_true c31; clear c31
      by_cases c32 : t340 ≤ (a1.size : Int)
      ·
       rw [if_pos c32] at H
       have c32b0 := eq_true c32; have c32b1 : decide (t340 ≤ (a1.size : Int)) = true := decide_eq_true c32; clear c32; obtain ⟨ji33, hji33⟩ : ∃ j_ : Int, (wrap64 (t340 + 1)) = j_ := ⟨_, rfl⟩
       replace H : (if 0 ≤ (ji33) then (if (ji33) ≤ (a1.size : Int) then (if (a1.extract 0 (t340 : Int).toNat).size + (a1.extract ((ji33) : Int).toNat a1.size).size ≤ 9223372036854775807 then (some ((a1.extract 0 (t340 : Int).toNat) ++ (a1.extract ((ji33) : Int).toNat a1.size), t344, t345)) else (none)) else (none)) else (none)) = some (r1, r2, r3) := by first | (rw [hji33] at H; exact H) | (simp only [hji33] at H ⊢; exact H)
       (try rw [hji33] at A3)
       (try rw [hji33] at A4)
       have hji33w : (IntKind.i64.wrap (t340 + 1)) = ji33 := (i64_w _).trans hji33
       by_cases c34 : 0 ≤ (ji33)
       ·
        rw [if_pos c34] at H
        have c34b0 := eq_true c34; have c34b1 : decide (0 ≤ (ji33)) = true := decide_eq_true c34; clear c34
        by_cases c35 : (ji33) ≤ (a1.size : Int)
        ·
         rw [if_pos c35] at H
         have c35b0 := eq_true c35; have c35b1 : decide ((ji33) ≤ (a1.size : Int)) = true := decide_eq_true c35; clear c35
         by_cases c36 : (a1.extract 0 (t340 : Int).toNat).size + (a1.extract ((ji33) : Int).toNat a1.size).size ≤ 9223372036854775807
         ·
          rw [if_pos c36] at H
          have c36x : (t340).toNat + (a1.size - ((ji33)).toNat) ≤ 9223372036854775807 := by have h_ := c36; simp only [ByteArray.size_append, ByteArray.size_extract] at h_; (try have q0_ := of_decide_eq_true (show decide (0 ≤ t340) = true by assumption)); (try have p0_ := of_decide_eq_true (show decide (t340 ≤ (a1.size : Int)) = true by assumption)); (try have q1_ := of_decide_eq_true (show decide (0 ≤ (ji33)) = true by assumption)); (try have p1_ := of_decide_eq_true (show decide ((ji33) ≤ (a1.size : Int)) = true by assumption)); omega
          have c36x0 := eq_true c36x; have c36x1 : (9223372036854775807 < (t340).toNat + (a1.size - ((ji33)).toNat)) = False := eq_false (by omega); have c36x2 : decide ((t340).toNat + (a1.size - ((ji33)).toNat) ≤ 9223372036854775807) = true := decide_eq_true c36x; have c36b0 := eq_true c36; have c36b1 : decide ((a1.extract 0 (t340 : Int).toNat).size + (a1.extract ((ji33) : Int).toNat a1.size).size ≤ 9223372036854775807) = true := decide_eq_true c36
          try have c36b2 : (9223372036854775807 < (a1.extract 0 (t340 : Int).toNat).size + (a1.extract ((ji33) : Int).toNat a1.size).size) = False := eq_false (Nat.not_lt.2 c36)
          simp only [Option.some.injEq, Prod.mk.injEq] at H
          obtain ⟨rfl, rfl, rfl⟩ := H
          go_enter Tryd.func159, Tryd.ntmps159
          try go_wp2_with (first | ((with_reducible refine gate_callee (f := 102) rfl ?_); refine goesL_ (some 10) rfl rfl Tryd.func102 (by kernel_rfl) rfl #[.pointer (some ⟨g, 0, none⟩), .int .i64 (wrap64 ((a1.size : Int) + 1))] rfl w4g14_ ?_; (with_reducible refine (spec_l01Next.calls g s0_0 s0_1 s0_2 (wrap64 ((a1.size : Int) + 1)) t340 t341 t342 w0 _ ?side1 ?side2 A3.out).mono ?_); (case side1 => exact w1g14_); (case side2 => exact w2g14_); rintro e w37 ⟨rfl, hi, hb, hk⟩; refine ⟨_, rfl, ?_⟩; have n0_ := ag14_ (KeepBut.trans w3g14_ hk (.inl rfl)); have n1_ := ag14_ (hb); have n2_ := ag14_ (hi); clear HK; clear HB; clear HI0; have HK := n0_; have HB := n1_; have HI0 := n2_; clear n0_ n1_ n2_; clear hb hk hi) | ((with_reducible refine gate_callee (f := 102) rfl ?_); refine goesL_ (some 12) rfl rfl Tryd.func102 (by kernel_rfl) rfl #[.pointer (some ⟨g, 0, none⟩), .int .i64 8] rfl w4g14_ ?_; (with_reducible refine (spec_l01Next.calls g s0_0 t341 t342 8 t343 t344 t345 w0 _ ?side1 ?side2 A4.out).mono ?_); (case side1 => exact w1g14_); (case side2 => exact w2g14_); rintro e w38 ⟨rfl, hi, hb, hk⟩; refine ⟨_, rfl, ?_⟩; replace HK := ag14_ (KeepBut.trans w3g14_ hk (.inl rfl)); replace HB := ag14_ (hb); replace HI0 := ag14_ (hi); clear hb hk hi))
          have n0_ := ag14_ (IsS200.drew HI0.out); have n1_ := ag14_ (keep_drew HK.out); have n2_ := ag14_ (below_drew1 HB.out); clear HI0 HK HB; have HI0 := n0_; have HK := n1_; have HB := n2_; clear n0_ n1_ n2_
          refine start_ (n := 9) (S := fun w' => True) (ds := []) #[false, false, false, false, false, false, false, false, false] (by kernel_rfl) rfl rfl trivial (fun hHeld => ?_); refine with_tabW spec_l01Damage.tab9 spec_l01Damage.bits9 (fun HT_ HW_ => ?_)
          generalize w38.drew = w39 at HI0 HK HB hHeld ⊢
          refine pd_ (i := 0) (N := some 39) #[true, false, false, false, false, false, false, false, false] rfl rfl ?_
          refine pd_ (i := 1) (N := some 40) #[true, true, false, false, false, false, false, false, false] rfl rfl ?_
          refine pd_ (i := 2) (N := some 41) #[true, true, true, false, false, false, false, false, false] rfl rfl ?_
          refine pd_ (i := 3) (N := some 42) #[true, true, true, true, false, false, false, false, false] rfl rfl ?_
          refine pd_ (i := 4) (N := some 43) #[true, true, true, true, true, false, false, false, false] rfl rfl ?_
          refine pd_ (i := 5) (N := some 44) #[true, true, true, true, true, true, false, false, false] rfl rfl ?_
          refine pd_ (i := 6) (N := some 45) #[true, true, true, true, true, true, true, false, false] rfl rfl ?_
          refine pd_ (i := 7) (N := some 46) #[true, true, true, true, true, true, true, true, false] rfl rfl ?_
          refine pd_ (i := 8) (N := some 4) #[true, true, true, true, true, true, true, true, true] rfl rfl ?_
          refine done_ (done_of HT_.out (by kernel_rfl)) ?_
          try go_wp2
          go_ret
          exact ⟨(by first | rfl | (simp [errW_none, errW_some] <;> rfl) | (simp only [← hji33]; first | rfl | (simp [errW_none, errW_some] <;> rfl)) | (simp [*, errW_none, errW_some] <;> rfl)), w1g14_, w2g14_, w3g14_⟩
         ·
          rw [if_neg c36] at H
          exact absurd H (by simp)
        ·
         rw [if_neg c35] at H
         exact absurd H (by simp)
       ·
        rw [if_neg c34] at H
        exact absurd H (by simp)
      ·
       rw [if_neg c32] at H
       exact absurd H (by simp)
     ·
      rw [if_neg c31] at H
      exact absurd H (by simp)
    ·
     rw [if_neg c30] at H
     have c30b0 : decide (t340 < (a1.size : Int)) = false := decide_eq_false c30; clear c30
     simp only [Option.some.injEq, Prod.mk.injEq] at H
     obtain ⟨rfl, rfl, rfl⟩ := H
     go_enter Tryd.func159, Tryd.ntmps159
     go_wp2_with (first | ((with_reducible refine gate_callee (f := 102) rfl ?_); refine goesL_ (some 10) rfl rfl Tryd.func102 (by kernel_rfl) rfl #[.pointer (some ⟨g, 0, none⟩), .int .i64 (wrap64 ((a1.size : Int) + 1))] rfl w4g14_ ?_; (with_reducible refine (spec_l01Next.calls g s0_0 s0_1 s0_2 (wrap64 ((a1.size : Int) + 1)) t340 t341 t342 w0 _ ?side1 ?side2 A3.out).mono ?_); (case side1 => exact w1g14_); (case side2 => exact w2g14_); rintro e w40 ⟨rfl, hi, hb, hk⟩; refine ⟨_, rfl, ?_⟩; have n0_ := ag14_ (KeepBut.trans w3g14_ hk (.inl rfl)); have n1_ := ag14_ (hb); have n2_ := ag14_ (hi); clear HK; clear HB; clear HI0; have HK := n0_; have HB := n1_; have HI0 := n2_; clear n0_ n1_ n2_; clear hb hk hi) | ((with_reducible refine gate_callee (f := 102) rfl ?_); refine goesL_ (some 12) rfl rfl Tryd.func102 (by kernel_rfl) rfl #[.pointer (some ⟨g, 0, none⟩), .int .i64 8] rfl w4g14_ ?_; (with_reducible refine (spec_l01Next.calls g s0_0 t341 t342 8 t343 t344 t345 w0 _ ?side1 ?side2 A4.out).mono ?_); (case side1 => exact w1g14_); (case side2 => exact w2g14_); rintro e w41 ⟨rfl, hi, hb, hk⟩; refine ⟨_, rfl, ?_⟩; replace HK := ag14_ (KeepBut.trans w3g14_ hk (.inl rfl)); replace HB := ag14_ (hb); replace HI0 := ag14_ (hi); clear hb hk hi))
     go_ret
     exact ⟨w5g14_, w1g14_, w2g14_, w3g14_⟩
   ·
    rw [if_neg c29] at H
    have c29b0 : (t343 == 2) = false := beq_eq_false_iff_ne.mpr c29; have c29b1 : (t343 != 2) = true := bne_iff_ne.mpr c29
    simp only [Option.some.injEq, Prod.mk.injEq] at H
    obtain ⟨rfl, rfl, rfl⟩ := H
    go_enter Tryd.func159, Tryd.ntmps159
    go_wp2_with (first | ((with_reducible refine gate_callee (f := 102) rfl ?_); refine goesL_ (some 10) rfl rfl Tryd.func102 (by kernel_rfl) rfl #[.pointer (some ⟨g, 0, none⟩), .int .i64 (wrap64 ((a1.size : Int) + 1))] rfl w4g14_ ?_; (with_reducible refine (spec_l01Next.calls g s0_0 s0_1 s0_2 (wrap64 ((a1.size : Int) + 1)) t340 t341 t342 w0 _ ?side1 ?side2 A3.out).mono ?_); (case side1 => exact w1g14_); (case side2 => exact w2g14_); rintro e w42 ⟨rfl, hi, hb, hk⟩; refine ⟨_, rfl, ?_⟩; replace HK := ag14_ (KeepBut.trans w3g14_ hk (.inl rfl)); replace HB := ag14_ (hb); replace HI0 := ag14_ (hi); clear hb hk hi) | ((with_reducible refine gate_callee (f := 102) rfl ?_); refine goesL_ (some 12) rfl rfl Tryd.func102 (by kernel_rfl) rfl #[.pointer (some ⟨g, 0, none⟩), .int .i64 8] rfl w4g14_ ?_; (with_reducible refine (spec_l01Next.calls g s0_0 t341 t342 8 t343 t344 t345 w0 _ ?side1 ?side2 A4.out).mono ?_); (case side1 => exact w1g14_); (case side2 => exact w2g14_); rintro e w43 ⟨rfl, hi, hb, hk⟩; refine ⟨_, rfl, ?_⟩; replace HK := ag14_ (KeepBut.trans w3g14_ hk (.inl rfl)); replace HB := ag14_ (hb); replace HI0 := ag14_ (hi); clear hb hk hi))
    go_ret
    exact ⟨w5g14_, w1g14_, w2g14_, w3g14_⟩
end Go.Proofs.YtoiioapkebglgaaDoor.PG
end
section
namespace Go.Proofs.YtoiioapkebglgaaDoor.PG
open Go.RowKit Go.Proofs.YtoiioapkebglgaaDoorW.PrintWords Go.Proofs.YtoiioapkebglgaaDoorW.PrintLast Go.Proofs.YtoiioapkebglgaaDoorW.PrintMore
attribute [local go_sem] max2_int min2_int max_two min_two max_three min_three max_four min_four   -- for this text's walks alone
set_option linter.unusedVariables false
set_option linter.unusedSimpArgs false
def spec_l29DrawText.f (k : Nat) (s0_0 : List Int) (s0_1 : Int) (s0_2 : Int) : Option (ByteArray × Int × Int) := (spec_l29Draw.f k s0_0 s0_1 s0_2).bind fun bt353 => ((spec_JournalText.f k bt353.1).bind fun bt358 => ((spec_l01Next.f s0_0 bt353.2.1 bt353.2.2 3).bind fun bt360 => (if bt360.1 = 0 then ((spec_l01Damage.f s0_0 bt360.2.1 bt360.2.2 bt358.1).bind fun bt363 => (some (bt363.1, bt363.2.1, bt363.2.2))) else ((spec_l01Next.f s0_0 bt360.2.1 bt360.2.2 50).bind fun bt366 => (if bt366.1 = 0 then ((spec_l01Next.f s0_0 bt366.2.1 bt366.2.2 2).bind fun bt369 => (if 0 ≤ (wrap64 (8000 + bt369.1)) then (if (wrap64 (8000 + bt369.1) : Int).toNat ≤ 281474976710656 then (some (strOfNums (List.replicate (wrap64 (8000 + bt369.1) : Int).toNat 0), bt369.2.1, bt369.2.2)) else (none)) else (none))) else (some (bt358.1, bt366.2.1, bt366.2.2)))))))
theorem ag15_ {p : Prop} (h : p) : Aside0 p := ⟨h⟩
theorem w1g15_ {p : Prop} (h : p := by repeat (first | (with_reducible first | exact HI0.out | apply IsS200.alloc | apply IsS200.drewN | apply IsS200.drew | apply IsS200.set_1 | apply IsS200.set_2) | exact HI0.out)) : p := h
theorem w2g15_ {p : Prop} (h : p := by repeat (first | (with_reducible first | exact HK.out | apply KeepBut.set_ | apply keep_drewN | apply keep_drew | apply keep_alloc) | exact HK.out)) : p := h
theorem w3g15_ {p : Prop} (h : p := by repeat (first | (with_reducible first | exact HB.out | apply below_alloc | apply pw_below_drewN | apply below_drew1 | refine below_set ?_ (IsS200.ge HI0.out)) | exact HB.out)) : p := h
theorem w4g15_ {p : Prop} (h : p := by (try simp only [List.map_toArray, List.map_cons, List.map_nil]); first | done | rfl | (simp only [List.length_drop, List.length_take]; rfl)) : p := h
theorem w5g15_ {p : Prop} (h : p := by (with_reducible repeat (first | apply Kd.R_alloc | apply Kd.R_drewN | apply Kd.R_drew)); exact HO355.out) : p := h
theorem w6g15_ {p : Prop} (h : p := by repeat (first | exact (Kd.R_reads' HO355.out).2.2 | (with_reducible refine Kd.C_alloc ?_ _) | (with_reducible refine Kd.C_drewN ?_ _) | (with_reducible refine Kd.C_drew ?_))) : p := h
set_option maxHeartbeats 8000000 in
set_option maxRecDepth 100000 in
theorem spec_l29DrawText.calls (k : Nat) (g : Nat) (s0_0 : List Int) (s0_1 : Int) (s0_2 : Int) (r1 : ByteArray) (r2 : Int) (r3 : Int) (w0 w : World) (hI : IsS200 w0 w g s0_0 s0_1 s0_2) (hB : Below w0.heap.size w0 w) (h : spec_l29DrawText.f k s0_0 s0_1 s0_2 = some (r1, r2, r3)) :
 Calls Tryd.prog 100 #[.pointer (some ⟨g, 0, none⟩)] w fun e w' => e = .returned (.string r1) ∧ IsS200 w0 w' g s0_0 r2 r3 ∧ Below w0.heap.size w0 w' ∧ KeepBut w w' g none := by
 have HI0 := ag15_ hI; have HK := ag15_ (KeepBut.refl w g none); have HL := ag15_ hB.size; clear hI; have HW0 := ag15_ hB.size; have HB := ag15_ hB; clear hB; have H : ((spec_l29Draw.f k s0_0 s0_1 s0_2).bind fun bt353 => ((spec_JournalText.f k bt353.1).bind fun bt358 => ((spec_l01Next.f s0_0 bt353.2.1 bt353.2.2 3).bind fun bt360 => (if bt360.1 = 0 then ((spec_l01Damage.f s0_0 bt360.2.1 bt360.2.2 bt358.1).bind fun bt363 => (some (bt363.1, bt363.2.1, bt363.2.2))) else ((spec_l01Next.f s0_0 bt360.2.1 bt360.2.2 50).bind fun bt366 => (if bt366.1 = 0 then ((spec_l01Next.f s0_0 bt366.2.1 bt366.2.2 2).bind fun bt369 => (if 0 ≤ (wrap64 (8000 + bt369.1)) then (if (wrap64 (8000 + bt369.1) : Int).toNat ≤ 281474976710656 then (some (strOfNums (List.replicate (wrap64 (8000 + bt369.1) : Int).toNat 0), bt369.2.1, bt369.2.2)) else (none)) else (none))) else (some (bt358.1, bt366.2.1, bt366.2.2)))))))) = some (r1, r2, r3) := h; clear h
 replace H := Option.bind_eq_some_iff.mp H
 obtain ⟨⟨t353, t356, t357⟩, A20, H⟩ := H
 try dsimp only at H
 have A2 := ag15_ A20; clear A20
 replace H := Option.bind_eq_some_iff.mp H
 obtain ⟨⟨t358, t359⟩, A30, H⟩ := H
 try dsimp only at H
 have A3 := ag15_ A30; clear A30
 replace H := Option.bind_eq_some_iff.mp H
 obtain ⟨⟨t360, t361, t362⟩, A40, H⟩ := H
 try dsimp only at H
 have A4 := ag15_ A40; clear A40
 by_cases c5 : t360 = 0
 ·
  rw [if_pos c5] at H
  have c5b0 : (t360 == 0) = true := beq_iff_eq.mpr c5; have c5b1 : (t360 != 0) = false := bne_eq_false_iff_eq.mpr c5; clear c5
  replace H := Option.bind_eq_some_iff.mp H
  obtain ⟨⟨t363, t364, t365⟩, A60, H⟩ := H
  try dsimp only at H
  have A6 := ag15_ A60; clear A60
  simp only [Option.some.injEq, Prod.mk.injEq] at H
  obtain ⟨rfl, rfl, rfl⟩ := H
  go_enter Tryd.func100, Tryd.ntmps100
  go_wp2_with (first | ((with_reducible refine gate_callee (f := 109) rfl ?_); refine goesL_ (some 7) rfl rfl Tryd.func109 (by kernel_rfl) rfl #[.pointer (some ⟨g, 0, none⟩)] rfl w4g15_ ?_; (with_reducible refine (spec_l29Draw.calls k g s0_0 s0_1 s0_2 t353 t356 t357 w0 _ ?side1 ?side2 A2.out).mono ?_); (case side1 => exact w1g15_); (case side2 => exact w3g15_); rintro e w7 ⟨v354, rfl, ho0, hi, hb, hk⟩; refine ⟨_, rfl, ?_⟩; have n0_ := ag15_ (Kd.R_lower ho0 (keep_size (w := w) (g := g) (row := none) w2g15_)); have n1_ := ag15_ (KeepBut.trans w2g15_ hk (.inl rfl)); have n2_ := ag15_ (hb); have n3_ := ag15_ (hi); clear HK; clear HB; clear HI0; have HO355 := n0_; have HK := n1_; have HB := n2_; have HI0 := n3_; clear n0_ n1_ n2_ n3_; (try clear hb); (try clear hb2); (try clear hk); (try clear hi); (try clear ho0); obtain ⟨Ao8, co8, eo8⟩ := Kd.R_slice HO355.out; subst eo8) | ((with_reducible refine gate_callee (f := 43) rfl ?_); refine goesL_ (some 8) rfl rfl Tryd.func43 (by kernel_rfl) rfl #[.slice Ao8 t353.length co8] rfl w4g15_ ?_; (with_reducible refine (spec_JournalText.calls k _ _ t353 t358 t359 _ ?side1 ?side2 A3.out).mono ?_); (case side1 => exact w6g15_); (case side2 => exact (Kd.R_reads' HO355.out).2.1); rintro e w9 ⟨rfl, hb⟩; refine ⟨_, rfl, ?_⟩; have n0_ := ag15_ (Kd.R_below w5g15_ hb); have n1_ := ag15_ (IsS200.below w1g15_ hb); have n2_ := ag15_ (KeepBut.trans w2g15_ (KeepBut.of_below hb g none) (.inl rfl)); have n3_ := ag15_ (below_step w3g15_ hb); clear HO355; clear HI0; clear HK; clear HB; have HO355 := n0_; have HI0 := n1_; have HK := n2_; have HB := n3_; clear n0_ n1_ n2_ n3_; clear hb) | ((with_reducible refine gate_callee (f := 102) rfl ?_); refine goesL_ (some 12) rfl rfl Tryd.func102 (by kernel_rfl) rfl #[.pointer (some ⟨g, 0, none⟩), .int .i64 3] rfl w4g15_ ?_; (with_reducible refine (spec_l01Next.calls g s0_0 t356 t357 3 t360 t361 t362 w0 _ ?side1 ?side2 A4.out).mono ?_); (case side1 => exact w1g15_); (case side2 => exact w3g15_); rintro e w10 ⟨rfl, hi, hb, hk⟩; refine ⟨_, rfl, ?_⟩; replace HO355 := ag15_ (Kd.R_mono (Kd.R_keep (IsS200.apart (show IsS200 w0 _ g s0_0 t356 t357 from w1g15_) w5g15_ (by decide)) hk (fun _ h => h.2)) (fun _ h => h.1)); replace HK := ag15_ (KeepBut.trans w2g15_ hk (.inl rfl)); replace HB := ag15_ (hb); replace HI0 := ag15_ (hi); clear hb hk hi) | ((with_reducible refine gate_callee (f := 159) rfl ?_); refine goesL_ (some 16) rfl rfl Tryd.func159 (by kernel_rfl) rfl #[.pointer (some ⟨g, 0, none⟩), .string t358] rfl w4g15_ ?_; (with_reducible refine (spec_l01Damage.calls g s0_0 t361 t362 t358 t363 t364 t365 w0 _ ?side1 ?side2 A6.out).mono ?_); (case side1 => exact w1g15_); (case side2 => exact w3g15_); rintro e w11 ⟨rfl, hi, hb, hk⟩; refine ⟨_, rfl, ?_⟩; replace HO355 := ag15_ (Kd.R_mono (Kd.R_keep (IsS200.apart (show IsS200 w0 _ g s0_0 t361 t362 from w1g15_) w5g15_ (by decide)) hk (fun _ h => h.2)) (fun _ h => h.1)); replace HK := ag15_ (KeepBut.trans w2g15_ hk (.inl rfl)); replace HB := ag15_ (hb); replace HI0 := ag15_ (hi); clear hb hk hi))
  go_ret
  exact ⟨(by first | rfl | (simp [errW_none, errW_some] <;> rfl) | (simp [*, errW_none, errW_some] <;> rfl)), w1g15_, w3g15_, w2g15_⟩
 ·
  rw [if_neg c5] at H
  have c5b0 : (t360 == 0) = false := beq_eq_false_iff_ne.mpr c5; have c5b1 : (t360 != 0) = true := bne_iff_ne.mpr c5
  replace H := Option.bind_eq_some_iff.mp H
  obtain ⟨⟨t366, t367, t368⟩, A120, H⟩ := H
  try dsimp only at H
  have A12 := ag15_ A120; clear A120
  by_cases c13 : t366 = 0
  ·
   rw [if_pos c13] at H
   have c13b0 : (t366 == 0) = true := beq_iff_eq.mpr c13; have c13b1 : (t366 != 0) = false := bne_eq_false_iff_eq.mpr c13; clear c13
   replace H := Option.bind_eq_some_iff.mp H
   obtain ⟨⟨t369, t370, t371⟩, A140, H⟩ := H
   try dsimp only at H
   have A14 := ag15_ A140; clear A140; obtain ⟨ji15, hji15⟩ : ∃ j_ : Int, (wrap64 (8000 + t369)) = j_ := ⟨_, rfl⟩
   replace H : (if 0 ≤ (ji15) then (if (ji15 : Int).toNat ≤ 281474976710656 then (some (strOfNums (List.replicate (ji15 : Int).toNat 0), t370, t371)) else (none)) else (none)) = some (r1, r2, r3) := by first | (rw [hji15] at H; exact H) | (simp only [hji15] at H ⊢; exact H)
   (try rw [hji15] at A2)
   (try rw [hji15] at A3)
   (try rw [hji15] at A4)
   (try rw [hji15] at A12)
   (try rw [hji15] at A14)
   have hji15w : (IntKind.i64.wrap (8000 + t369)) = ji15 := (i64_w _).trans hji15
   by_cases c16 : 0 ≤ (ji15)
   ·
    rw [if_pos c16] at H
    have c16b0 := eq_true c16; have c16b1 : decide (0 ≤ (ji15)) = true := decide_eq_true c16; clear c16
    by_cases c17 : (ji15 : Int).toNat ≤ 281474976710656
    ·
     rw [if_pos c17] at H
     have c17b0 := eq_true c17; have c17b1 : decide ((ji15 : Int).toNat ≤ 281474976710656) = true := decide_eq_true c17; clear c17; obtain ⟨y372, hy372⟩ : ∃ y_ : List Int, y_ = (List.replicate (ji15 : Int).toNat 0) := ⟨_, rfl⟩
     replace H : (some (strOfNums y372, t370, t371)) = some (r1, r2, r3) := by first | (rw [hy372]; with_reducible exact H) | (have H2_ := (Option.bind_some _ _).symm.trans H; rw [hy372]; with_reducible exact H2_) | (have H2_ := (Option.bind_some _ _).symm.trans H; with_reducible exact H2_) | with_reducible exact H | (rw [hy372]; exact H) | exact H
     have Ny372 := ag15_ hy372; clear hy372
     simp only [Option.some.injEq, Prod.mk.injEq] at H
     obtain ⟨rfl, rfl, rfl⟩ := H
     go_enter Tryd.func100, Tryd.ntmps100
     go_wp2_with (first | ((with_reducible refine gate_callee (f := 109) rfl ?_); refine goesL_ (some 7) rfl rfl Tryd.func109 (by kernel_rfl) rfl #[.pointer (some ⟨g, 0, none⟩)] rfl w4g15_ ?_; (with_reducible refine (spec_l29Draw.calls k g s0_0 s0_1 s0_2 t353 t356 t357 w0 _ ?side1 ?side2 A2.out).mono ?_); (case side1 => exact w1g15_); (case side2 => exact w3g15_); rintro e w18 ⟨v354, rfl, ho0, hi, hb, hk⟩; refine ⟨_, rfl, ?_⟩; have n0_ := ag15_ (Kd.R_lower ho0 (keep_size (w := w) (g := g) (row := none) w2g15_)); have n1_ := ag15_ (KeepBut.trans w2g15_ hk (.inl rfl)); have n2_ := ag15_ (hb); have n3_ := ag15_ (hi); clear HK; clear HB; clear HI0; have HO355 := n0_; have HK := n1_; have HB := n2_; have HI0 := n3_; clear n0_ n1_ n2_ n3_; (try clear hb); (try clear hb2); (try clear hk); (try clear hi); (try clear ho0); obtain ⟨Ao19, co19, eo19⟩ := Kd.R_slice HO355.out; subst eo19) | ((with_reducible refine gate_callee (f := 43) rfl ?_); refine goesL_ (some 8) rfl rfl Tryd.func43 (by kernel_rfl) rfl #[.slice Ao19 t353.length co19] rfl w4g15_ ?_; (with_reducible refine (spec_JournalText.calls k _ _ t353 t358 t359 _ ?side1 ?side2 A3.out).mono ?_); (case side1 => exact w6g15_); (case side2 => exact (Kd.R_reads' HO355.out).2.1); rintro e w20 ⟨rfl, hb⟩; refine ⟨_, rfl, ?_⟩; have n0_ := ag15_ (Kd.R_below w5g15_ hb); have n1_ := ag15_ (IsS200.below w1g15_ hb); have n2_ := ag15_ (KeepBut.trans w2g15_ (KeepBut.of_below hb g none) (.inl rfl)); have n3_ := ag15_ (below_step w3g15_ hb); clear HO355; clear HI0; clear HK; clear HB; have HO355 := n0_; have HI0 := n1_; have HK := n2_; have HB := n3_; clear n0_ n1_ n2_ n3_; clear hb) | ((with_reducible refine gate_callee (f := 102) rfl ?_); refine goesL_ (some 12) rfl rfl Tryd.func102 (by kernel_rfl) rfl #[.pointer (some ⟨g, 0, none⟩), .int .i64 3] rfl w4g15_ ?_; (with_reducible refine (spec_l01Next.calls g s0_0 t356 t357 3 t360 t361 t362 w0 _ ?side1 ?side2 A4.out).mono ?_); (case side1 => exact w1g15_); (case side2 => exact w3g15_); rintro e w21 ⟨rfl, hi, hb, hk⟩; refine ⟨_, rfl, ?_⟩; replace HO355 := ag15_ (Kd.R_mono (Kd.R_keep (IsS200.apart (show IsS200 w0 _ g s0_0 t356 t357 from w1g15_) w5g15_ (by decide)) hk (fun _ h => h.2)) (fun _ h => h.1)); replace HK := ag15_ (KeepBut.trans w2g15_ hk (.inl rfl)); replace HB := ag15_ (hb); replace HI0 := ag15_ (hi); clear hb hk hi) | ((with_reducible refine gate_callee (f := 102) rfl ?_); refine goesL_ (some 18) rfl rfl Tryd.func102 (by kernel_rfl) rfl #[.pointer (some ⟨g, 0, none⟩), .int .i64 50] rfl w4g15_ ?_; (with_reducible refine (spec_l01Next.calls g s0_0 t361 t362 50 t366 t367 t368 w0 _ ?side1 ?side2 A12.out).mono ?_); (case side1 => exact w1g15_); (case side2 => exact w3g15_); rintro e w22 ⟨rfl, hi, hb, hk⟩; refine ⟨_, rfl, ?_⟩; replace HO355 := ag15_ (Kd.R_mono (Kd.R_keep (IsS200.apart (show IsS200 w0 _ g s0_0 t361 t362 from w1g15_) w5g15_ (by decide)) hk (fun _ h => h.2)) (fun _ h => h.1)); replace HK := ag15_ (KeepBut.trans w2g15_ hk (.inl rfl)); replace HB := ag15_ (hb); replace HI0 := ag15_ (hi); clear hb hk hi) | ((with_reducible refine gate_callee (f := 102) rfl ?_); refine goesL_ (some 21) rfl rfl Tryd.func102 (by kernel_rfl) rfl #[.pointer (some ⟨g, 0, none⟩), .int .i64 2] rfl w4g15_ ?_; (with_reducible refine (spec_l01Next.calls g s0_0 t367 t368 2 t369 t370 t371 w0 _ ?side1 ?side2 A14.out).mono ?_); (case side1 => exact w1g15_); (case side2 => exact w3g15_); rintro e w23 ⟨rfl, hi, hb, hk⟩; refine ⟨_, rfl, ?_⟩; replace HO355 := ag15_ (Kd.R_mono (Kd.R_keep (IsS200.apart (show IsS200 w0 _ g s0_0 t367 t368 from w1g15_) w5g15_ (by decide)) hk (fun _ h => h.2)) (fun _ h => h.1)); replace HK := ag15_ (KeepBut.trans w2g15_ hk (.inl rfl)); replace HB := ag15_ (hb); replace HI0 := ag15_ (hi); clear hb hk hi) | ((with_reducible refine gate_dst (N := 23) rfl ?_); refine Kd.R_make (Kd.int .u8) _ 5 rfl (N := 23) rfl 63 _ _ rfl ji15 rfl rfl Tryd.underlying63 (.int .u8 0) 1 info5 rfl (by decide) (by omega) 0 (ok := fun _ => True) (okp := fun _ => True) rfl (fun _ hk => hk) trivial (of_decide_eq_true (by first | (with_reducible assumption) | assumption)) (Nat.le_trans (Nat.mul_le_mul_right _ (of_decide_eq_true (by first | (with_reducible assumption) | assumption) : ji15.toNat ≤ 281474976710656)) (by omega)) (Below.refl _ _) (Nat.le_refl _) ?_; intro v373 w24 ho25 hb hg_ hnew_; clear hg_ hnew_; (first | rw [← Ny372.out] at ho25 | (simp only [Int.reduceToNat] at ho25; rw [← Ny372.out] at ho25)); have HO374 := ag15_ (Kd.R_lower ho25 (keep_size (w := w) (g := g) (row := none) w2g15_)); replace HO355 := ag15_ (Kd.R_below w5g15_ hb); replace HK := ag15_ (KeepBut.trans w2g15_ (KeepBut.of_below hb g none) (.inl rfl)); replace HB := ag15_ (below_step w3g15_ hb); replace HI0 := ag15_ (IsS200.below w1g15_ hb); clear hb ho25; have hcv26 := own_string (P := Tryd.prog) Tryd.underlying63 Tryd.underlying5 Tryd.underlying9 (Kd.own_of_R HO374.out)))
     go_ret
     exact ⟨(by first | rfl | (simp [errW_none, errW_some] <;> rfl) | (simp only [← hji15]; first | rfl | (simp [errW_none, errW_some] <;> rfl)) | (simp [*, errW_none, errW_some] <;> rfl)), w1g15_, w3g15_, w2g15_⟩
    ·
     rw [if_neg c17] at H
     exact absurd H (by simp)
   ·
    rw [if_neg c16] at H
    exact absurd H (by simp)
  ·
   rw [if_neg c13] at H
   have c13b0 : (t366 == 0) = false := beq_eq_false_iff_ne.mpr c13; have c13b1 : (t366 != 0) = true := bne_iff_ne.mpr c13
   simp only [Option.some.injEq, Prod.mk.injEq] at H
   obtain ⟨rfl, rfl, rfl⟩ := H
   go_enter Tryd.func100, Tryd.ntmps100
   go_wp2_with (first | ((with_reducible refine gate_callee (f := 109) rfl ?_); refine goesL_ (some 7) rfl rfl Tryd.func109 (by kernel_rfl) rfl #[.pointer (some ⟨g, 0, none⟩)] rfl w4g15_ ?_; (with_reducible refine (spec_l29Draw.calls k g s0_0 s0_1 s0_2 t353 t356 t357 w0 _ ?side1 ?side2 A2.out).mono ?_); (case side1 => exact w1g15_); (case side2 => exact w3g15_); rintro e w27 ⟨v354, rfl, ho0, hi, hb, hk⟩; refine ⟨_, rfl, ?_⟩; have n0_ := ag15_ (Kd.R_lower ho0 (keep_size (w := w) (g := g) (row := none) w2g15_)); have n1_ := ag15_ (KeepBut.trans w2g15_ hk (.inl rfl)); have n2_ := ag15_ (hb); have n3_ := ag15_ (hi); clear HK; clear HB; clear HI0; have HO355 := n0_; have HK := n1_; have HB := n2_; have HI0 := n3_; clear n0_ n1_ n2_ n3_; (try clear hb); (try clear hb2); (try clear hk); (try clear hi); (try clear ho0); obtain ⟨Ao28, co28, eo28⟩ := Kd.R_slice HO355.out; subst eo28) | ((with_reducible refine gate_callee (f := 43) rfl ?_); refine goesL_ (some 8) rfl rfl Tryd.func43 (by kernel_rfl) rfl #[.slice Ao28 t353.length co28] rfl w4g15_ ?_; (with_reducible refine (spec_JournalText.calls k _ _ t353 t358 t359 _ ?side1 ?side2 A3.out).mono ?_); (case side1 => exact w6g15_); (case side2 => exact (Kd.R_reads' HO355.out).2.1); rintro e w29 ⟨rfl, hb⟩; refine ⟨_, rfl, ?_⟩; have n0_ := ag15_ (Kd.R_below w5g15_ hb); have n1_ := ag15_ (IsS200.below w1g15_ hb); have n2_ := ag15_ (KeepBut.trans w2g15_ (KeepBut.of_below hb g none) (.inl rfl)); have n3_ := ag15_ (below_step w3g15_ hb); clear HO355; clear HI0; clear HK; clear HB; have HO355 := n0_; have HI0 := n1_; have HK := n2_; have HB := n3_; clear n0_ n1_ n2_ n3_; clear hb) | ((with_reducible refine gate_callee (f := 102) rfl ?_); refine goesL_ (some 12) rfl rfl Tryd.func102 (by kernel_rfl) rfl #[.pointer (some ⟨g, 0, none⟩), .int .i64 3] rfl w4g15_ ?_; (with_reducible refine (spec_l01Next.calls g s0_0 t356 t357 3 t360 t361 t362 w0 _ ?side1 ?side2 A4.out).mono ?_); (case side1 => exact w1g15_); (case side2 => exact w3g15_); rintro e w30 ⟨rfl, hi, hb, hk⟩; refine ⟨_, rfl, ?_⟩; replace HO355 := ag15_ (Kd.R_mono (Kd.R_keep (IsS200.apart (show IsS200 w0 _ g s0_0 t356 t357 from w1g15_) w5g15_ (by decide)) hk (fun _ h => h.2)) (fun _ h => h.1)); replace HK := ag15_ (KeepBut.trans w2g15_ hk (.inl rfl)); replace HB := ag15_ (hb); replace HI0 := ag15_ (hi); clear hb hk hi) | ((with_reducible refine gate_callee (f := 102) rfl ?_); refine goesL_ (some 18) rfl rfl Tryd.func102 (by kernel_rfl) rfl #[.pointer (some ⟨g, 0, none⟩), .int .i64 50] rfl w4g15_ ?_; (with_reducible refine (spec_l01Next.calls g s0_0 t361 t362 50 t366 t367 t368 w0 _ ?side1 ?side2 A12.out).mono ?_); (case side1 => exact w1g15_); (case side2 => exact w3g15_); rintro e w31 ⟨rfl, hi, hb, hk⟩; refine ⟨_, rfl, ?_⟩; replace HO355 := ag15_ (Kd.R_mono (Kd.R_keep (IsS200.apart (show IsS200 w0 _ g s0_0 t361 t362 from w1g15_) w5g15_ (by decide)) hk (fun _ h => h.2)) (fun _ h => h.1)); replace HK := ag15_ (KeepBut.trans w2g15_ hk (.inl rfl)); replace HB := ag15_ (hb); replace HI0 := ag15_ (hi); clear hb hk hi))
   go_ret
   exact ⟨(by first | rfl | (simp [errW_none, errW_some] <;> rfl) | (simp [*, errW_none, errW_some] <;> rfl)), w1g15_, w3g15_, w2g15_⟩
end Go.Proofs.YtoiioapkebglgaaDoor.PG
end
section
namespace Go.Proofs.YtoiioapkebglgaaDoor.PG
open Go.RowKit Go.Proofs.YtoiioapkebglgaaDoorW.PrintWords Go.Proofs.YtoiioapkebglgaaDoorW.PrintLast Go.Proofs.YtoiioapkebglgaaDoorW.PrintMore
attribute [local go_sem] max2_int min2_int max_two min_two max_three min_three max_four min_four   -- for this text's walks alone
set_option linter.unusedVariables false
set_option linter.unusedSimpArgs false
def spec_DrawRecoverJournal.f (k : Nat) (l0 : List Int) : Option (ByteArray) := (spec_l01From.f k l0).bind fun bt565 => ((spec_l29DrawText.f k bt565.1 bt565.2.1 bt565.2.2).bind fun bt569 => (some bt569.1))
theorem ag27_ {p : Prop} (h : p) : Aside0 p := ⟨h⟩
theorem w1g27_ {p : Prop} (h : p := by repeat (first | (with_reducible first | exact HB.out | apply below_alloc | apply pw_below_drewN | apply below_drew1 | refine below_set ?_ (IsS200.ge HI568.out)) | exact HB.out)) : p := h
theorem w2g27_ {p : Prop} (h : p := by (try simp only [List.map_toArray, List.map_cons, List.map_nil]); first | done | rfl | (simp only [List.length_drop, List.length_take]; rfl)) : p := h
set_option maxHeartbeats 8000000 in
set_option maxRecDepth 100000 in
theorem spec_DrawRecoverJournal.calls (k : Nat) (A0 : Option Addr) (c0 : Nat) (l0 : List Int) (r : ByteArray) (w : World) (hr0 : Kd.C (Kd.int .u8) w A0 l0.length l0) (hc0 : l0.length ≤ c0) (h : spec_DrawRecoverJournal.f k l0 = some r) :
 Calls Tryd.prog 44 #[.slice A0 l0.length c0] w fun e w' => e = .returned (.string r) ∧ Below w.heap.size w w' := by
 have HR0 := ag27_ hr0; have HC0 := ag27_ hc0; clear hr0 hc0; have HB := ag27_ (Below.refl w.heap.size w); have H : ((spec_l01From.f k l0).bind fun bt565 => ((spec_l29DrawText.f k bt565.1 bt565.2.1 bt565.2.2).bind fun bt569 => (some bt569.1))) = some r := h; clear h
 replace H := Option.bind_eq_some_iff.mp H
 obtain ⟨⟨t565, t566, t567⟩, A20, H⟩ := H
 try dsimp only at H
 have A2 := ag27_ A20; clear A20
 replace H := Option.bind_eq_some_iff.mp H
 obtain ⟨⟨t569, t570, t571⟩, A30, H⟩ := H
 try dsimp only at H
 have A3 := ag27_ A30; clear A30; obtain rfl := Option.some.inj H
 go_enter Tryd.func44, Tryd.ntmps44
 go_wp2_with (first | ((with_reducible refine gate_callee (f := 99) rfl ?_); refine goesL_ (some 4) rfl rfl Tryd.func99 (by kernel_rfl) rfl #[.slice A0 l0.length c0] rfl w2g27_ ?_; (with_reducible refine (spec_l01From.calls k _ _ l0 t565 t566 t567 w _ ?side1 ?side2 ?side3 A2.out).mono ?_); (case side1 => exact (by repeat (first | (with_reducible first | exact HB.out | apply below_alloc | apply pw_below_drewN | apply below_drew1) | exact HB.out))); (case side2 => exact HR0.out); (case side3 => exact HC0.out); rintro e w4 ⟨g568, rfl, hi, hb, hb2⟩; refine ⟨_, rfl, ?_⟩; have HI568 := ag27_ (hi); replace HB := ag27_ (hb); (try clear hb); (try clear hb2); (try clear hk); (try clear hi)) | ((with_reducible refine gate_callee (f := 100) rfl ?_); refine goesL_ (some 5) rfl rfl Tryd.func100 (by kernel_rfl) rfl #[.pointer (some ⟨g568, 0, none⟩)] rfl w2g27_ ?_; (with_reducible refine (spec_l29DrawText.calls k g568 t565 t566 t567 t569 t570 t571 w _ ?side1 ?side2 A3.out).mono ?_); (case side1 => exact (by repeat (first | (with_reducible first | exact HI568.out | apply IsS200.alloc | apply IsS200.drewN | apply IsS200.drew | apply IsS200.set_1 | apply IsS200.set_2) | exact HI568.out))); (case side2 => exact w1g27_); rintro e w5 ⟨rfl, hi, hb, hk⟩; refine ⟨_, rfl, ?_⟩; replace HB := ag27_ (hb); replace HI568 := ag27_ (hi); clear hb hk hi))
 go_ret
 exact ⟨(by first | rfl | (simp [errW_none, errW_some] <;> rfl) | (simp [*, errW_none, errW_some] <;> rfl)), w1g27_⟩
def spec_RunJournal.f (k : Nat) (l0 : List (S70)) : Option (Int × Int × Int × Int × Int) := (spec_l29Run.f k l0).bind fun bt573 => (if bt573.2.2.2.2 = true then (some (bt573.1, bt573.2.1, bt573.2.2.1, bt573.2.2.2.1, 0)) else (some (0, 0, 0, 0, 1)))
theorem ag28_ {p : Prop} (h : p) : Aside0 p := ⟨h⟩
theorem w1g28_ {p : Prop} (h : p := by repeat (first | (with_reducible first | exact HB.out | apply below_alloc | apply pw_below_drewN | apply below_drew1 | refine below_set ?_ GE572.out) | exact HB.out)) : p := h
theorem w2g28_ {p : Prop} (h : p := by (with_reducible repeat (first | refine blk_drewN ?_ _ | refine blk_drew ?_ | refine blk_alloc ?_ _)); exact BK572.out) : p := h
theorem w3g28_ {p : Prop} (h : p := by repeat (first | (with_reducible first | exact HB.out | apply below_alloc | apply pw_below_drewN | apply below_drew1) | exact HB.out)) : p := h
theorem w4g28_ {p : Prop} (h : p := by repeat (first | (with_reducible first | exact HB.out | apply below_alloc | apply pw_below_drewN | apply below_drew1 | refine below_set ?_ GE572.out | refine below_set ?_ GE578.out) | exact HB.out)) : p := h
theorem w5g28_ {p : Prop} (h : p := by repeat (first | exact (Kd.C_below HR0.out HB.out) | (with_reducible refine Kd.C_alloc ?_ _) | (with_reducible refine Kd.C_drewN ?_ _) | (with_reducible refine Kd.C_drew ?_))) : p := h
theorem w6g28_ {p : Prop} (h : p := by (try simp only [List.map_toArray, List.map_cons, List.map_nil]); first | done | rfl | (simp only [List.length_drop, List.length_take]; rfl)) : p := h
set_option maxHeartbeats 8000000 in
set_option maxRecDepth 100000 in
theorem spec_RunJournal.calls (k : Nat) (A0 : Option Addr) (c0 : Nat) (l0 : List (S70)) (r1 : Int) (r2 : Int) (r3 : Int) (r4 : Int) (r5 : Int) (w : World) (hr0 : Kd.C k70 w A0 l0.length l0) (hc0 : l0.length ≤ c0) (h : spec_RunJournal.f k l0 = some (r1, r2, r3, r4, r5)) :
 Calls Tryd.prog 45 #[.slice A0 l0.length c0] w fun e w' => e = .returned (.tuple #[.agg #[.int .i64 r1, .int .i64 r2, .int .i64 r3, .int .i64 r4], .int .i64 r5]) ∧ Below w.heap.size w w' := by
 have hu68 := Tryd.underlying68; have HR0 := ag28_ hr0; have HC0 := ag28_ hc0; clear hr0 hc0; have HB := ag28_ (Below.refl w.heap.size w); have H : ((spec_l29Run.f k l0).bind fun bt573 => (if bt573.2.2.2.2 = true then (some (bt573.1, bt573.2.1, bt573.2.2.1, bt573.2.2.2.1, 0)) else (some (0, 0, 0, 0, 1)))) = some (r1, r2, r3, r4, r5) := h; clear h
 replace H := Option.bind_eq_some_iff.mp H
 obtain ⟨⟨t573, t574, t575, t576, t577⟩, A20, H⟩ := H
 try dsimp only at H
 have A2 := ag28_ A20; clear A20
 by_cases c3 : t577 = true
 ·
  subst c3
  rw [if_pos rfl] at H
  simp only [Option.some.injEq, Prod.mk.injEq] at H
  obtain ⟨rfl, rfl, rfl, rfl, rfl⟩ := H
  go_enter Tryd.func45, Tryd.ntmps45
  go_wp2_with (first | ((with_reducible refine gate_dst (N := 2) rfl ?_); refine be_ (N := 2) (cs := #[.int .i64 0, .int .i64 0, .int .i64 0, .int .i64 0]) (t := 68) ?_; intro gb572 hg w4 hbox hb; have BK572 := ag28_ (hbox); have GW572 := gw_ (w := w) hg w3g28_; have GE572 := gw_ (w := w) hg w3g28_; replace HB := ag28_ (below_step w3g28_ hb); clear hb hbox hg) | ((with_reducible refine gate_callee (f := 57) rfl ?_); refine goesL_ (some 8) rfl rfl Tryd.func57 (by kernel_rfl) rfl #[.slice A0 l0.length c0] rfl w6g28_ ?_; (with_reducible refine (spec_l29Run.calls k _ _ l0 t573 t574 t575 t576 true _ ?side1 ?side2 A2.out).mono ?_); (case side1 => exact w5g28_); (case side2 => exact HC0.out); rintro e w5 ⟨rfl, hb⟩; refine ⟨_, rfl, ?_⟩; replace BK572 := ag28_ (blk_below w2g28_ hb); replace HB := ag28_ (below_step w1g28_ hb); clear hb) | ((with_reducible refine gate_dst (N := 4) rfl ?_); refine be_ (N := 4) (cs := #[.int .i64 0, .int .i64 0, .int .i64 0, .int .i64 0]) (t := 68) ?_; intro gb578 hg w6 hbox hb; have BK578 := ag28_ (hbox); have GW578 := gw_ (w := w) hg w1g28_; have GE578 := gw_ (w := w) hg w1g28_; obtain ⟨NB572_578, NB578_572⟩ := nb2_ hg w2g28_; replace BK572 := ag28_ (blk_below w2g28_ hb); replace HB := ag28_ (below_step w1g28_ hb); clear hb hbox hg; have hnb7 := NB578_572.out; have hnc7 := NB572_578.out; obtain ⟨hcz8_0, hcz8_1, hcz8_2, hcz8_3⟩ := blk4 BK578.out; obtain ⟨hfz8_0, hfz8_1, hfz8_2, hfz8_3⟩ := frz4 BK578.out; obtain ⟨hcz9_0, hcz9_1, hcz9_2, hcz9_3⟩ := blk4 BK572.out; obtain ⟨hfz9_0, hfz9_1, hfz9_2, hfz9_3⟩ := frz4 BK572.out))
  refine bodyPost_ret (results_ct rfl _ _ gb572 68 #[.int .i64 t573, .int .i64 t574, .int .i64 t575, .int .i64 t576] (0, 0) _ rfl (by (with_reducible repeat (first | refine blk_drewN ?_ _ | refine blk_drew ?_ | refine blk_alloc ?_ _)); refine blk_put (cs := #[.int .i64 t573, .int .i64 t574, .int .i64 t575, .int .i64 0]) ?_ 3 _ rfl; (with_reducible repeat (first | refine blk_drewN ?_ _ | refine blk_drew ?_ | refine blk_alloc ?_ _)); refine blk_put (cs := #[.int .i64 t573, .int .i64 t574, .int .i64 0, .int .i64 0]) ?_ 2 _ rfl; (with_reducible repeat (first | refine blk_drewN ?_ _ | refine blk_drew ?_ | refine blk_alloc ?_ _)); refine blk_put (cs := #[.int .i64 t573, .int .i64 0, .int .i64 0, .int .i64 0]) ?_ 1 _ rfl; (with_reducible repeat (first | refine blk_drewN ?_ _ | refine blk_drew ?_ | refine blk_alloc ?_ _)); refine blk_put (cs := #[.int .i64 0, .int .i64 0, .int .i64 0, .int .i64 0]) ?_ 0 _ rfl; (with_reducible repeat (first | refine blk_far ?_ NB572_578.out _ | refine blk_drewN ?_ _ | refine blk_drew ?_ | refine blk_alloc ?_ _)); exact BK572.out) Tryd.underlying68 rfl (by kernel_rfl)) rfl ?_
  exact ⟨(by first | rfl | (simp [errW_none, errW_some] <;> rfl) | (simp [*, errW_none, errW_some] <;> rfl)), w4g28_⟩
 ·
  replace c3 := Bool.eq_false_iff.mpr c3
  subst c3
  rw [if_neg (show ¬ (false = true) by decide)] at H
  simp only [Option.some.injEq, Prod.mk.injEq] at H
  obtain ⟨rfl, rfl, rfl, rfl, rfl⟩ := H
  go_enter Tryd.func45, Tryd.ntmps45
  go_wp2_with (first | ((with_reducible refine gate_dst (N := 2) rfl ?_); refine be_ (N := 2) (cs := #[.int .i64 0, .int .i64 0, .int .i64 0, .int .i64 0]) (t := 68) ?_; intro gb572 hg w10 hbox hb; have BK572 := ag28_ (hbox); have GW572 := gw_ (w := w) hg w3g28_; have GE572 := gw_ (w := w) hg w3g28_; replace HB := ag28_ (below_step w3g28_ hb); clear hb hbox hg) | ((with_reducible refine gate_callee (f := 57) rfl ?_); refine goesL_ (some 8) rfl rfl Tryd.func57 (by kernel_rfl) rfl #[.slice A0 l0.length c0] rfl w6g28_ ?_; (with_reducible refine (spec_l29Run.calls k _ _ l0 t573 t574 t575 t576 false _ ?side1 ?side2 A2.out).mono ?_); (case side1 => exact w5g28_); (case side2 => exact HC0.out); rintro e w11 ⟨rfl, hb⟩; refine ⟨_, rfl, ?_⟩; replace BK572 := ag28_ (blk_below w2g28_ hb); replace HB := ag28_ (below_step w1g28_ hb); clear hb) | ((with_reducible refine gate_dst (N := 4) rfl ?_); refine be_ (N := 4) (cs := #[.int .i64 0, .int .i64 0, .int .i64 0, .int .i64 0]) (t := 68) ?_; intro gb578 hg w12 hbox hb; have BK578 := ag28_ (hbox); have GW578 := gw_ (w := w) hg w1g28_; have GE578 := gw_ (w := w) hg w1g28_; obtain ⟨NB572_578, NB578_572⟩ := nb2_ hg w2g28_; replace BK572 := ag28_ (blk_below w2g28_ hb); replace HB := ag28_ (below_step w1g28_ hb); clear hb hbox hg; have hnb13 := NB578_572.out; have hnc13 := NB572_578.out; obtain ⟨hcz14_0, hcz14_1, hcz14_2, hcz14_3⟩ := blk4 BK578.out; obtain ⟨hfz14_0, hfz14_1, hfz14_2, hfz14_3⟩ := frz4 BK578.out; obtain ⟨hcz15_0, hcz15_1, hcz15_2, hcz15_3⟩ := blk4 BK572.out; obtain ⟨hfz15_0, hfz15_1, hfz15_2, hfz15_3⟩ := frz4 BK572.out))
  refine bodyPost_ret (results_ct rfl _ _ gb572 68 #[.int .i64 0, .int .i64 0, .int .i64 0, .int .i64 0] (0, 0) _ rfl (by (with_reducible repeat (first | refine blk_drewN ?_ _ | refine blk_drew ?_ | refine blk_alloc ?_ _)); refine blk_put (cs := #[.int .i64 0, .int .i64 0, .int .i64 0, .int .i64 0]) ?_ 3 _ rfl; (with_reducible repeat (first | refine blk_drewN ?_ _ | refine blk_drew ?_ | refine blk_alloc ?_ _)); refine blk_put (cs := #[.int .i64 0, .int .i64 0, .int .i64 0, .int .i64 0]) ?_ 2 _ rfl; (with_reducible repeat (first | refine blk_drewN ?_ _ | refine blk_drew ?_ | refine blk_alloc ?_ _)); refine blk_put (cs := #[.int .i64 0, .int .i64 0, .int .i64 0, .int .i64 0]) ?_ 1 _ rfl; (with_reducible repeat (first | refine blk_drewN ?_ _ | refine blk_drew ?_ | refine blk_alloc ?_ _)); refine blk_put (cs := #[.int .i64 0, .int .i64 0, .int .i64 0, .int .i64 0]) ?_ 0 _ rfl; (with_reducible repeat (first | refine blk_far ?_ NB572_578.out _ | refine blk_drewN ?_ _ | refine blk_drew ?_ | refine blk_alloc ?_ _)); exact BK572.out) Tryd.underlying68 rfl (by kernel_rfl)) rfl ?_
  exact ⟨(by first | rfl | (simp [errW_none, errW_some] <;> rfl) | (simp [*, errW_none, errW_some] <;> rfl)), w4g28_⟩
def impl_Entry.f (l0 : List S70) : Option (List S70) := if l0.length ≤ 8796093022208 then some l0 else none
theorem ag29_ {p : Prop} (h : p) : Aside0 p := ⟨h⟩
set_option maxHeartbeats 4000000 in
theorem impl_Entry.calls (A0 : Option Addr) (c0 : Nat) (l0 : List S70) (r : List S70) (w : World) (hr0 : Kd.C k70 w A0 l0.length l0) (hc0 : l0.length ≤ c0) (h : impl_Entry.f l0 = some r) :
 Calls Tryd.prog 112 #[.slice A0 l0.length c0] w fun e w' => ∃ v0_ : Value, e = .returned (v0_) ∧ Kd.R k70 70 w' w.heap.size (fun _ => True) v0_ r ∧ Below w.heap.size w w' := by
 unfold impl_Entry.f at h
 split at h
 ·
  rename_i hlim
  obtain rfl := Option.some.inj h; clear h; have HLM := ag29_ hlim; have HR0 := ag29_ hr0; clear hlim hc0
  cases A0 with
  | none =>
   have hl : l0 = [] := by
    obtain ⟨_, _, h2⟩ := hr0
    rcases Nat.eq_zero_or_pos l0.length with h0 | h0
    ·
     exact List.length_eq_zero_iff.1 h0
    ·
     obtain ⟨ad, e, _⟩ := h2 h0; cases e
   subst hl; clear hr0; have heq := fun (w : World) (n c : Nat) => eql_nil (P := Tryd.prog) w 22 70 none n c Tryd.underlying22
   go_enter Tryd.func112, Tryd.ntmps112
   go_wp2
   go_ret
   exact ⟨_, rfl, Kd.R_nil _ _ _ _ _, Below.refl _ _⟩
  | some ad =>
   clear hr0; have HB := ag29_ (Below.refl w.heap.size w); have heq := fun (w : World) (n c : Nat) => eql_nil (P := Tryd.prog) w 22 70 (some ad) n c Tryd.underlying22
   go_enter Tryd.func112, Tryd.ntmps112
   go_wp2_with (first | ((with_reducible refine gate_dst (N := 5) rfl ?_); refine Kd.R_lit k70 w.heap.size 70 ?hg (N := 5) ?hd (xs := ([] : List S70)) (inner := []) (ok := fun _ => True) (okp := fun _ => True) ?hr ?hp (fun _ hk => hk) trivial HB.out (Nat.le_refl _) (by simp) ?_; (case hd => rfl); (case hg => rfl); (case hr => first | (go_simp; done) | (go_simp; rfl)); (case hp => exact (Reps.none _ _)); intro v280 w9 ho10 hb hg_ hnew_; clear hg_ hnew_; clear HB; have HB := ag29_ hb; have HO := ag29_ ho10; clear hb ho10) | ((with_reducible refine gate_builtin (b := .append) (xs := #[.tmp 5, .tmp 6]) rfl ?_); at_builtin; refine Kd.R_append_rows k70 (w0 := w) w.heap.size rfl (.tmp 5) (.tmp 6) 22 70 (.agg #[(.int .i64 0), (.int .i64 0)]) 16 rfl Tryd.underlying22 info70 rfl (by decide) (by omega) v280 [] l0 _ _ _ (fun _ => True) (fun _ => False) rfl rfl ?aO ?aR (fun _ _ h => h) (fun _ h => h.elim) ?aF ?aB ?aS ?aL ?_; (case aR => exact (Kd.C_below HR0.out HB.out)); (case aB => exact HB.out); (case aF => exact (fun _ _ => trivial)); (case aO => exact HO.out); (case aS => exact (below_size HB.out)); (case aL => have := HLM.out; simp; omega); intro v283 w11 ho hb hg hat; clear hg hat; clear HB; have HB := ag29_ hb; have HO2 := ag29_ ho; clear ho hb))
   go_ret
   exact ⟨_, rfl, (by simpa using HO2.out), HB.out⟩
 ·
  cases h
end Go.Proofs.YtoiioapkebglgaaDoor.PG
end
