-- Gathered by this session's program wip/tool/shake.py out of its own texts and of what the kit's print and the session's patches of it wrote for this claim.
import Derived.Lib.AppendIntMem
import Derived.Lib.ItoaNum
import Derived.Test.YtjnacjdpggpiiaaDoorCFnDiagnosed6
import Derived.Test.YtjnacjdpggpiiaaDoorCFnDiagnosed17
section
namespace Go.Proofs.YtjnacjdpggpiiaaDoor.PU
open Go.RowKit Go.Proofs.YtjnacjdpggpiiaaDoorW.PrintWords Go.Proofs.YtjnacjdpggpiiaaDoorW.PrintLast Go.Proofs.YtjnacjdpggpiiaaDoorW.PrintMore
attribute [local go_sem] max2_int min2_int max_two min_two max_three min_three max_four min_four   -- for this text's walks alone
set_option linter.unusedVariables false
set_option linter.unusedSimpArgs false
/-- The table of powers of ten reads as the program's text lays it. -/
def TabW (w : World) : Prop := Lib.TabIs Tryd.prog w "internal/strconv.uint64pow10" .u64 Lib.pow10Tab
theorem tabw_below {w w' : World} (h : TabW w) (hb : Below w.heap.size w w') : TabW w' := Lib.tabBelow_of_tabIs h w' hb
/-- The decimal text of a number. -/
def itoaB (n : Int) : ByteArray := ⟨(Lib.itoa n).toArray⟩
def strconv_FormatInt.f (a0 : Int) (a1 : Int) : Option ByteArray := if -9223372036854775808 ≤ a0 ∧ a0 ≤ 9223372036854775807 ∧ a1 = 10 then some (itoaB a0) else none
theorem strconv_FormatInt.calls (a0 : Int) (a1 : Int) (r : ByteArray) (w : World) (h : strconv_FormatInt.f a0 a1 = some r) (hT : TabW w) :
    Calls Tryd.prog 50 #[.int .i64 a0, .int .i64 a1] w fun e w' => e = .returned (.string r) ∧ Below w.heap.size w w' := by
  unfold strconv_FormatInt.f at h
  by_cases hc : -9223372036854775808 ≤ a0 ∧ a0 ≤ 9223372036854775807 ∧ a1 = 10
  · rw [if_pos hc] at h
    obtain rfl := Option.some.inj h
    obtain ⟨h0, h1, rfl⟩ := hc
    refine (Go.Proofs.Tryd.strconv_FormatInt_10 a0 h0 h1 w hT).mono ?_
    rintro e w' ⟨rfl, k, os, rfl⟩
    exact ⟨rfl, Lib.below_grow _ w (Nat.le_refl _) k os⟩
  · rw [if_neg hc] at h; cases h
def impl_decimal.f (a0 : Int) : Option (ByteArray) := (strconv_FormatInt.f a0 10).bind fun t465 => (some t465)
set_option maxHeartbeats 8000000 in
set_option maxRecDepth 100000 in
theorem impl_decimal.calls (a0 : Int) (r : ByteArray) (w : World) (h : impl_decimal.f a0 = some r) (hT : TabW w) :
    Calls Tryd.prog 27 #[.int .i64 a0] w fun e w' => e = .returned (.string r) ∧ Below w.heap.size w w' := by
  have HT := Aside0.mk hT
  clear hT
  have HB := Aside0.mk (Below.refl w.heap.size w)
  have H : ((strconv_FormatInt.f a0 10).bind fun t465 => (some t465)) = some r := h
  clear h
  replace H := Option.bind_eq_some_iff.mp H
  obtain ⟨t465, A20, H⟩ := H
  replace H : (some t465) = some r := H
  have A2 := Aside0.mk A20
  clear A20
  obtain rfl := Option.some.inj H
  go_enter Tryd.func27, Tryd.ntmps27
  go_wp2_with (first | ((with_reducible refine gate_callee (f := 50) rfl ?_); refine goesL_ (some 4) rfl rfl Tryd.func50 (by kernel_rfl) rfl #[.int .i64 a0, .int .i64 10] rfl (by (try simp only [List.map_toArray, List.map_cons, List.map_nil]); first | done | rfl | (simp only [List.length_drop, List.length_take]; rfl)) ?_; (with_reducible refine (strconv_FormatInt.calls a0 10 t465 _ A2.out (tabw_below HT.out (by repeat (first | (with_reducible first | exact HB.out | apply below_alloc | apply pw_below_drewN | apply below_drew1) | exact HB.out)))).mono ?_); rintro e w3 ⟨rfl, hb⟩; refine ⟨_, rfl, ?_⟩; have n0_ := Aside0.mk (below_step (by repeat (first | (with_reducible first | exact HB.out | apply below_alloc | apply pw_below_drewN | apply below_drew1) | exact HB.out)) hb); clear HB; have HB := n0_; clear n0_; (try clear hb); (try clear hb2); (try clear hk); (try clear hi)))
  go_ret
  exact ⟨by first | rfl | (simp [errW_none, errW_some] <;> rfl) | (simp [*, errW_none, errW_some] <;> rfl), by repeat (first | (with_reducible first | exact HB.out | apply below_alloc | apply pw_below_drewN | apply below_drew1) | exact HB.out)⟩
end Go.Proofs.YtjnacjdpggpiiaaDoor.PU
end
section
namespace Go.Proofs.YtjnacjdpggpiiaaDoor.PU
open Go.RowKit Go.Proofs.YtjnacjdpggpiiaaDoorW.PrintWords Go.Proofs.YtjnacjdpggpiiaaDoorW.PrintLast Go.Proofs.YtjnacjdpggpiiaaDoorW.PrintMore
attribute [local go_sem] max2_int min2_int max_two min_two max_three min_three max_four min_four   -- for this text's walks alone
set_option linter.unusedVariables false
set_option linter.unusedSimpArgs false
mutual
def impl_KindsText.j0 : Nat → List Int → Bool → Option (ByteArray × Int)
  | 0, _, _ => none
  | k + 1, x0, x15 => if x15 = true then (some ((⟨#[]⟩ : ByteArray), 2)) else (impl_KindsText.l0 k (([(⟨#[]⟩ : ByteArray), (⟨#[109, 105, 115, 115, 105, 110, 103]⟩ : ByteArray), (⟨#[100, 111, 117, 98, 108, 101]⟩ : ByteArray), (⟨#[116, 117, 114, 110, 101, 100]⟩ : ByteArray), (⟨#[119, 114, 111, 110, 103]⟩ : ByteArray)] : List ByteArray)) (⟨#[]⟩ : ByteArray) x0 (x0.length : Int) 0)
def impl_KindsText.l0 : Nat → List ByteArray → ByteArray → List Int → Int → Int → Option (ByteArray × Int)
  | 0, _, _, _, _, _ => none
  | k + 1, x4, x5, x17, x18, x19 => if x19 < x18 then (if 0 ≤ x19 then (if x19 < (x17.length : Int) then (if (rd x17 x19) > 0 then ((impl_decimal.f x19).bind fun t471 => (if 8 + t471.size ≤ 9223372036854775807 then (if ((⟨#[115, 116, 97, 116, 105, 111, 110, 32]⟩ : ByteArray) ++ t471).size + 1 ≤ 9223372036854775807 then (if 0 ≤ (rd x17 x19) then (if (rd x17 x19) < (x4.length : Int) then (if (((⟨#[115, 116, 97, 116, 105, 111, 110, 32]⟩ : ByteArray) ++ t471) ++ (⟨#[32]⟩ : ByteArray)).size + (rdOf ByteArray.empty x4 (rd x17 x19)).size ≤ 9223372036854775807 then (if ((((⟨#[115, 116, 97, 116, 105, 111, 110, 32]⟩ : ByteArray) ++ t471) ++ (⟨#[32]⟩ : ByteArray)) ++ (rdOf ByteArray.empty x4 (rd x17 x19))).size + 1 ≤ 9223372036854775807 then (if x5.size + (((((⟨#[115, 116, 97, 116, 105, 111, 110, 32]⟩ : ByteArray) ++ t471) ++ (⟨#[32]⟩ : ByteArray)) ++ (rdOf ByteArray.empty x4 (rd x17 x19))) ++ (⟨#[10]⟩ : ByteArray)).size ≤ 9223372036854775807 then (impl_KindsText.l0 k x4 (x5 ++ (((((⟨#[115, 116, 97, 116, 105, 111, 110, 32]⟩ : ByteArray) ++ t471) ++ (⟨#[32]⟩ : ByteArray)) ++ (rdOf ByteArray.empty x4 (rd x17 x19))) ++ (⟨#[10]⟩ : ByteArray))) x17 x18 (wrap64 (x19 + 1))) else (none)) else (none)) else (none)) else (none)) else (none)) else (none)) else (none))) else (impl_KindsText.l0 k x4 x5 x17 x18 (wrap64 (x19 + 1)))) else (none)) else (none)) else (if x5.toList = ([] : List UInt8) then (some ((⟨#[114, 105, 103, 104, 116, 10]⟩ : ByteArray), 0)) else (some (x5, 0)))
end
def impl_KindsText.f (k : Nat) (l0 : List Int) : Option (ByteArray × Int) := if (l0.length : Int) > 12 then (impl_KindsText.j0 k l0 true) else ((impl_allIn.f l0 0 4).bind fun t466 => (impl_KindsText.j0 k l0 (!t466)))
def impl_KindsText.T8 : Bool × List (List Nat × List Nat) := (true, [([], []), ([], []), ([1], [1]), ([2], [2]), ([3], [3]), ([], []), ([], []), ([5, 6], [5, 6]), ([7], [7]), ([4, 8], [4, 8]), ([9], [9]), ([0, 10], [0, 10]), ([11, 2, 0, 1, 2, 3, 4, 5, 6, 7, 8, 9, 10, 11], [0, 11])])
def impl_KindsText.B8 : List Nat := [0, 0, 2, 6, 14, 0, 0, 96, 224, 510, 1022, 2047, 4095]
theorem impl_KindsText.tab8 : rtab .any (opsOf Tryd.f11 8) = impl_KindsText.T8 := by kernel_rfl
theorem impl_KindsText.bits8 : waitsOk impl_KindsText.T8.2 impl_KindsText.B8 = true := by kernel_rfl
set_option maxHeartbeats 8000000 in
set_option maxRecDepth 100000 in
theorem impl_KindsText.calls (k : Nat) (A0 : Option Addr) (c0 : Nat) (l0 : List Int) (r1 : ByteArray) (r2 : Int) (w : World) (hr0 : Kd.C (Kd.int .i64) w A0 l0.length l0) (hc0 : l0.length ≤ c0) (h : impl_KindsText.f k l0 = some (r1, r2)) (hT : TabW w) :
    Calls Tryd.prog 11 #[.slice A0 l0.length c0] w fun e w' => e = .returned (.tuple #[.string r1, .int .i64 r2]) ∧ Below w.heap.size w w' := by
  have HT := Aside0.mk hT
  clear hT
  have HR0 := Aside0.mk hr0
  have HC0 := Aside0.mk hc0
  clear hr0 hc0
  have HB := Aside0.mk (Below.refl w.heap.size w)
  have H : (if (l0.length : Int) > 12 then (impl_KindsText.j0 k l0 true) else ((impl_allIn.f l0 0 4).bind fun t466 => (impl_KindsText.j0 k l0 (!t466)))) = some (r1, r2) := h
  clear h
  have HC2 := Aside0.mk H
  clear H
  go_enter Tryd.func11, Tryd.ntmps11
  go_upto_region 1 with (fail)
  go_cut [15] (fun v15 wc => ∃ (kq : Nat) (x15_1 : Bool), v15 = .bool x15_1 ∧ Aside0 (impl_KindsText.j0 kq l0 x15_1 = some (r1, r2)) ∧ Aside0 (kq ≤ k) ∧ Aside0 (Below w.heap.size w wc))
  case first =>
    have H := HC2.out
    clear HC2
    by_cases c3 : (l0.length : Int) > 12
    · rw [if_pos c3] at H
      have c3b0 : decide (12 < (l0.length : Int)) = true := decide_eq_true c3
      have c3b1 : decide (12 < l0.length) = true := decide_eq_true (by omega)
      clear c3
      (first | rw [c3b0] | (simp only [i64_w, i32_w]; rw [c3b0]) | skip)
      have H' := Aside0.mk H
      clear H
      go_wp2
      go_meet
      case rel => exact ⟨_, (true), (by first | rfl | (simp; done) | (simp [*]; done)), H', ⟨by first | omega | exact Nat.le_refl _⟩, ⟨by repeat (first | (with_reducible first | exact HB.out | apply below_alloc | apply pw_below_drewN | apply below_drew1) | exact HB.out)⟩⟩
    · rw [if_neg c3] at H
      have c3b0 : decide (12 < (l0.length : Int)) = false := decide_eq_false c3
      have c3b1 : decide (12 < l0.length) = false := decide_eq_false (by omega)
      clear c3
      (first | rw [c3b0] | (simp only [i64_w, i32_w]; rw [c3b0]) | skip)
      replace H := Option.bind_eq_some_iff.mp H
      obtain ⟨t466, A40, H⟩ := H
      replace H : (impl_KindsText.j0 k l0 (!t466)) = some (r1, r2) := H
      have A4 := Aside0.mk A40
      clear A40
      have H' := Aside0.mk H
      clear H
      go_wp2_with (first | (go_at_call 26; (with_reducible refine (impl_allIn.calls _ _ l0 0 4 t466 _ ?side1 ?side2 A4.out).mono ?_); (case side1 => repeat (first | exact (Kd.C_below HR0.out HB.out) | (with_reducible refine Kd.C_alloc ?_ _) | (with_reducible refine Kd.C_drewN ?_ _) | (with_reducible refine Kd.C_drew ?_))); (case side2 => exact HC0.out); rintro e w5 ⟨rfl, hb⟩; have n0_ := Aside0.mk (below_step (by repeat (first | (with_reducible first | exact HB.out | apply below_alloc | apply pw_below_drewN | apply below_drew1) | exact HB.out)) hb); clear HB; have HB := n0_; clear n0_; (try clear hb); (try clear hb2); (try clear hk); (try clear hi)))
      go_meet
      case rel => exact ⟨_, (!t466), (by first | rfl | (simp; done) | (simp [*]; done)), H', ⟨by first | omega | exact Nat.le_refl _⟩, ⟨by repeat (first | (with_reducible first | exact HB.out | apply below_alloc | apply pw_below_drewN | apply below_drew1) | exact HB.out)⟩⟩
  case rest =>
    clear HC2
    try clear c1
    try clear p2
    try clear c3
    try clear c3b0
    try clear c3b1
    obtain ⟨kq, x15_1, rfl, HA, HJ1, HB⟩ := hcut
    cases kq with
    | zero => exact absurd HA.out (by simp [impl_KindsText.j0])
    | succ kj1 =>
      have H := HA.out
      clear HA
      simp only [impl_KindsText.j0] at H
      by_cases c6 : x15_1 = true
      · subst c6
        have H1 : (some ((⟨#[]⟩ : ByteArray), 2)) = some (r1, r2) := by rw [if_pos rfl] at H; exact H
        clear H
        have H := H1
        clear H1
        simp only [Option.some.injEq, Prod.mk.injEq] at H
        obtain ⟨rfl, rfl⟩ := H
        go_wp2
        go_ret2
        exact ⟨by first | rfl | (simp [errW_none, errW_some] <;> rfl) | (simp [*, errW_none, errW_some] <;> rfl), by repeat (first | (with_reducible first | exact HB.out | apply below_alloc | apply pw_below_drewN | apply below_drew1) | exact HB.out)⟩
      · replace c6 := Bool.eq_false_iff.mpr c6
        subst c6
        have H1 : (impl_KindsText.l0 kj1 (([(⟨#[]⟩ : ByteArray), (⟨#[109, 105, 115, 115, 105, 110, 103]⟩ : ByteArray), (⟨#[100, 111, 117, 98, 108, 101]⟩ : ByteArray), (⟨#[116, 117, 114, 110, 101, 100]⟩ : ByteArray), (⟨#[119, 114, 111, 110, 103]⟩ : ByteArray)] : List ByteArray)) (⟨#[]⟩ : ByteArray) l0 (l0.length : Int) 0) = some (r1, r2) := by rw [if_neg (show ¬ (false = true) by decide)] at H; exact H
        clear H
        have H := H1
        clear H1
        obtain ⟨y467, hy467⟩ : ∃ y_ : List ByteArray, y_ = (([(⟨#[]⟩ : ByteArray), (⟨#[109, 105, 115, 115, 105, 110, 103]⟩ : ByteArray), (⟨#[100, 111, 117, 98, 108, 101]⟩ : ByteArray), (⟨#[116, 117, 114, 110, 101, 100]⟩ : ByteArray), (⟨#[119, 114, 111, 110, 103]⟩ : ByteArray)] : List ByteArray)) := ⟨_, rfl⟩
        replace H : (impl_KindsText.l0 kj1 y467 (⟨#[]⟩ : ByteArray) l0 (l0.length : Int) 0) = some (r1, r2) := by first | (rw [hy467]; with_reducible exact H) | (have H2_ := (Option.bind_some _ _).symm.trans H; rw [hy467]; with_reducible exact H2_) | (have H2_ := (Option.bind_some _ _).symm.trans H; with_reducible exact H2_) | with_reducible exact H | (rw [hy467]; exact H) | exact H
        have Ny467 := Aside0.mk hy467
        clear hy467
        have H' := Aside0.mk H
        clear H
        go_wp2_with (first | ((with_reducible refine gate_dst (N := 16) rfl ?_); refine Kd.R_lit Kd.string _ 9 ?hg (N := 16) ?hd (xs := ([(⟨#[]⟩ : ByteArray), (⟨#[109, 105, 115, 115, 105, 110, 103]⟩ : ByteArray), (⟨#[100, 111, 117, 98, 108, 101]⟩ : ByteArray), (⟨#[116, 117, 114, 110, 101, 100]⟩ : ByteArray), (⟨#[119, 114, 111, 110, 103]⟩ : ByteArray)] : List ByteArray)) (inner := [.string (⟨#[]⟩ : ByteArray), .string (⟨#[109, 105, 115, 115, 105, 110, 103]⟩ : ByteArray), .string (⟨#[100, 111, 117, 98, 108, 101]⟩ : ByteArray), .string (⟨#[116, 117, 114, 110, 101, 100]⟩ : ByteArray), .string (⟨#[119, 114, 111, 110, 103]⟩ : ByteArray)]) (ok := fun _ => True) (okp := fun _ => True) ?hr ?hp (fun _ hk => hk) trivial (Below.refl _ _) (Nat.le_refl _) (by simp) ?_; (case hd => rfl); (case hg => rfl); (case hr => first | (go_simp; done) | (go_simp; rfl)); (case hp => exact (Reps.one (show Kd.M Kd.string _ _ _ (⟨#[]⟩ : ByteArray) [.string (⟨#[]⟩ : ByteArray)] from rfl) (Reps.one (show Kd.M Kd.string _ _ _ (⟨#[109, 105, 115, 115, 105, 110, 103]⟩ : ByteArray) [.string (⟨#[109, 105, 115, 115, 105, 110, 103]⟩ : ByteArray)] from rfl) (Reps.one (show Kd.M Kd.string _ _ _ (⟨#[100, 111, 117, 98, 108, 101]⟩ : ByteArray) [.string (⟨#[100, 111, 117, 98, 108, 101]⟩ : ByteArray)] from rfl) (Reps.one (show Kd.M Kd.string _ _ _ (⟨#[116, 117, 114, 110, 101, 100]⟩ : ByteArray) [.string (⟨#[116, 117, 114, 110, 101, 100]⟩ : ByteArray)] from rfl) (Reps.one (show Kd.M Kd.string _ _ _ (⟨#[119, 114, 111, 110, 103]⟩ : ByteArray) [.string (⟨#[119, 114, 111, 110, 103]⟩ : ByteArray)] from rfl) (Reps.none _ _))))))); intro v468 w7 ho8 hb hg_ hnew_; clear hg_ hnew_; (first | rw [← Ny467.out] at ho8 | (simp only [Int.reduceToNat] at ho8; rw [← Ny467.out] at ho8)); have n0_ := Aside0.mk (Kd.R_lower ho8 (below_size (by repeat (first | (with_reducible first | exact HB.out | apply below_alloc | apply pw_below_drewN | apply below_drew1) | exact HB.out)))); have n1_ := Aside0.mk (below_step (by repeat (first | (with_reducible first | exact HB.out | apply below_alloc | apply pw_below_drewN | apply below_drew1) | exact HB.out)) hb); clear HB; have HO469 := n0_; have HB := n1_; clear n0_ n1_; clear hb ho8))
        go_loopg [5, 19] kj1 (fun kq v5 v19 w' => ∃ (x5_2 : ByteArray) (x19_2 : Int), v5 = .string x5_2 ∧ v19 = .int .i64 x19_2 ∧ Aside0 (impl_KindsText.l0 kq y467 x5_2 l0 (l0.length : Int) x19_2 = some (r1, r2)) ∧ Aside0 (kq ≤ kj1) ∧ Aside0 (Kd.R Kd.string 9 w' w.heap.size (fun _ => True) v468 y467) ∧ Aside0 (Below w.heap.size w w'))
        case atStart => exact ⟨((⟨#[]⟩ : ByteArray)), (0), (by first | rfl | (simp; done) | (simp [*]; done)), (by first | rfl | (simp; done) | (simp [*]; done)), H', ⟨Nat.le_refl _⟩, ⟨by (with_reducible repeat (first | apply Kd.R_alloc | apply Kd.R_drewN | apply Kd.R_drew)); exact HO469.out⟩, ⟨by repeat (first | (with_reducible first | exact HB.out | apply below_alloc | apply pw_below_drewN | apply below_drew1) | exact HB.out)⟩⟩
        case round =>
          clear H'
          try clear c1
          try clear p2
          try clear c3
          try clear c3b0
          try clear c3b1
          try clear c6
          try clear p2
          obtain ⟨x5_2, x19_2, rfl, rfl, HA, HK2, HO_4, HB⟩ := hrel
          cases gk with
          | zero => exact absurd HA.out (by simp [impl_KindsText.l0])
          | succ k2 =>
            have H := HA.out
            clear HA
            simp only [impl_KindsText.l0] at H
            by_cases c9 : x19_2 < (l0.length : Int)
            · rw [if_pos c9] at H
              have c9b0 : decide (x19_2 < (l0.length : Int)) = true := decide_eq_true c9
              clear c9
              by_cases c10 : 0 ≤ x19_2
              · rw [if_pos c10] at H
                have c10b0 : decide (0 ≤ x19_2) = true := decide_eq_true c10
                clear c10
                by_cases c11 : x19_2 < (l0.length : Int)
                · rw [if_pos c11] at H
                  have c11b0 : decide (x19_2 < (l0.length : Int)) = true := decide_eq_true c11
                  clear c11
                  by_cases c12 : (rd l0 x19_2) > 0
                  · rw [if_pos c12] at H
                    have c12b0 : decide (0 < (rd l0 x19_2)) = true := decide_eq_true c12
                    clear c12
                    replace H := Option.bind_eq_some_iff.mp H
                    obtain ⟨t471, A130, H⟩ := H
                    replace H : (if 8 + t471.size ≤ 9223372036854775807 then (if ((⟨#[115, 116, 97, 116, 105, 111, 110, 32]⟩ : ByteArray) ++ t471).size + 1 ≤ 9223372036854775807 then (if 0 ≤ (rd l0 x19_2) then (if (rd l0 x19_2) < (y467.length : Int) then (if (((⟨#[115, 116, 97, 116, 105, 111, 110, 32]⟩ : ByteArray) ++ t471) ++ (⟨#[32]⟩ : ByteArray)).size + (rdOf ByteArray.empty y467 (rd l0 x19_2)).size ≤ 9223372036854775807 then (if ((((⟨#[115, 116, 97, 116, 105, 111, 110, 32]⟩ : ByteArray) ++ t471) ++ (⟨#[32]⟩ : ByteArray)) ++ (rdOf ByteArray.empty y467 (rd l0 x19_2))).size + 1 ≤ 9223372036854775807 then (if x5_2.size + (((((⟨#[115, 116, 97, 116, 105, 111, 110, 32]⟩ : ByteArray) ++ t471) ++ (⟨#[32]⟩ : ByteArray)) ++ (rdOf ByteArray.empty y467 (rd l0 x19_2))) ++ (⟨#[10]⟩ : ByteArray)).size ≤ 9223372036854775807 then (impl_KindsText.l0 k2 y467 (x5_2 ++ (((((⟨#[115, 116, 97, 116, 105, 111, 110, 32]⟩ : ByteArray) ++ t471) ++ (⟨#[32]⟩ : ByteArray)) ++ (rdOf ByteArray.empty y467 (rd l0 x19_2))) ++ (⟨#[10]⟩ : ByteArray))) l0 (l0.length : Int) (wrap64 (x19_2 + 1))) else (none)) else (none)) else (none)) else (none)) else (none)) else (none)) else (none)) = some (r1, r2) := H
                    have A13 := Aside0.mk A130
                    clear A130
                    by_cases c14 : 8 + t471.size ≤ 9223372036854775807
                    · rw [if_pos c14] at H
                      have c14b0 := eq_true c14
                      have c14b1 : decide (8 + t471.size ≤ 9223372036854775807) = true := decide_eq_true c14
                      try have c14b2 : (9223372036854775807 < 8 + t471.size) = False := eq_false (Nat.not_lt.2 c14)
                      by_cases c15 : ((⟨#[115, 116, 97, 116, 105, 111, 110, 32]⟩ : ByteArray) ++ t471).size + 1 ≤ 9223372036854775807
                      · rw [if_pos c15] at H
                        have c15b0 := eq_true c15
                        have c15b1 : decide (((⟨#[115, 116, 97, 116, 105, 111, 110, 32]⟩ : ByteArray) ++ t471).size + 1 ≤ 9223372036854775807) = true := decide_eq_true c15
                        try have c15b1s := c15b1
                        try simp only [ByteArray.size_append, show (⟨#[115, 116, 97, 116, 105, 111, 110, 32]⟩ : ByteArray).size = 8 from rfl] at c15b1s
                        try have c15b2 : (9223372036854775807 < ((⟨#[115, 116, 97, 116, 105, 111, 110, 32]⟩ : ByteArray) ++ t471).size + 1) = False := eq_false (Nat.not_lt.2 c15)
                        try have c15b2s := c15b2
                        try simp only [ByteArray.size_append, show (⟨#[115, 116, 97, 116, 105, 111, 110, 32]⟩ : ByteArray).size = 8 from rfl] at c15b2s
                        by_cases c16 : 0 ≤ (rd l0 x19_2)
                        · rw [if_pos c16] at H
                          have c16b0 : decide (0 ≤ (rd l0 x19_2)) = true := decide_eq_true c16
                          clear c16
                          by_cases c17 : (rd l0 x19_2) < (y467.length : Int)
                          · rw [if_pos c17] at H
                            have c17b0 : decide ((rd l0 x19_2) < (y467.length : Int)) = true := decide_eq_true c17
                            clear c17
                            by_cases c18 : (((⟨#[115, 116, 97, 116, 105, 111, 110, 32]⟩ : ByteArray) ++ t471) ++ (⟨#[32]⟩ : ByteArray)).size + (rdOf ByteArray.empty y467 (rd l0 x19_2)).size ≤ 9223372036854775807
                            · rw [if_pos c18] at H
                              have c18b0 := eq_true c18
                              have c18b1 : decide ((((⟨#[115, 116, 97, 116, 105, 111, 110, 32]⟩ : ByteArray) ++ t471) ++ (⟨#[32]⟩ : ByteArray)).size + (rdOf ByteArray.empty y467 (rd l0 x19_2)).size ≤ 9223372036854775807) = true := decide_eq_true c18
                              try have c18b1s := c18b1
                              try simp only [ByteArray.size_append, show (⟨#[115, 116, 97, 116, 105, 111, 110, 32]⟩ : ByteArray).size = 8 from rfl, show (⟨#[32]⟩ : ByteArray).size = 1 from rfl] at c18b1s
                              try have c18b2 : (9223372036854775807 < (((⟨#[115, 116, 97, 116, 105, 111, 110, 32]⟩ : ByteArray) ++ t471) ++ (⟨#[32]⟩ : ByteArray)).size + (rdOf ByteArray.empty y467 (rd l0 x19_2)).size) = False := eq_false (Nat.not_lt.2 c18)
                              try have c18b2s := c18b2
                              try simp only [ByteArray.size_append, show (⟨#[115, 116, 97, 116, 105, 111, 110, 32]⟩ : ByteArray).size = 8 from rfl, show (⟨#[32]⟩ : ByteArray).size = 1 from rfl] at c18b2s
                              by_cases c19 : ((((⟨#[115, 116, 97, 116, 105, 111, 110, 32]⟩ : ByteArray) ++ t471) ++ (⟨#[32]⟩ : ByteArray)) ++ (rdOf ByteArray.empty y467 (rd l0 x19_2))).size + 1 ≤ 9223372036854775807
                              · rw [if_pos c19] at H
                                have c19b0 := eq_true c19
                                have c19b1 : decide (((((⟨#[115, 116, 97, 116, 105, 111, 110, 32]⟩ : ByteArray) ++ t471) ++ (⟨#[32]⟩ : ByteArray)) ++ (rdOf ByteArray.empty y467 (rd l0 x19_2))).size + 1 ≤ 9223372036854775807) = true := decide_eq_true c19
                                try have c19b1s := c19b1
                                try simp only [ByteArray.size_append, show (⟨#[115, 116, 97, 116, 105, 111, 110, 32]⟩ : ByteArray).size = 8 from rfl, show (⟨#[32]⟩ : ByteArray).size = 1 from rfl] at c19b1s
                                try have c19b2 : (9223372036854775807 < ((((⟨#[115, 116, 97, 116, 105, 111, 110, 32]⟩ : ByteArray) ++ t471) ++ (⟨#[32]⟩ : ByteArray)) ++ (rdOf ByteArray.empty y467 (rd l0 x19_2))).size + 1) = False := eq_false (Nat.not_lt.2 c19)
                                try have c19b2s := c19b2
                                try simp only [ByteArray.size_append, show (⟨#[115, 116, 97, 116, 105, 111, 110, 32]⟩ : ByteArray).size = 8 from rfl, show (⟨#[32]⟩ : ByteArray).size = 1 from rfl] at c19b2s
                                by_cases c20 : x5_2.size + (((((⟨#[115, 116, 97, 116, 105, 111, 110, 32]⟩ : ByteArray) ++ t471) ++ (⟨#[32]⟩ : ByteArray)) ++ (rdOf ByteArray.empty y467 (rd l0 x19_2))) ++ (⟨#[10]⟩ : ByteArray)).size ≤ 9223372036854775807
                                · rw [if_pos c20] at H
                                  have c20b0 := eq_true c20
                                  have c20b1 : decide (x5_2.size + (((((⟨#[115, 116, 97, 116, 105, 111, 110, 32]⟩ : ByteArray) ++ t471) ++ (⟨#[32]⟩ : ByteArray)) ++ (rdOf ByteArray.empty y467 (rd l0 x19_2))) ++ (⟨#[10]⟩ : ByteArray)).size ≤ 9223372036854775807) = true := decide_eq_true c20
                                  try have c20b1s := c20b1
                                  try simp only [ByteArray.size_append, show (⟨#[115, 116, 97, 116, 105, 111, 110, 32]⟩ : ByteArray).size = 8 from rfl, show (⟨#[32]⟩ : ByteArray).size = 1 from rfl, show (⟨#[10]⟩ : ByteArray).size = 1 from rfl] at c20b1s
                                  try have c20b2 : (9223372036854775807 < x5_2.size + (((((⟨#[115, 116, 97, 116, 105, 111, 110, 32]⟩ : ByteArray) ++ t471) ++ (⟨#[32]⟩ : ByteArray)) ++ (rdOf ByteArray.empty y467 (rd l0 x19_2))) ++ (⟨#[10]⟩ : ByteArray)).size) = False := eq_false (Nat.not_lt.2 c20)
                                  try have c20b2s := c20b2
                                  try simp only [ByteArray.size_append, show (⟨#[115, 116, 97, 116, 105, 111, 110, 32]⟩ : ByteArray).size = 8 from rfl, show (⟨#[32]⟩ : ByteArray).size = 1 from rfl, show (⟨#[10]⟩ : ByteArray).size = 1 from rfl] at c20b2s
                                  have H' := Aside0.mk H
                                  clear H
                                  have p470 : 0 ≤ (x19_2 : Int) := of_decide_eq_true (by first | (with_reducible assumption) | assumption)
                                  have q470 : x19_2 < (l0.length : Int) := of_decide_eq_true (by first | (with_reducible assumption) | assumption)
                                  obtain ⟨ad470, e470, hx470_0⟩ := Kd.at_int HR0.out x19_2 p470 q470
                                  cases e470
                                  replace hx470_0 := (HB.out.cell (World.block_lt_of_cell? _ _ hx470_0)).trans hx470_0
                                  replace p470 := eq_true p470
                                  replace q470 := eq_true q470
                                  try go_wp2
                                  have n0_ := Aside0.mk (Kd.R_drew HO_4.out)
                                  have n1_ := Aside0.mk (below_drew1 HB.out)
                                  clear HO_4
                                  clear HB
                                  have HO_4 := n0_
                                  have HB := n1_
                                  clear n0_ n1_
                                  obtain ⟨Ao22, co22, eo22⟩ := Kd.R_slice HO_4.out
                                  (first | subst eo22 | (injection eo22 with f1_ f2_ f3_; have f4_ := f1_.symm; have f5_ := f3_.symm; clear f1_ f2_ f3_; subst f4_; subst f5_))
                                  have p472 : 0 ≤ ((rd l0 x19_2) : Int) := of_decide_eq_true (by first | (with_reducible assumption) | assumption)
                                  have q472 : (rd l0 x19_2) < (y467.length : Int) := of_decide_eq_true (by first | (with_reducible assumption) | assumption)
                                  obtain ⟨ad472, e472, hx472_0⟩ := Kd.at_string (Kd.R_reads' HO_4.out).2.2 (rd l0 x19_2) p472 q472
                                  cases e472
                                  replace p472 := eq_true p472
                                  replace q472 := eq_true q472
                                  refine start_ (n := 13) (S := fun w' => w'.cell? (ad472.add ((rd l0 x19_2)).toNat) = some (.string (rdOf ByteArray.empty y467 (rd l0 x19_2)))) (ds := []) #[false, false, false, false, false, false, false, false, false, false, false, false, false] (by kernel_rfl) rfl rfl (hx472_0) (fun hHeld => ?_); refine with_tabW impl_KindsText.tab8 impl_KindsText.bits8 (fun HT_ HW_ => ?_)
                                  generalize wr.drew = w21 at HO_4 HB hx472_0 hHeld ⊢
                                  refine pure_ (i := 0) (N := some 26) (v := ?_) (a' := ?_) #[true, false, false, false, false, false, false, false, false, false, false, false, false] rfl rfl (any_of HT_.out (by kernel_rfl)) (fun _ _ _ h => h) (Or.inl ⟨by rfl, ?_⟩) ?_ ?_
                                  rotate_left
                                  · intro w'
                                    go_simp
                                    with_reducible rfl
                                  rotate_left
                                  · simp only [Act.put, List.setIfInBounds_toArray, List.set_cons_zero, List.set_cons_succ, i64_w, i32_w]
                                    rfl
                                  refine pure_ (i := 1) (N := some 27) (v := ?_) (a' := ?_) #[true, true, false, false, false, false, false, false, false, false, false, false, false] rfl rfl (any_of HT_.out (by kernel_rfl)) (fun _ _ _ h => h) (Or.inl ⟨by rfl, ?_⟩) ?_ ?_
                                  rotate_left
                                  · intro w'
                                    go_simp
                                    with_reducible rfl
                                  rotate_left
                                  · simp only [Act.put, List.setIfInBounds_toArray, List.set_cons_zero, List.set_cons_succ, i64_w, i32_w]
                                    rfl
                                  refine pure_ (i := 5) (N := some 31) (v := ?_) (a' := ?_) #[true, true, false, false, false, true, false, false, false, false, false, false, false] rfl rfl (any_of HT_.out (by kernel_rfl)) (fun _ _ _ h => h) (Or.inl ⟨by rfl, ?_⟩) ?_ ?_
                                  rotate_left
                                  · intro w'
                                    go_simp
                                    with_reducible rfl
                                  rotate_left
                                  · simp only [Act.put, List.setIfInBounds_toArray, List.set_cons_zero, List.set_cons_succ, i64_w, i32_w]
                                    rfl
                                  refine pure_ (i := 6) (N := some 32) (v := ?_) (a' := ?_) #[true, true, false, false, false, true, true, false, false, false, false, false, false] rfl rfl (any_of HT_.out (by kernel_rfl)) (fun _ _ _ h => h) (Or.inl ⟨by rfl, ?_⟩) ?_ ?_
                                  rotate_left
                                  · intro w'
                                    go_simp
                                    with_reducible rfl
                                  rotate_left
                                  · simp only [Act.put, List.setIfInBounds_toArray, List.set_cons_zero, List.set_cons_succ, i64_w, i32_w]
                                    rfl
                                  refine pure_ (i := 7) (N := some 33) (v := ?_) (a' := ?_) #[true, true, false, false, false, true, true, true, false, false, false, false, false] rfl rfl (any_of HT_.out (by kernel_rfl)) (fun _ _ _ h => h) (Or.inl ⟨by rfl, ?_⟩) ?_ ?_
                                  rotate_left
                                  · intro w'
                                    go_simp
                                    with_reducible rfl
                                  rotate_left
                                  · simp only [Act.put, List.setIfInBounds_toArray, List.set_cons_zero, List.set_cons_succ, i64_w, i32_w]
                                    rfl
                                  refine take_ (i := 8) (N := some 34) (v := ?_) (a' := ?_) #[true, true, false, false, false, true, true, true, true, false, false, false, false] rfl rfl (take_ofW HT_.out HW_.out (by kernel_rfl)) (fun _ _ _ h => h) (Or.inl ⟨by rfl, ?_⟩) hHeld ?_ ?_
                                  rotate_left
                                  · intro w' s0
                                    go_simp
                                    with_reducible rfl
                                  rotate_left
                                  · simp only [Act.put, List.setIfInBounds_toArray, List.set_cons_zero, List.set_cons_succ, i64_w, i32_w]
                                    rfl
                                  refine one_ (i := 2) (N := some 28) #[true, true, true, false, false, true, true, true, true, false, false, false, false] rfl rfl (one_of HT_.out (by kernel_rfl)) (by decide) (fun K hK => ?_)
                                  refine goes_ Tryd.func27 (by kernel_rfl) rfl #[.int .i64 x19_2] (by rfl) rfl rfl (by (try simp only [List.map_toArray, List.map_cons, List.map_nil]); first | done | rfl | (simp only [List.length_drop, List.length_take]; rfl)) ?_
                                  with_reducible refine (impl_decimal.calls x19_2 t471 _ A13.out (tabw_below HT.out (by repeat (first | (with_reducible first | exact HB.out | apply below_alloc | apply pw_below_drewN | apply below_drew1) | exact HB.out)))).mono ?_
                                  rintro e w23 ⟨rfl, hb⟩
                                  have HS0_ := (hb.cell (World.block_lt_of_cell? _ _ (hHeld))).trans (hHeld)
                                  refine ⟨_, rfl, ?_⟩
                                  have n0_ := Aside0.mk (Kd.R_below (by (with_reducible repeat (first | apply Kd.R_alloc | apply Kd.R_drewN | apply Kd.R_drew)); exact HO_4.out) hb)
                                  have n1_ := Aside0.mk (below_step (by repeat (first | (with_reducible first | exact HB.out | apply below_alloc | apply pw_below_drewN | apply below_drew1) | exact HB.out)) hb)
                                  clear HO_4
                                  clear HB
                                  have HO_4 := n0_
                                  have HB := n1_
                                  clear n0_ n1_
                                  (try clear hb)
                                  (try clear hb2)
                                  (try clear hk)
                                  (try clear hi)
                                  refine hK.out _ _ (HS0_) (fun hHeld => ?_)
                                  clear hK K
                                  refine norm_ (a' := ?_) ?_ ?_
                                  rotate_left
                                  · show Act.put _ (some 28) _ = _
                                    simp only [Act.put, List.setIfInBounds_toArray, List.set_cons_zero, List.set_cons_succ, i64_w, i32_w]
                                    rfl
                                  refine pure_ (i := 3) (N := some 29) (v := ?_) (a' := ?_) #[true, true, true, true, false, true, true, true, true, false, false, false, false] rfl rfl (any_of HT_.out (by kernel_rfl)) (fun _ _ _ h => h) (Or.inl ⟨by rfl, ?_⟩) ?_ ?_
                                  rotate_left
                                  · intro w'
                                    go_simp
                                    with_reducible rfl
                                  rotate_left
                                  · simp only [Act.put, List.setIfInBounds_toArray, List.set_cons_zero, List.set_cons_succ, i64_w, i32_w]
                                    rfl
                                  refine pure_ (i := 4) (N := some 30) (v := ?_) (a' := ?_) #[true, true, true, true, true, true, true, true, true, false, false, false, false] rfl rfl (any_of HT_.out (by kernel_rfl)) (fun _ _ _ h => h) (Or.inl ⟨by rfl, ?_⟩) ?_ ?_
                                  rotate_left
                                  · intro w'
                                    go_simp
                                    with_reducible rfl
                                  rotate_left
                                  · simp only [Act.put, List.setIfInBounds_toArray, List.set_cons_zero, List.set_cons_succ, i64_w, i32_w]
                                    rfl
                                  refine pure_ (i := 9) (N := some 35) (v := ?_) (a' := ?_) #[true, true, true, true, true, true, true, true, true, true, false, false, false] rfl rfl (any_of HT_.out (by kernel_rfl)) (fun _ _ _ h => h) (Or.inl ⟨by rfl, ?_⟩) ?_ ?_
                                  rotate_left
                                  · intro w'
                                    go_simp
                                    with_reducible rfl
                                  rotate_left
                                  · simp only [Act.put, List.setIfInBounds_toArray, List.set_cons_zero, List.set_cons_succ, i64_w, i32_w]
                                    rfl
                                  refine pure_ (i := 10) (N := some 36) (v := ?_) (a' := ?_) #[true, true, true, true, true, true, true, true, true, true, true, false, false] rfl rfl (any_of HT_.out (by kernel_rfl)) (fun _ _ _ h => h) (Or.inl ⟨by rfl, ?_⟩) ?_ ?_
                                  rotate_left
                                  · intro w'
                                    go_simp
                                    with_reducible rfl
                                  rotate_left
                                  · simp only [Act.put, List.setIfInBounds_toArray, List.set_cons_zero, List.set_cons_succ, i64_w, i32_w]
                                    rfl
                                  refine pure_ (i := 11) (N := some 37) (v := ?_) (a' := ?_) #[true, true, true, true, true, true, true, true, true, true, true, true, false] rfl rfl (any_of HT_.out (by kernel_rfl)) (fun _ _ _ h => h) (Or.inl ⟨by rfl, ?_⟩) ?_ ?_
                                  rotate_left
                                  · intro w'
                                    go_simp
                                    with_reducible rfl
                                  rotate_left
                                  · simp only [Act.put, List.setIfInBounds_toArray, List.set_cons_zero, List.set_cons_succ, i64_w, i32_w]
                                    rfl
                                  refine pure_ (i := 12) (N := some 5) (v := ?_) (a' := ?_) #[true, true, true, true, true, true, true, true, true, true, true, true, true] rfl rfl (any_of HT_.out (by kernel_rfl)) (fun _ _ _ h => h) (Or.inl ⟨by rfl, ?_⟩) ?_ ?_
                                  rotate_left
                                  · intro w'
                                    go_simp
                                    with_reducible rfl
                                  rotate_left
                                  · simp only [Act.put, List.setIfInBounds_toArray, List.set_cons_zero, List.set_cons_succ, i64_w, i32_w]
                                    rfl
                                  refine done_ (done_of HT_.out (by kernel_rfl)) ?_
                                  try go_wp2
                                  go_roundg k2
                                  case measure => have := HJ1.out; have := HK2.out; omega
                                  case rel => exact ⟨(x5_2 ++ (((((⟨#[115, 116, 97, 116, 105, 111, 110, 32]⟩ : ByteArray) ++ t471) ++ (⟨#[32]⟩ : ByteArray)) ++ (rdOf ByteArray.empty y467 (rd l0 x19_2))) ++ (⟨#[10]⟩ : ByteArray))), (wrap64 (x19_2 + 1)), (by first | rfl | (simp; done) | (simp [*]; done)), (by first | rfl | (simp; done) | (simp [*]; done)), H', ⟨by have := HJ1.out; have := HK2.out; omega⟩, ⟨by (with_reducible repeat (first | apply Kd.R_alloc | apply Kd.R_drewN | apply Kd.R_drew)); exact HO_4.out⟩, ⟨by repeat (first | (with_reducible first | exact HB.out | apply below_alloc | apply pw_below_drewN | apply below_drew1) | exact HB.out)⟩⟩
                                · rw [if_neg c20] at H
                                  exact absurd H (by simp)
                              · rw [if_neg c19] at H
                                exact absurd H (by simp)
                            · rw [if_neg c18] at H
                              exact absurd H (by simp)
                          · rw [if_neg c17] at H
                            exact absurd H (by simp)
                        · rw [if_neg c16] at H
                          exact absurd H (by simp)
                      · rw [if_neg c15] at H
                        exact absurd H (by simp)
                    · rw [if_neg c14] at H
                      exact absurd H (by simp)
                  · rw [if_neg c12] at H
                    have c12b0 : decide (0 < (rd l0 x19_2)) = false := decide_eq_false c12
                    clear c12
                    have H' := Aside0.mk H
                    clear H
                    have p470 : 0 ≤ (x19_2 : Int) := of_decide_eq_true (by first | (with_reducible assumption) | assumption)
                    have q470 : x19_2 < (l0.length : Int) := of_decide_eq_true (by first | (with_reducible assumption) | assumption)
                    obtain ⟨ad470, e470, hx470_0⟩ := Kd.at_int HR0.out x19_2 p470 q470
                    cases e470
                    replace hx470_0 := (HB.out.cell (World.block_lt_of_cell? _ _ hx470_0)).trans hx470_0
                    replace p470 := eq_true p470
                    replace q470 := eq_true q470
                    go_wp2
                    go_roundg k2
                    case measure => have := HJ1.out; have := HK2.out; omega
                    case rel => exact ⟨(x5_2), (wrap64 (x19_2 + 1)), (by first | rfl | (simp; done) | (simp [*]; done)), (by first | rfl | (simp; done) | (simp [*]; done)), H', ⟨by have := HJ1.out; have := HK2.out; omega⟩, ⟨by (with_reducible repeat (first | apply Kd.R_alloc | apply Kd.R_drewN | apply Kd.R_drew)); exact HO_4.out⟩, ⟨by repeat (first | (with_reducible first | exact HB.out | apply below_alloc | apply pw_below_drewN | apply below_drew1) | exact HB.out)⟩⟩
                · rw [if_neg c11] at H
                  exact absurd H (by simp)
              · rw [if_neg c10] at H
                exact absurd H (by simp)
            · rw [if_neg c9] at H
              have c9b0 : decide (x19_2 < (l0.length : Int)) = false := decide_eq_false c9
              clear c9
              by_cases c24 : x5_2.toList = ([] : List UInt8)
              · rw [if_pos c24] at H
                have c24b0 : (x5_2.toList == ([] : List UInt8)) = true := beq_iff_eq.mpr c24
                have c24b1 : (x5_2.toList != ([] : List UInt8)) = false := bne_eq_false_iff_eq.mpr c24
                clear c24
                simp only [Option.some.injEq, Prod.mk.injEq] at H
                obtain ⟨rfl, rfl⟩ := H
                go_wp2
                go_ret2
                exact ⟨by first | rfl | (simp [errW_none, errW_some] <;> rfl) | (simp [*, errW_none, errW_some] <;> rfl), by repeat (first | (with_reducible first | exact HB.out | apply below_alloc | apply pw_below_drewN | apply below_drew1) | exact HB.out)⟩
              · rw [if_neg c24] at H
                have c24b0 : (x5_2.toList == ([] : List UInt8)) = false := beq_eq_false_iff_ne.mpr c24
                have c24b1 : (x5_2.toList != ([] : List UInt8)) = true := bne_iff_ne.mpr c24
                simp only [Option.some.injEq, Prod.mk.injEq] at H
                obtain ⟨rfl, rfl⟩ := H
                go_wp2
                go_ret2
                exact ⟨by first | rfl | (simp [errW_none, errW_some] <;> rfl) | (simp [*, errW_none, errW_some] <;> rfl), by repeat (first | (with_reducible first | exact HB.out | apply below_alloc | apply pw_below_drewN | apply below_drew1) | exact HB.out)⟩
end Go.Proofs.YtjnacjdpggpiiaaDoor.PU
end
