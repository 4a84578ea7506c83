-- Gathered by this session's program wip/tool/shake.py out of its own texts and of what the kit's print and the session's patches of it wrote for this claim.
import Derived.Test.YtjnacjdpggpiiaaDoorCFnDiagnosed6
import Derived.Test.YtjnacjdpggpiiaaDoorCFnDiagnosed9
import Derived.Test.YtjnacjdpggpiiaaDoorCFnDiagnosed19
section
namespace Go.Proofs.YtjnacjdpggpiiaaDoor.PU
open Go.RowKit Go.Proofs.YtjnacjdpggpiiaaDoorW.PrintWords Go.Proofs.YtjnacjdpggpiiaaDoorW.PrintLast Go.Proofs.YtjnacjdpggpiiaaDoorW.PrintMore
attribute [local go_sem] max2_int min2_int max_two min_two max_three min_three max_four min_four   -- for this text's walks alone
set_option linter.unusedVariables false
set_option linter.unusedSimpArgs false
def spec_KindsText.l0 : Nat → List Int → ByteArray → Int → Option (ByteArray × Int)
  | 0, _, _, _ => none
  | k + 1, x0, x4, x5 => if x5 < (x0.length : Int) then (if 0 ≤ x5 then (if (rd x0 x5) > 0 then (if x4.size + 8 ≤ 9223372036854775807 then ((spec_l01Dec.f k x5).bind fun t482 => (if (x4 ++ (⟨#[115, 116, 97, 116, 105, 111, 110, 32]⟩ : ByteArray)).size + t482.size ≤ 9223372036854775807 then (if ((x4 ++ (⟨#[115, 116, 97, 116, 105, 111, 110, 32]⟩ : ByteArray)) ++ t482).size + 1 ≤ 9223372036854775807 then ((spec_l28Word.f (rd x0 x5)).bind fun t484 => (if (((x4 ++ (⟨#[115, 116, 97, 116, 105, 111, 110, 32]⟩ : ByteArray)) ++ t482) ++ (⟨#[32]⟩ : ByteArray)).size + t484.size ≤ 9223372036854775807 then (if ((((x4 ++ (⟨#[115, 116, 97, 116, 105, 111, 110, 32]⟩ : ByteArray)) ++ t482) ++ (⟨#[32]⟩ : ByteArray)) ++ t484).size + 1 ≤ 9223372036854775807 then (spec_KindsText.l0 k x0 (((((x4 ++ (⟨#[115, 116, 97, 116, 105, 111, 110, 32]⟩ : ByteArray)) ++ t482) ++ (⟨#[32]⟩ : ByteArray)) ++ t484) ++ (⟨#[10]⟩ : ByteArray)) (wrap64 (x5 + 1))) else (none)) else (none))) else (none)) else (none))) else (none)) else (spec_KindsText.l0 k x0 x4 (wrap64 (x5 + 1)))) else (none)) else (if x4.toList = ([] : List UInt8) then (some ((⟨#[114, 105, 103, 104, 116, 10]⟩ : ByteArray), 0)) else (some (x4, 0)))
def spec_KindsText.f (k : Nat) (l0 : List Int) : Option (ByteArray × Int) := (spec_l01Within.f k l0 12 0 4).bind fun t480 => (if t480 = true then (spec_KindsText.l0 k l0 (⟨#[]⟩ : ByteArray) 0) else (some ((⟨#[]⟩ : ByteArray), 2)))
def spec_KindsText.T8 : Bool × List (List Nat × List Nat) := (true, [([], []), ([0], [0]), ([], []), ([2], [2]), ([1, 3], [1, 3]), ([4], [4]), ([], []), ([], []), ([6, 7], [6, 7]), ([8], [8]), ([9, 3], [9]), ([5, 10], [5, 10]), ([11], [11]), ([12, 10, 0, 1, 2, 3, 4, 5, 6, 7, 8, 9, 10, 11, 12], [0, 12])])
def spec_KindsText.B8 : List Nat := [0, 1, 0, 4, 15, 31, 0, 0, 192, 448, 972, 2047, 4095, 8191]
theorem spec_KindsText.tab8 : rtab .any (opsOf Tryd.f12 8) = spec_KindsText.T8 := by kernel_rfl
theorem spec_KindsText.bits8 : waitsOk spec_KindsText.T8.2 spec_KindsText.B8 = true := by kernel_rfl
set_option maxHeartbeats 8000000 in
set_option maxRecDepth 100000 in
theorem spec_KindsText.calls (k : Nat) (A0 : Option Addr) (c0 : Nat) (l0 : List Int) (r1 : ByteArray) (r2 : Int) (w : World) (hr0 : Kd.C (Kd.int .i64) w A0 l0.length l0) (hc0 : l0.length ≤ c0) (h : spec_KindsText.f k l0 = some (r1, r2)) :
    Calls Tryd.prog 12 #[.slice A0 l0.length c0] w fun e w' => e = .returned (.tuple #[.string r1, .int .i64 r2]) ∧ Below w.heap.size w w' := by
  have HR0 := Aside0.mk hr0
  have HC0 := Aside0.mk hc0
  clear hr0 hc0
  have HB := Aside0.mk (Below.refl w.heap.size w)
  have H : ((spec_l01Within.f k l0 12 0 4).bind fun t480 => (if t480 = true then (spec_KindsText.l0 k l0 (⟨#[]⟩ : ByteArray) 0) else (some ((⟨#[]⟩ : ByteArray), 2)))) = some (r1, r2) := h
  clear h
  replace H := Option.bind_eq_some_iff.mp H
  obtain ⟨t480, A20, H⟩ := H
  replace H : (if t480 = true then (spec_KindsText.l0 k l0 (⟨#[]⟩ : ByteArray) 0) else (some ((⟨#[]⟩ : ByteArray), 2))) = some (r1, r2) := H
  have A2 := Aside0.mk A20
  clear A20
  by_cases c3 : t480 = true
  · subst c3
    have H1 : (spec_KindsText.l0 k l0 (⟨#[]⟩ : ByteArray) 0) = some (r1, r2) := by rw [if_pos rfl] at H; exact H
    clear H
    have H := H1
    clear H1
    have H' := Aside0.mk H
    clear H
    go_enter Tryd.func12, Tryd.ntmps12
    go_wp2_with (first | ((with_reducible refine gate_callee (f := 28) rfl ?_); refine goesL_ (some 7) rfl rfl Tryd.func28 (by kernel_rfl) rfl #[.slice A0 l0.length c0, .int .i64 12, .int .i64 0, .int .i64 4] rfl (by (try simp only [List.map_toArray, List.map_cons, List.map_nil]); first | done | rfl | (simp only [List.length_drop, List.length_take]; rfl)) ?_; (with_reducible refine (spec_l01Within.calls k _ _ l0 12 0 4 true _ ?side1 ?side2 A2.out).mono ?_); (case side1 => repeat (first | exact HR0.out | (with_reducible refine Kd.C_alloc ?_ _) | (with_reducible refine Kd.C_drewN ?_ _) | (with_reducible refine Kd.C_drew ?_))); (case side2 => exact HC0.out); rintro e w' ⟨rfl, ⟨nd, rfl⟩⟩; refine ⟨_, rfl, ?_⟩))
    go_loopg [4, 5] k (fun kq v4 v5 w' => ∃ (x4_1 : ByteArray) (x5_1 : Int), v4 = .string x4_1 ∧ v5 = .int .i64 x5_1 ∧ Aside0 (spec_KindsText.l0 kq l0 x4_1 x5_1 = some (r1, r2)) ∧ Aside0 (kq ≤ k) ∧ Aside0 (Below w.heap.size w w'))
    case atStart => exact ⟨((⟨#[]⟩ : ByteArray)), (0), (by first | rfl | (simp; done) | (simp [*]; done)), (by first | rfl | (simp; done) | (simp [*]; done)), H', ⟨Nat.le_refl _⟩, ⟨by repeat (first | (with_reducible first | exact HB.out | apply below_alloc | apply pw_below_drewN | apply below_drew1) | exact HB.out)⟩⟩
    case round =>
      clear H'
      try clear c1
      try clear c2
      try clear p2
      try clear c3
      obtain ⟨x4_1, x5_1, rfl, rfl, HA, HK1, HB⟩ := hrel
      cases gk with
      | zero => exact absurd HA.out (by simp [spec_KindsText.l0])
      | succ k1 =>
        have H := HA.out
        clear HA
        simp only [spec_KindsText.l0] at H
        by_cases c4 : x5_1 < (l0.length : Int)
        · rw [if_pos c4] at H
          have c4b0 : decide (x5_1 < (l0.length : Int)) = true := decide_eq_true c4
          clear c4
          by_cases c5 : 0 ≤ x5_1
          · rw [if_pos c5] at H
            have c5b0 : decide (0 ≤ x5_1) = true := decide_eq_true c5
            clear c5
            by_cases c6 : (rd l0 x5_1) > 0
            · rw [if_pos c6] at H
              have c6b0 : decide (0 < (rd l0 x5_1)) = true := decide_eq_true c6
              clear c6
              by_cases c7 : x4_1.size + 8 ≤ 9223372036854775807
              · rw [if_pos c7] at H
                have c7b0 := eq_true c7
                have c7b1 : decide (x4_1.size + 8 ≤ 9223372036854775807) = true := decide_eq_true c7
                try have c7b2 : (9223372036854775807 < x4_1.size + 8) = False := eq_false (Nat.not_lt.2 c7)
                replace H := Option.bind_eq_some_iff.mp H
                obtain ⟨t482, A80, H⟩ := H
                replace H : (if (x4_1 ++ (⟨#[115, 116, 97, 116, 105, 111, 110, 32]⟩ : ByteArray)).size + t482.size ≤ 9223372036854775807 then (if ((x4_1 ++ (⟨#[115, 116, 97, 116, 105, 111, 110, 32]⟩ : ByteArray)) ++ t482).size + 1 ≤ 9223372036854775807 then ((spec_l28Word.f (rd l0 x5_1)).bind fun t484 => (if (((x4_1 ++ (⟨#[115, 116, 97, 116, 105, 111, 110, 32]⟩ : ByteArray)) ++ t482) ++ (⟨#[32]⟩ : ByteArray)).size + t484.size ≤ 9223372036854775807 then (if ((((x4_1 ++ (⟨#[115, 116, 97, 116, 105, 111, 110, 32]⟩ : ByteArray)) ++ t482) ++ (⟨#[32]⟩ : ByteArray)) ++ t484).size + 1 ≤ 9223372036854775807 then (spec_KindsText.l0 k1 l0 (((((x4_1 ++ (⟨#[115, 116, 97, 116, 105, 111, 110, 32]⟩ : ByteArray)) ++ t482) ++ (⟨#[32]⟩ : ByteArray)) ++ t484) ++ (⟨#[10]⟩ : ByteArray)) (wrap64 (x5_1 + 1))) else (none)) else (none))) else (none)) else (none)) = some (r1, r2) := H
                have A8 := Aside0.mk A80
                clear A80
                by_cases c9 : (x4_1 ++ (⟨#[115, 116, 97, 116, 105, 111, 110, 32]⟩ : ByteArray)).size + t482.size ≤ 9223372036854775807
                · rw [if_pos c9] at H
                  have c9b0 := eq_true c9
                  have c9b1 : decide ((x4_1 ++ (⟨#[115, 116, 97, 116, 105, 111, 110, 32]⟩ : ByteArray)).size + t482.size ≤ 9223372036854775807) = true := decide_eq_true c9
                  try have c9b1s := c9b1
                  try simp only [ByteArray.size_append, show (⟨#[115, 116, 97, 116, 105, 111, 110, 32]⟩ : ByteArray).size = 8 from rfl] at c9b1s
                  try have c9b2 : (9223372036854775807 < (x4_1 ++ (⟨#[115, 116, 97, 116, 105, 111, 110, 32]⟩ : ByteArray)).size + t482.size) = False := eq_false (Nat.not_lt.2 c9)
                  try have c9b2s := c9b2
                  try simp only [ByteArray.size_append, show (⟨#[115, 116, 97, 116, 105, 111, 110, 32]⟩ : ByteArray).size = 8 from rfl] at c9b2s
                  by_cases c10 : ((x4_1 ++ (⟨#[115, 116, 97, 116, 105, 111, 110, 32]⟩ : ByteArray)) ++ t482).size + 1 ≤ 9223372036854775807
                  · rw [if_pos c10] at H
                    have c10b0 := eq_true c10
                    have c10b1 : decide (((x4_1 ++ (⟨#[115, 116, 97, 116, 105, 111, 110, 32]⟩ : ByteArray)) ++ t482).size + 1 ≤ 9223372036854775807) = true := decide_eq_true c10
                    try have c10b1s := c10b1
                    try simp only [ByteArray.size_append, show (⟨#[115, 116, 97, 116, 105, 111, 110, 32]⟩ : ByteArray).size = 8 from rfl] at c10b1s
                    try have c10b2 : (9223372036854775807 < ((x4_1 ++ (⟨#[115, 116, 97, 116, 105, 111, 110, 32]⟩ : ByteArray)) ++ t482).size + 1) = False := eq_false (Nat.not_lt.2 c10)
                    try have c10b2s := c10b2
                    try simp only [ByteArray.size_append, show (⟨#[115, 116, 97, 116, 105, 111, 110, 32]⟩ : ByteArray).size = 8 from rfl] at c10b2s
                    replace H := Option.bind_eq_some_iff.mp H
                    obtain ⟨t484, A110, H⟩ := H
                    replace H : (if (((x4_1 ++ (⟨#[115, 116, 97, 116, 105, 111, 110, 32]⟩ : ByteArray)) ++ t482) ++ (⟨#[32]⟩ : ByteArray)).size + t484.size ≤ 9223372036854775807 then (if ((((x4_1 ++ (⟨#[115, 116, 97, 116, 105, 111, 110, 32]⟩ : ByteArray)) ++ t482) ++ (⟨#[32]⟩ : ByteArray)) ++ t484).size + 1 ≤ 9223372036854775807 then (spec_KindsText.l0 k1 l0 (((((x4_1 ++ (⟨#[115, 116, 97, 116, 105, 111, 110, 32]⟩ : ByteArray)) ++ t482) ++ (⟨#[32]⟩ : ByteArray)) ++ t484) ++ (⟨#[10]⟩ : ByteArray)) (wrap64 (x5_1 + 1))) else (none)) else (none)) = some (r1, r2) := H
                    have A11 := Aside0.mk A110
                    clear A110
                    by_cases c12 : (((x4_1 ++ (⟨#[115, 116, 97, 116, 105, 111, 110, 32]⟩ : ByteArray)) ++ t482) ++ (⟨#[32]⟩ : ByteArray)).size + t484.size ≤ 9223372036854775807
                    · rw [if_pos c12] at H
                      have c12b0 := eq_true c12
                      have c12b1 : decide ((((x4_1 ++ (⟨#[115, 116, 97, 116, 105, 111, 110, 32]⟩ : ByteArray)) ++ t482) ++ (⟨#[32]⟩ : ByteArray)).size + t484.size ≤ 9223372036854775807) = true := decide_eq_true c12
                      try have c12b1s := c12b1
                      try simp only [ByteArray.size_append, show (⟨#[115, 116, 97, 116, 105, 111, 110, 32]⟩ : ByteArray).size = 8 from rfl, show (⟨#[32]⟩ : ByteArray).size = 1 from rfl] at c12b1s
                      try have c12b2 : (9223372036854775807 < (((x4_1 ++ (⟨#[115, 116, 97, 116, 105, 111, 110, 32]⟩ : ByteArray)) ++ t482) ++ (⟨#[32]⟩ : ByteArray)).size + t484.size) = False := eq_false (Nat.not_lt.2 c12)
                      try have c12b2s := c12b2
                      try simp only [ByteArray.size_append, show (⟨#[115, 116, 97, 116, 105, 111, 110, 32]⟩ : ByteArray).size = 8 from rfl, show (⟨#[32]⟩ : ByteArray).size = 1 from rfl] at c12b2s
                      by_cases c13 : ((((x4_1 ++ (⟨#[115, 116, 97, 116, 105, 111, 110, 32]⟩ : ByteArray)) ++ t482) ++ (⟨#[32]⟩ : ByteArray)) ++ t484).size + 1 ≤ 9223372036854775807
                      · rw [if_pos c13] at H
                        have c13b0 := eq_true c13
                        have c13b1 : decide (((((x4_1 ++ (⟨#[115, 116, 97, 116, 105, 111, 110, 32]⟩ : ByteArray)) ++ t482) ++ (⟨#[32]⟩ : ByteArray)) ++ t484).size + 1 ≤ 9223372036854775807) = true := decide_eq_true c13
                        try have c13b1s := c13b1
                        try simp only [ByteArray.size_append, show (⟨#[115, 116, 97, 116, 105, 111, 110, 32]⟩ : ByteArray).size = 8 from rfl, show (⟨#[32]⟩ : ByteArray).size = 1 from rfl] at c13b1s
                        try have c13b2 : (9223372036854775807 < ((((x4_1 ++ (⟨#[115, 116, 97, 116, 105, 111, 110, 32]⟩ : ByteArray)) ++ t482) ++ (⟨#[32]⟩ : ByteArray)) ++ t484).size + 1) = False := eq_false (Nat.not_lt.2 c13)
                        try have c13b2s := c13b2
                        try simp only [ByteArray.size_append, show (⟨#[115, 116, 97, 116, 105, 111, 110, 32]⟩ : ByteArray).size = 8 from rfl, show (⟨#[32]⟩ : ByteArray).size = 1 from rfl] at c13b2s
                        have H' := Aside0.mk H
                        clear H
                        have p481 : 0 ≤ (x5_1 : Int) := of_decide_eq_true (by first | (with_reducible assumption) | assumption)
                        have q481 : x5_1 < (l0.length : Int) := of_decide_eq_true (by first | (with_reducible assumption) | assumption)
                        obtain ⟨ad481, e481, hx481_0⟩ := Kd.at_int HR0.out x5_1 p481 q481
                        cases e481
                        replace hx481_0 := (HB.out.cell (World.block_lt_of_cell? _ _ hx481_0)).trans hx481_0
                        replace p481 := eq_true p481
                        replace q481 := eq_true q481
                        try go_wp2
                        have n0_ := Aside0.mk (below_drew1 HB.out)
                        clear HB
                        have HB := n0_
                        clear n0_
                        have p483 : 0 ≤ (x5_1 : Int) := of_decide_eq_true (by first | (with_reducible assumption) | assumption)
                        have q483 : x5_1 < (l0.length : Int) := of_decide_eq_true (by first | (with_reducible assumption) | assumption)
                        obtain ⟨ad483, e483, hx483_0⟩ := Kd.at_int HR0.out x5_1 p483 q483
                        have hw483_0 := hx483_0
                        obtain rfl : ad481 = ad483 := (by injection e483)
                        replace hx483_0 := (HB.out.cell (World.block_lt_of_cell? _ _ hx483_0)).trans hx483_0
                        replace p483 := eq_true p483
                        replace q483 := eq_true q483
                        refine start_ (n := 14) (S := fun w' => w'.cell? (ad481.add (x5_1).toNat) = some (.int .i64 (rd l0 x5_1))) (ds := []) #[false, false, false, false, false, false, false, false, false, false, false, false, false, false] (by kernel_rfl) rfl rfl (((HB.out.cell (World.block_lt_of_cell? _ _ hw483_0)).trans hw483_0)) (fun hHeld => ?_); refine with_tabW spec_KindsText.tab8 spec_KindsText.bits8 (fun HT_ HW_ => ?_)
                        generalize wr.drew = w14 at HB hx483_0 hHeld ⊢
                        refine pure_ (i := 0) (N := some 20) (v := ?_) (a' := ?_) #[true, false, false, false, false, false, false, false, false, false, false, false, false, false] rfl rfl (any_of HT_.out (by kernel_rfl)) (fun _ _ _ h => h) (Or.inl ⟨by rfl, ?_⟩) ?_ ?_
                        rotate_left
                        · intro w'
                          go_simp
                          with_reducible rfl
                        rotate_left
                        · simp only [Act.put, List.setIfInBounds_toArray, List.set_cons_zero, List.set_cons_succ, i64_w, i32_w]
                          rfl
                        refine pure_ (i := 1) (N := some 21) (v := ?_) (a' := ?_) #[true, true, false, false, false, false, false, false, false, false, false, false, false, false] rfl rfl (any_of HT_.out (by kernel_rfl)) (fun _ _ _ h => h) (Or.inl ⟨by rfl, ?_⟩) ?_ ?_
                        rotate_left
                        · intro w'
                          go_simp
                          with_reducible rfl
                        rotate_left
                        · simp only [Act.put, List.setIfInBounds_toArray, List.set_cons_zero, List.set_cons_succ, i64_w, i32_w]
                          rfl
                        refine pure_ (i := 2) (N := some 22) (v := ?_) (a' := ?_) #[true, true, true, false, false, false, false, false, false, false, false, false, false, false] rfl rfl (any_of HT_.out (by kernel_rfl)) (fun _ _ _ h => h) (Or.inl ⟨by rfl, ?_⟩) ?_ ?_
                        rotate_left
                        · intro w'
                          go_simp
                          with_reducible rfl
                        rotate_left
                        · simp only [Act.put, List.setIfInBounds_toArray, List.set_cons_zero, List.set_cons_succ, i64_w, i32_w]
                          rfl
                        refine pure_ (i := 6) (N := some 26) (v := ?_) (a' := ?_) #[true, true, true, false, false, false, true, false, false, false, false, false, false, false] rfl rfl (any_of HT_.out (by kernel_rfl)) (fun _ _ _ h => h) (Or.inl ⟨by rfl, ?_⟩) ?_ ?_
                        rotate_left
                        · intro w'
                          go_simp
                          with_reducible rfl
                        rotate_left
                        · simp only [Act.put, List.setIfInBounds_toArray, List.set_cons_zero, List.set_cons_succ, i64_w, i32_w]
                          rfl
                        refine pure_ (i := 7) (N := some 27) (v := ?_) (a' := ?_) #[true, true, true, false, false, false, true, true, false, false, false, false, false, false] rfl rfl (any_of HT_.out (by kernel_rfl)) (fun _ _ _ h => h) (Or.inl ⟨by rfl, ?_⟩) ?_ ?_
                        rotate_left
                        · intro w'
                          go_simp
                          with_reducible rfl
                        rotate_left
                        · simp only [Act.put, List.setIfInBounds_toArray, List.set_cons_zero, List.set_cons_succ, i64_w, i32_w]
                          rfl
                        refine pure_ (i := 8) (N := some 28) (v := ?_) (a' := ?_) #[true, true, true, false, false, false, true, true, true, false, false, false, false, false] rfl rfl (any_of HT_.out (by kernel_rfl)) (fun _ _ _ h => h) (Or.inl ⟨by rfl, ?_⟩) ?_ ?_
                        rotate_left
                        · intro w'
                          go_simp
                          with_reducible rfl
                        rotate_left
                        · simp only [Act.put, List.setIfInBounds_toArray, List.set_cons_zero, List.set_cons_succ, i64_w, i32_w]
                          rfl
                        refine take_ (i := 9) (N := some 29) (v := ?_) (a' := ?_) #[true, true, true, false, false, false, true, true, true, true, false, false, false, false] rfl rfl (take_ofW HT_.out HW_.out (by kernel_rfl)) (fun _ _ _ h => h) (Or.inl ⟨by rfl, ?_⟩) hHeld ?_ ?_
                        rotate_left
                        · intro w' s0
                          go_simp
                          with_reducible rfl
                        rotate_left
                        · simp only [Act.put, List.setIfInBounds_toArray, List.set_cons_zero, List.set_cons_succ, i64_w, i32_w]
                          rfl
                        refine one_ (i := 3) (N := some 23) #[true, true, true, true, false, false, true, true, true, true, false, false, false, false] rfl rfl (one_of HT_.out (by kernel_rfl)) (by decide) (fun K hK => ?_)
                        refine goes_ Tryd.func29 (by kernel_rfl) rfl #[.int .i64 x5_1] (by rfl) rfl rfl (by (try simp only [List.map_toArray, List.map_cons, List.map_nil]); first | done | rfl | (simp only [List.length_drop, List.length_take]; rfl)) ?_
                        with_reducible refine (spec_l01Dec.calls k1 x5_1 t482 _ A8.out).mono ?_
                        rintro e w15 ⟨rfl, hb⟩
                        refine ⟨_, rfl, ?_⟩
                        have n0_ := Aside0.mk (below_step (by repeat (first | (with_reducible first | exact HB.out | apply below_alloc | apply pw_below_drewN | apply below_drew1) | exact HB.out)) hb)
                        clear HB
                        have HB := n0_
                        clear n0_
                        (try clear hb)
                        (try clear hb2)
                        (try clear hk)
                        (try clear hi)
                        refine hK.out _ _ (((HB.out.cell (World.block_lt_of_cell? _ _ hw483_0)).trans hw483_0)) (fun hHeld => ?_)
                        clear hK K
                        refine norm_ (a' := ?_) ?_ ?_
                        rotate_left
                        · show Act.put _ (some 23) _ = _
                          simp only [Act.put, List.setIfInBounds_toArray, List.set_cons_zero, List.set_cons_succ, i64_w, i32_w]
                          rfl
                        refine pure_ (i := 4) (N := some 24) (v := ?_) (a' := ?_) #[true, true, true, true, true, false, true, true, true, true, false, false, false, false] rfl rfl (any_of HT_.out (by kernel_rfl)) (fun _ _ _ h => h) (Or.inl ⟨by rfl, ?_⟩) ?_ ?_
                        rotate_left
                        · intro w'
                          go_simp
                          with_reducible rfl
                        rotate_left
                        · simp only [Act.put, List.setIfInBounds_toArray, List.set_cons_zero, List.set_cons_succ, i64_w, i32_w]
                          rfl
                        refine pure_ (i := 5) (N := some 25) (v := ?_) (a' := ?_) #[true, true, true, true, true, true, true, true, true, true, false, false, false, false] rfl rfl (any_of HT_.out (by kernel_rfl)) (fun _ _ _ h => h) (Or.inl ⟨by rfl, ?_⟩) ?_ ?_
                        rotate_left
                        · intro w'
                          go_simp
                          with_reducible rfl
                        rotate_left
                        · simp only [Act.put, List.setIfInBounds_toArray, List.set_cons_zero, List.set_cons_succ, i64_w, i32_w]
                          rfl
                        refine one_ (i := 10) (N := some 30) #[true, true, true, true, true, true, true, true, true, true, true, false, false, false] rfl rfl (one_of HT_.out (by kernel_rfl)) (by decide) (fun K hK => ?_)
                        refine goes_ Tryd.func30 (by kernel_rfl) rfl #[.int .i64 (rd l0 x5_1)] (by rfl) rfl rfl (by (try simp only [List.map_toArray, List.map_cons, List.map_nil]); first | done | rfl | (simp only [List.length_drop, List.length_take]; rfl)) ?_
                        with_reducible refine (spec_l28Word.calls (rd l0 x5_1) t484 _ A11.out).mono ?_
                        rintro e w' ⟨rfl, ⟨nd, rfl⟩⟩
                        refine ⟨_, rfl, ?_⟩
                        refine hK.out _ _ (((HB.out.cell (World.block_lt_of_cell? _ _ hw483_0)).trans hw483_0)) (fun hHeld => ?_)
                        clear hK K
                        refine norm_ (a' := ?_) ?_ ?_
                        rotate_left
                        · show Act.put _ (some 30) _ = _
                          simp only [Act.put, List.setIfInBounds_toArray, List.set_cons_zero, List.set_cons_succ, i64_w, i32_w]
                          rfl
                        refine pure_ (i := 11) (N := some 31) (v := ?_) (a' := ?_) #[true, true, true, true, true, true, true, true, true, true, true, true, false, false] rfl rfl (any_of HT_.out (by kernel_rfl)) (fun _ _ _ h => h) (Or.inl ⟨by rfl, ?_⟩) ?_ ?_
                        rotate_left
                        · intro w'
                          go_simp
                          with_reducible rfl
                        rotate_left
                        · simp only [Act.put, List.setIfInBounds_toArray, List.set_cons_zero, List.set_cons_succ, i64_w, i32_w]
                          rfl
                        refine pure_ (i := 12) (N := some 32) (v := ?_) (a' := ?_) #[true, true, true, true, true, true, true, true, true, true, true, true, true, false] rfl rfl (any_of HT_.out (by kernel_rfl)) (fun _ _ _ h => h) (Or.inl ⟨by rfl, ?_⟩) ?_ ?_
                        rotate_left
                        · intro w'
                          go_simp
                          with_reducible rfl
                        rotate_left
                        · simp only [Act.put, List.setIfInBounds_toArray, List.set_cons_zero, List.set_cons_succ, i64_w, i32_w]
                          rfl
                        refine pure_ (i := 13) (N := some 4) (v := ?_) (a' := ?_) #[true, true, true, true, true, true, true, true, true, true, true, true, true, true] rfl rfl (any_of HT_.out (by kernel_rfl)) (fun _ _ _ h => h) (Or.inl ⟨by rfl, ?_⟩) ?_ ?_
                        rotate_left
                        · intro w'
                          go_simp
                          with_reducible rfl
                        rotate_left
                        · simp only [Act.put, List.setIfInBounds_toArray, List.set_cons_zero, List.set_cons_succ, i64_w, i32_w]
                          rfl
                        refine done_ (done_of HT_.out (by kernel_rfl)) ?_
                        try go_wp2
                        go_roundg k1
                        case measure => have := HK1.out; omega
                        case rel => exact ⟨(((((x4_1 ++ (⟨#[115, 116, 97, 116, 105, 111, 110, 32]⟩ : ByteArray)) ++ t482) ++ (⟨#[32]⟩ : ByteArray)) ++ t484) ++ (⟨#[10]⟩ : ByteArray)), (wrap64 (x5_1 + 1)), (by first | rfl | (simp; done) | (simp [*]; done)), (by first | rfl | (simp; done) | (simp [*]; done)), H', ⟨by have := HK1.out; omega⟩, ⟨by repeat (first | (with_reducible first | exact HB.out | apply below_alloc | apply pw_below_drewN | apply below_drew1) | exact HB.out)⟩⟩
                      · rw [if_neg c13] at H
                        exact absurd H (by simp)
                    · rw [if_neg c12] at H
                      exact absurd H (by simp)
                  · rw [if_neg c10] at H
                    exact absurd H (by simp)
                · rw [if_neg c9] at H
                  exact absurd H (by simp)
              · rw [if_neg c7] at H
                exact absurd H (by simp)
            · rw [if_neg c6] at H
              have c6b0 : decide (0 < (rd l0 x5_1)) = false := decide_eq_false c6
              clear c6
              have H' := Aside0.mk H
              clear H
              have p481 : 0 ≤ (x5_1 : Int) := of_decide_eq_true (by first | (with_reducible assumption) | assumption)
              have q481 : x5_1 < (l0.length : Int) := of_decide_eq_true (by first | (with_reducible assumption) | assumption)
              obtain ⟨ad481, e481, hx481_0⟩ := Kd.at_int HR0.out x5_1 p481 q481
              cases e481
              replace hx481_0 := (HB.out.cell (World.block_lt_of_cell? _ _ hx481_0)).trans hx481_0
              replace p481 := eq_true p481
              replace q481 := eq_true q481
              go_wp2
              go_roundg k1
              case measure => have := HK1.out; omega
              case rel => exact ⟨(x4_1), (wrap64 (x5_1 + 1)), (by first | rfl | (simp; done) | (simp [*]; done)), (by first | rfl | (simp; done) | (simp [*]; done)), H', ⟨by have := HK1.out; omega⟩, ⟨by repeat (first | (with_reducible first | exact HB.out | apply below_alloc | apply pw_below_drewN | apply below_drew1) | exact HB.out)⟩⟩
          · rw [if_neg c5] at H
            exact absurd H (by simp)
        · rw [if_neg c4] at H
          have c4b0 : decide (x5_1 < (l0.length : Int)) = false := decide_eq_false c4
          clear c4
          by_cases c16 : x4_1.toList = ([] : List UInt8)
          · rw [if_pos c16] at H
            have c16b0 : (x4_1.toList == ([] : List UInt8)) = true := beq_iff_eq.mpr c16
            have c16b1 : (x4_1.toList != ([] : List UInt8)) = false := bne_eq_false_iff_eq.mpr c16
            clear c16
            simp only [Option.some.injEq, Prod.mk.injEq] at H
            obtain ⟨rfl, rfl⟩ := H
            go_wp2
            go_ret2
            exact ⟨by first | rfl | (simp [errW_none, errW_some] <;> rfl) | (simp [*, errW_none, errW_some] <;> rfl), by repeat (first | (with_reducible first | exact HB.out | apply below_alloc | apply pw_below_drewN | apply below_drew1) | exact HB.out)⟩
          · rw [if_neg c16] at H
            have c16b0 : (x4_1.toList == ([] : List UInt8)) = false := beq_eq_false_iff_ne.mpr c16
            have c16b1 : (x4_1.toList != ([] : List UInt8)) = true := bne_iff_ne.mpr c16
            simp only [Option.some.injEq, Prod.mk.injEq] at H
            obtain ⟨rfl, rfl⟩ := H
            go_wp2
            go_ret2
            exact ⟨by first | rfl | (simp [errW_none, errW_some] <;> rfl) | (simp [*, errW_none, errW_some] <;> rfl), by repeat (first | (with_reducible first | exact HB.out | apply below_alloc | apply pw_below_drewN | apply below_drew1) | exact HB.out)⟩
  · replace c3 := Bool.eq_false_iff.mpr c3
    subst c3
    have H1 : (some ((⟨#[]⟩ : ByteArray), 2)) = some (r1, r2) := by rw [if_neg (show ¬ (false = true) by decide)] at H; exact H
    clear H
    have H := H1
    clear H1
    simp only [Option.some.injEq, Prod.mk.injEq] at H
    obtain ⟨rfl, rfl⟩ := H
    go_enter Tryd.func12, Tryd.ntmps12
    go_wp2_with (first | ((with_reducible refine gate_callee (f := 28) rfl ?_); refine goesL_ (some 7) rfl rfl Tryd.func28 (by kernel_rfl) rfl #[.slice A0 l0.length c0, .int .i64 12, .int .i64 0, .int .i64 4] rfl (by (try simp only [List.map_toArray, List.map_cons, List.map_nil]); first | done | rfl | (simp only [List.length_drop, List.length_take]; rfl)) ?_; (with_reducible refine (spec_l01Within.calls k _ _ l0 12 0 4 false _ ?side1 ?side2 A2.out).mono ?_); (case side1 => repeat (first | exact HR0.out | (with_reducible refine Kd.C_alloc ?_ _) | (with_reducible refine Kd.C_drewN ?_ _) | (with_reducible refine Kd.C_drew ?_))); (case side2 => exact HC0.out); rintro e w' ⟨rfl, ⟨nd, rfl⟩⟩; refine ⟨_, rfl, ?_⟩))
    go_ret2
    exact ⟨by first | rfl | (simp [errW_none, errW_some] <;> rfl) | (simp [*, errW_none, errW_some] <;> rfl), by repeat (first | (with_reducible first | exact HB.out | apply below_alloc | apply pw_below_drewN | apply below_drew1) | exact HB.out)⟩
end Go.Proofs.YtjnacjdpggpiiaaDoor.PU
end
