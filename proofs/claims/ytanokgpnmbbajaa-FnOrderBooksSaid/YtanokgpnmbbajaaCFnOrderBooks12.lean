-- Gathered by this session's program wip/tool/shake.py out of its own texts and of what the kit's print and the session's patches of it wrote for this claim.
import Derived.Test.YtanokgpnmbbajaaProg
import Derived.ArgAppend
import Derived.Below
import Derived.BigQuiet
import Derived.Deep.AppendLies
import Derived.Deep.CutBlock
import Derived.Deep.DeepCutAuto
import Derived.Deep.Draws
import Derived.Deep.LoopGhost
import Derived.Deep.OwnRows
import Derived.Deep.QuietTactic
import Derived.Deep.RegionHeld3
import Derived.KernelRfl
import Derived.Laws.BitsLemmas
import Derived.Laws.BytesArg
import Derived.Laws.IdiomCopy
import Derived.Laws.MakeOwn
import Derived.Laws.OwnMore
import Derived.Laws.Rows
import Derived.Laws.Slices
import Derived.Laws.StructEq
import Derived.Lib.AppendStr
import Derived.Lib.ConvBytes
import Derived.Maps.AppendAt
import Derived.OrdersHeld
import Derived.OwnWalk
import Derived.RowKit
import Derived.RowKit3
import Derived.Tactics
import Derived.WalkKit
import Derived.WideLaws
import Derived.Test.YtanokgpnmbbajaaCFnOrderBooks7
section
namespace Go.Proofs.Ytanokgpnmbbajaa.PT
open Go.RowKit Go.Proofs.YtanokgpnmbbajaaW.PrintWords Go.Proofs.YtanokgpnmbbajaaW.PrintLast Go.Proofs.YtanokgpnmbbajaaW.PrintMore
attribute [local go_sem] max2_int min2_int max_two min_two max_three min_three max_four min_four   -- for this text's walks alone
set_option linter.unusedVariables false
set_option linter.unusedSimpArgs false
def laws_big.f (l0 : List Int) : Option (Bool) := some (decide ((l0.length : Int) > 4096))
set_option maxHeartbeats 8000000 in
set_option maxRecDepth 100000 in
theorem laws_big.calls (A0 : Option Addr) (c0 : Nat) (l0 : List Int) (r : Bool) (w : World) (hr0 : Kd.C (Kd.int .u8) w A0 l0.length l0) (hc0 : l0.length ≤ c0) (h : laws_big.f l0 = some r) :
    Calls Try.prog 36 #[.slice A0 l0.length c0] w fun e w' => e = .returned (.bool r) ∧ Drawn0 w w' := by
  have HR0 := Aside0.mk hr0
  have HC0 := Aside0.mk hc0
  clear hr0 hc0
  have H : (some (decide ((l0.length : Int) > 4096))) = some r := h
  clear h
  obtain rfl := Option.some.inj H
  go_enter Try.func36, Try.ntmps36
  go_wp2
  go_ret
  exact ⟨by first | rfl | (simp; done) | (simp [*]; done), by repeat (first | exact Drawn0.refl _ | apply Drawn0.step)⟩
def spec_l24Find.l0 : Nat → List (S78) → Int → Int → Option (Int)
  | 0, _, _, _ => none
  | k + 1, x0, x1, x5 => if x5 < (x0.length : Int) then (if 0 ≤ x5 then (if ((rd_T78 x0 x5).f0) = x1 then (some x5) else (spec_l24Find.l0 k x0 x1 (wrap64 (x5 + 1)))) else (none)) else (some (-1))
def spec_l24Find.f (k : Nat) (l0 : List (S78)) (a1 : Int) : Option (Int) := spec_l24Find.l0 k l0 a1 0
set_option maxHeartbeats 8000000 in
set_option maxRecDepth 100000 in
theorem spec_l24Find.calls (k : Nat) (A0 : Option Addr) (c0 : Nat) (l0 : List (S78)) (a1 : Int) (r : Int) (w : World) (hr0 : Kd.C k78 w A0 l0.length l0) (hc0 : l0.length ≤ c0) (h : spec_l24Find.f k l0 a1 = some r) :
    Calls Try.prog 134 #[.slice A0 l0.length c0, .int .i64 a1] w fun e w' => e = .returned (.int .i64 r) ∧ Drawn0 w w' := by
  have HR0 := Aside0.mk hr0
  have HC0 := Aside0.mk hc0
  clear hr0 hc0
  have H : (spec_l24Find.l0 k l0 a1 0) = some r := h
  clear h
  have H' := Aside0.mk H
  clear H
  go_enter Try.func134, Try.ntmps134
  go_wp2
  go_loopg [5] k (fun kq v5 w' => ∃ (x5_1 : Int), v5 = .int .i64 x5_1 ∧ Aside0 (spec_l24Find.l0 kq l0 a1 x5_1 = some r) ∧ Aside0 (kq ≤ k) ∧ Drawn0 w w')
  case atStart => exact ⟨(0), (by first | rfl | (simp; done) | (simp [*]; done)), H', ⟨Nat.le_refl _⟩, by repeat (first | exact Drawn0.refl _ | apply Drawn0.step)⟩
  case round =>
    clear H'
    try clear c1
    try clear p2
    obtain ⟨x5_1, rfl, HA, HK1, ⟨m1, rfl⟩⟩ := hrel
    cases gk with
    | zero => exact absurd HA.out (by simp [spec_l24Find.l0])
    | succ k1 =>
      have H := HA.out
      clear HA
      simp only [spec_l24Find.l0] at H
      by_cases c3 : x5_1 < (l0.length : Int)
      · rw [if_pos c3] at H
        have c3b0 : decide (x5_1 < (l0.length : Int)) = true := decide_eq_true c3
        clear c3
        by_cases c4 : 0 ≤ x5_1
        · rw [if_pos c4] at H
          have c4b0 : decide (0 ≤ x5_1) = true := decide_eq_true c4
          clear c4
          by_cases c5 : ((rd_T78 l0 x5_1).f0) = a1
          · rw [if_pos c5] at H
            have c5b0 : (((rd_T78 l0 x5_1).f0) == a1) = true := beq_iff_eq.mpr c5
            have c5b1 : (((rd_T78 l0 x5_1).f0) != a1) = false := bne_eq_false_iff_eq.mpr c5
            clear c5
            obtain rfl := Option.some.inj H
            have p188 : 0 ≤ (x5_1 : Int) := of_decide_eq_true (by first | (with_reducible assumption) | assumption)
            have q188 : x5_1 < (l0.length : Int) := of_decide_eq_true (by first | (with_reducible assumption) | assumption)
            obtain ⟨ad188, e188, hx188_0, hx188_1, hx188_2, hx188_3⟩ := at_T78 HR0.out x5_1 p188 q188
            cases e188
            replace p188 := eq_true p188
            replace q188 := eq_true q188
            go_wp2
            go_ret
            exact ⟨by first | rfl | (simp; done) | (simp [*]; done), by repeat (first | exact Drawn0.refl _ | apply Drawn0.step)⟩
          · rw [if_neg c5] at H
            have c5b0 : (((rd_T78 l0 x5_1).f0) == a1) = false := beq_eq_false_iff_ne.mpr c5
            have c5b1 : (((rd_T78 l0 x5_1).f0) != a1) = true := bne_iff_ne.mpr c5
            have H' := Aside0.mk H
            clear H
            have p188 : 0 ≤ (x5_1 : Int) := of_decide_eq_true (by first | (with_reducible assumption) | assumption)
            have q188 : x5_1 < (l0.length : Int) := of_decide_eq_true (by first | (with_reducible assumption) | assumption)
            obtain ⟨ad188, e188, hx188_0, hx188_1, hx188_2, hx188_3⟩ := at_T78 HR0.out x5_1 p188 q188
            cases e188
            replace p188 := eq_true p188
            replace q188 := eq_true q188
            go_wp2
            go_roundg k1
            case measure => have := HK1.out; omega
            case rel => exact ⟨(wrap64 (x5_1 + 1)), (by first | rfl | (simp; done) | (simp [*]; done)), H', ⟨by have := HK1.out; omega⟩, by repeat (first | exact Drawn0.refl _ | apply Drawn0.step)⟩
        · rw [if_neg c4] at H
          exact absurd H (by simp)
      · rw [if_neg c3] at H
        have c3b0 : decide (x5_1 < (l0.length : Int)) = false := decide_eq_false c3
        clear c3
        obtain rfl := Option.some.inj H
        go_wp2
        go_ret
        exact ⟨by first | rfl | (simp; done) | (simp [*]; done), by repeat (first | exact Drawn0.refl _ | apply Drawn0.step)⟩
end Go.Proofs.Ytanokgpnmbbajaa.PT
end
section
namespace Go.Proofs.Ytanokgpnmbbajaa.PT
open Go.RowKit Go.Proofs.YtanokgpnmbbajaaW.PrintWords Go.Proofs.YtanokgpnmbbajaaW.PrintLast Go.Proofs.YtanokgpnmbbajaaW.PrintMore
attribute [local go_sem] max2_int min2_int max_two min_two max_three min_three max_four min_four   -- for this text's walks alone
set_option linter.unusedVariables false
set_option linter.unusedSimpArgs false
def spec_l24Set.f (k : Nat) (l0 : List (S78)) (a1 : Int) (a2 : Int) : Option ((List (S78)) × Int) := (spec_IsOrderBook.f k l0).bind fun t189 => (if t189 = true then ((spec_l24Find.f k l0 a1).bind fun t190 => (if t190 < 0 then (some (([] : List (S78)), 4)) else (if 0 ≤ t190 then (if t190 < (l0.length : Int) then ((spec_l24Open.f ((rd_T78 l0 t190).f0) ((rd_T78 l0 t190).f1) ((rd_T78 l0 t190).f2) ((rd_T78 l0 t190).f3)).bind fun t192 => (if t192 = true then ((some (([] : List (S78)) : List (S78))).bind fun y193 => (if y193.length + l0.length < 4398046511104 then ((some (y193 ++ l0 : List (S78))).bind fun y196 => (if t190 < (y196.length : Int) then ((some (y196.set (t190 : Int).toNat (⟨(rd_T78 y196 t190).f0, (rd_T78 y196 t190).f1, (rd_T78 y196 t190).f2, a2⟩ : S78) : List (S78))).bind fun y199 => (if a2 < 0 then (some ((y199.set (t190 : Int).toNat (⟨(rd_T78 y199 t190).f0, (rd_T78 y199 t190).f1, (rd_T78 y199 t190).f2, wrap64 (((rd_T78 l0 t190).f3) + 1)⟩ : S78)), 0)) else (some (y199, 0)))) else (none))) else (none))) else (some (([] : List (S78)), 5)))) else (none)) else (none)))) else (some (([] : List (S78)), 1)))
set_option maxHeartbeats 8000000 in
set_option maxRecDepth 100000 in
theorem spec_l24Set.calls (k : Nat) (A0 : Option Addr) (c0 : Nat) (l0 : List (S78)) (a1 : Int) (a2 : Int) (r1 : List (S78)) (r2 : Int) (w : World) (hr0 : Kd.C k78 w A0 l0.length l0) (hc0 : l0.length ≤ c0) (h : spec_l24Set.f k l0 a1 a2 = some (r1, r2)) :
    Calls Try.prog 114 #[.slice A0 l0.length c0, .int .i64 a1, .int .i64 a2] w fun e w' => ∃ v0_ : Value, e = .returned (.tuple #[v0_, .int .i64 r2]) ∧ Kd.R k78 78 w' w.heap.size (fun _ => True) v0_ r1 ∧ Below w.heap.size w w' := by
  have hu78 := Try.underlying78
  have HR0 := Aside0.mk hr0
  have HC0 := Aside0.mk hc0
  clear hr0 hc0
  have HB := Aside0.mk (Below.refl w.heap.size w)
  have H : ((spec_IsOrderBook.f k l0).bind fun t189 => (if t189 = true then ((spec_l24Find.f k l0 a1).bind fun t190 => (if t190 < 0 then (some (([] : List (S78)), 4)) else (if 0 ≤ t190 then (if t190 < (l0.length : Int) then ((spec_l24Open.f ((rd_T78 l0 t190).f0) ((rd_T78 l0 t190).f1) ((rd_T78 l0 t190).f2) ((rd_T78 l0 t190).f3)).bind fun t192 => (if t192 = true then ((some (([] : List (S78)) : List (S78))).bind fun y193 => (if y193.length + l0.length < 4398046511104 then ((some (y193 ++ l0 : List (S78))).bind fun y196 => (if t190 < (y196.length : Int) then ((some (y196.set (t190 : Int).toNat (⟨(rd_T78 y196 t190).f0, (rd_T78 y196 t190).f1, (rd_T78 y196 t190).f2, a2⟩ : S78) : List (S78))).bind fun y199 => (if a2 < 0 then (some ((y199.set (t190 : Int).toNat (⟨(rd_T78 y199 t190).f0, (rd_T78 y199 t190).f1, (rd_T78 y199 t190).f2, wrap64 (((rd_T78 l0 t190).f3) + 1)⟩ : S78)), 0)) else (some (y199, 0)))) else (none))) else (none))) else (some (([] : List (S78)), 5)))) else (none)) else (none)))) else (some (([] : List (S78)), 1)))) = some (r1, r2) := h
  clear h
  replace H := Option.bind_eq_some_iff.mp H
  obtain ⟨t189, A40, H⟩ := H
  replace H : (if t189 = true then ((spec_l24Find.f k l0 a1).bind fun t190 => (if t190 < 0 then (some (([] : List (S78)), 4)) else (if 0 ≤ t190 then (if t190 < (l0.length : Int) then ((spec_l24Open.f ((rd_T78 l0 t190).f0) ((rd_T78 l0 t190).f1) ((rd_T78 l0 t190).f2) ((rd_T78 l0 t190).f3)).bind fun t192 => (if t192 = true then ((some (([] : List (S78)) : List (S78))).bind fun y193 => (if y193.length + l0.length < 4398046511104 then ((some (y193 ++ l0 : List (S78))).bind fun y196 => (if t190 < (y196.length : Int) then ((some (y196.set (t190 : Int).toNat (⟨(rd_T78 y196 t190).f0, (rd_T78 y196 t190).f1, (rd_T78 y196 t190).f2, a2⟩ : S78) : List (S78))).bind fun y199 => (if a2 < 0 then (some ((y199.set (t190 : Int).toNat (⟨(rd_T78 y199 t190).f0, (rd_T78 y199 t190).f1, (rd_T78 y199 t190).f2, wrap64 (((rd_T78 l0 t190).f3) + 1)⟩ : S78)), 0)) else (some (y199, 0)))) else (none))) else (none))) else (some (([] : List (S78)), 5)))) else (none)) else (none)))) else (some (([] : List (S78)), 1))) = some (r1, r2) := H
  have A4 := Aside0.mk A40
  clear A40
  by_cases c5 : t189 = true
  · subst c5
    have H1 : ((spec_l24Find.f k l0 a1).bind fun t190 => (if t190 < 0 then (some (([] : List (S78)), 4)) else (if 0 ≤ t190 then (if t190 < (l0.length : Int) then ((spec_l24Open.f ((rd_T78 l0 t190).f0) ((rd_T78 l0 t190).f1) ((rd_T78 l0 t190).f2) ((rd_T78 l0 t190).f3)).bind fun t192 => (if t192 = true then ((some (([] : List (S78)) : List (S78))).bind fun y193 => (if y193.length + l0.length < 4398046511104 then ((some (y193 ++ l0 : List (S78))).bind fun y196 => (if t190 < (y196.length : Int) then ((some (y196.set (t190 : Int).toNat (⟨(rd_T78 y196 t190).f0, (rd_T78 y196 t190).f1, (rd_T78 y196 t190).f2, a2⟩ : S78) : List (S78))).bind fun y199 => (if a2 < 0 then (some ((y199.set (t190 : Int).toNat (⟨(rd_T78 y199 t190).f0, (rd_T78 y199 t190).f1, (rd_T78 y199 t190).f2, wrap64 (((rd_T78 l0 t190).f3) + 1)⟩ : S78)), 0)) else (some (y199, 0)))) else (none))) else (none))) else (some (([] : List (S78)), 5)))) else (none)) else (none)))) = some (r1, r2) := by rw [if_pos rfl] at H; exact H
    clear H
    have H := H1
    clear H1
    replace H := Option.bind_eq_some_iff.mp H
    obtain ⟨t190, A60, H⟩ := H
    replace H : (if t190 < 0 then (some (([] : List (S78)), 4)) else (if 0 ≤ t190 then (if t190 < (l0.length : Int) then ((spec_l24Open.f ((rd_T78 l0 t190).f0) ((rd_T78 l0 t190).f1) ((rd_T78 l0 t190).f2) ((rd_T78 l0 t190).f3)).bind fun t192 => (if t192 = true then ((some (([] : List (S78)) : List (S78))).bind fun y193 => (if y193.length + l0.length < 4398046511104 then ((some (y193 ++ l0 : List (S78))).bind fun y196 => (if t190 < (y196.length : Int) then ((some (y196.set (t190 : Int).toNat (⟨(rd_T78 y196 t190).f0, (rd_T78 y196 t190).f1, (rd_T78 y196 t190).f2, a2⟩ : S78) : List (S78))).bind fun y199 => (if a2 < 0 then (some ((y199.set (t190 : Int).toNat (⟨(rd_T78 y199 t190).f0, (rd_T78 y199 t190).f1, (rd_T78 y199 t190).f2, wrap64 (((rd_T78 l0 t190).f3) + 1)⟩ : S78)), 0)) else (some (y199, 0)))) else (none))) else (none))) else (some (([] : List (S78)), 5)))) else (none)) else (none))) = some (r1, r2) := H
    have A6 := Aside0.mk A60
    clear A60
    by_cases c7 : t190 < 0
    · rw [if_pos c7] at H
      have c7b0 : decide (t190 < 0) = true := decide_eq_true c7
      clear c7
      simp only [Option.some.injEq, Prod.mk.injEq] at H
      obtain ⟨rfl, rfl⟩ := H
      go_enter Try.func114, Try.ntmps114
      go_wp2_with (first | ((with_reducible refine gate_callee (f := 67) rfl ?_); refine goesL_ (some 11) rfl rfl Try.func67 (by kernel_rfl) rfl #[.slice A0 l0.length c0] rfl (by (try simp only [List.map_toArray, List.map_cons, List.map_nil]); first | done | rfl | (simp only [List.length_drop, List.length_take]; rfl)) ?_; (with_reducible refine (spec_IsOrderBook.calls k _ _ l0 true _ ?side1 ?side2 A4.out).mono ?_); (case side1 => repeat (first | exact HR0.out | (with_reducible refine Kd.C_alloc ?_ _) | (with_reducible refine Kd.C_drewN ?_ _) | (with_reducible refine Kd.C_drew ?_))); (case side2 => exact HC0.out); rintro e w8 ⟨rfl, hb⟩; refine ⟨_, rfl, ?_⟩; have n0_ := Aside0.mk (below_step (by repeat (first | (with_reducible first | exact HB.out | apply below_alloc | apply pw_below_drewN | apply below_drew1) | exact HB.out)) hb); clear HB; have HB := n0_; clear n0_; (try clear hb); (try clear hb2); (try clear hk); (try clear hi)) | ((with_reducible refine gate_callee (f := 134) rfl ?_); refine goesL_ (some 15) rfl rfl Try.func134 (by kernel_rfl) rfl #[.slice A0 l0.length c0, .int .i64 a1] rfl (by (try simp only [List.map_toArray, List.map_cons, List.map_nil]); first | done | rfl | (simp only [List.length_drop, List.length_take]; rfl)) ?_; (with_reducible refine (spec_l24Find.calls k _ _ l0 a1 t190 _ ?side1 ?side2 A6.out).mono ?_); (case side1 => repeat (first | exact (Kd.C_below HR0.out HB.out) | (with_reducible refine Kd.C_alloc ?_ _) | (with_reducible refine Kd.C_drewN ?_ _) | (with_reducible refine Kd.C_drew ?_))); (case side2 => exact HC0.out); rintro e w' ⟨rfl, ⟨nd, rfl⟩⟩; refine ⟨_, rfl, ?_⟩))
      go_ret2
      exact ⟨_, by first | rfl | (simp [errW_none, errW_some] <;> rfl) | (simp [*, errW_none, errW_some] <;> rfl), by first | exact Kd.R_nil _ _ _ _ _ | exact Kd.N_nil _ _ _ _ _ | exact Kd.V_nil _ _ _ _ _ | exact Kd.Q_nil _ _ _ _ _ | exact Kd.S_nil _ _ _ _ _, by repeat (first | (with_reducible first | exact HB.out | apply below_alloc | apply pw_below_drewN | apply below_drew1) | exact HB.out)⟩
    · rw [if_neg c7] at H
      have c7b0 : decide (t190 < 0) = false := decide_eq_false c7
      clear c7
      by_cases c9 : 0 ≤ t190
      · rw [if_pos c9] at H
        have c9b0 : decide (0 ≤ t190) = true := decide_eq_true c9
        clear c9
        by_cases c10 : t190 < (l0.length : Int)
        · rw [if_pos c10] at H
          have c10b0 : decide (t190 < (l0.length : Int)) = true := decide_eq_true c10
          clear c10
          replace H := Option.bind_eq_some_iff.mp H
          obtain ⟨t192, A110, H⟩ := H
          replace H : (if t192 = true then ((some (([] : List (S78)) : List (S78))).bind fun y193 => (if y193.length + l0.length < 4398046511104 then ((some (y193 ++ l0 : List (S78))).bind fun y196 => (if t190 < (y196.length : Int) then ((some (y196.set (t190 : Int).toNat (⟨(rd_T78 y196 t190).f0, (rd_T78 y196 t190).f1, (rd_T78 y196 t190).f2, a2⟩ : S78) : List (S78))).bind fun y199 => (if a2 < 0 then (some ((y199.set (t190 : Int).toNat (⟨(rd_T78 y199 t190).f0, (rd_T78 y199 t190).f1, (rd_T78 y199 t190).f2, wrap64 (((rd_T78 l0 t190).f3) + 1)⟩ : S78)), 0)) else (some (y199, 0)))) else (none))) else (none))) else (some (([] : List (S78)), 5))) = some (r1, r2) := H
          have A11 := Aside0.mk A110
          clear A110
          by_cases c12 : t192 = true
          · subst c12
            have H1 : ((some (([] : List (S78)) : List (S78))).bind fun y193 => (if y193.length + l0.length < 4398046511104 then ((some (y193 ++ l0 : List (S78))).bind fun y196 => (if t190 < (y196.length : Int) then ((some (y196.set (t190 : Int).toNat (⟨(rd_T78 y196 t190).f0, (rd_T78 y196 t190).f1, (rd_T78 y196 t190).f2, a2⟩ : S78) : List (S78))).bind fun y199 => (if a2 < 0 then (some ((y199.set (t190 : Int).toNat (⟨(rd_T78 y199 t190).f0, (rd_T78 y199 t190).f1, (rd_T78 y199 t190).f2, wrap64 (((rd_T78 l0 t190).f3) + 1)⟩ : S78)), 0)) else (some (y199, 0)))) else (none))) else (none))) = some (r1, r2) := by rw [if_pos rfl] at H; exact H
            clear H
            have H := H1
            clear H1
            obtain ⟨y193, hy193⟩ : ∃ y_ : List (S78), y_ = (([] : List (S78))) := ⟨_, rfl⟩
            replace H : (if y193.length + l0.length < 4398046511104 then ((some (y193 ++ l0 : List (S78))).bind fun y196 => (if t190 < (y196.length : Int) then ((some (y196.set (t190 : Int).toNat (⟨(rd_T78 y196 t190).f0, (rd_T78 y196 t190).f1, (rd_T78 y196 t190).f2, a2⟩ : S78) : List (S78))).bind fun y199 => (if a2 < 0 then (some ((y199.set (t190 : Int).toNat (⟨(rd_T78 y199 t190).f0, (rd_T78 y199 t190).f1, (rd_T78 y199 t190).f2, wrap64 (((rd_T78 l0 t190).f3) + 1)⟩ : S78)), 0)) else (some (y199, 0)))) else (none))) else (none)) = some (r1, r2) := by first | (rw [hy193]; with_reducible exact H) | (have H2_ := (Option.bind_some _ _).symm.trans H; rw [hy193]; with_reducible exact H2_) | (have H2_ := (Option.bind_some _ _).symm.trans H; with_reducible exact H2_) | with_reducible exact H | (rw [hy193]; exact H) | exact H
            have Ny193 := Aside0.mk hy193
            clear hy193
            by_cases c13 : y193.length + l0.length < 4398046511104
            · rw [if_pos c13] at H
              have LMc13 := Aside0.mk c13
              clear c13
              obtain ⟨y196, hy196⟩ : ∃ y_ : List (S78), y_ = (y193 ++ l0) := ⟨_, rfl⟩
              replace H : (if t190 < (y196.length : Int) then ((some (y196.set (t190 : Int).toNat (⟨(rd_T78 y196 t190).f0, (rd_T78 y196 t190).f1, (rd_T78 y196 t190).f2, a2⟩ : S78) : List (S78))).bind fun y199 => (if a2 < 0 then (some ((y199.set (t190 : Int).toNat (⟨(rd_T78 y199 t190).f0, (rd_T78 y199 t190).f1, (rd_T78 y199 t190).f2, wrap64 (((rd_T78 l0 t190).f3) + 1)⟩ : S78)), 0)) else (some (y199, 0)))) else (none)) = some (r1, r2) := by first | (rw [hy196]; with_reducible exact H) | (have H2_ := (Option.bind_some _ _).symm.trans H; rw [hy196]; with_reducible exact H2_) | (have H2_ := (Option.bind_some _ _).symm.trans H; with_reducible exact H2_) | with_reducible exact H | (rw [hy196]; exact H) | exact H
              have Ny196 := Aside0.mk hy196
              clear hy196
              by_cases c14 : t190 < (y196.length : Int)
              · rw [if_pos c14] at H
                have c14b0 : decide (t190 < (y196.length : Int)) = true := decide_eq_true c14
                clear c14
                obtain ⟨y199, hy199⟩ : ∃ y_ : List (S78), y_ = (y196.set (t190 : Int).toNat (⟨(rd_T78 y196 t190).f0, (rd_T78 y196 t190).f1, (rd_T78 y196 t190).f2, a2⟩ : S78)) := ⟨_, rfl⟩
                replace H : (if a2 < 0 then (some ((y199.set (t190 : Int).toNat (⟨(rd_T78 y199 t190).f0, (rd_T78 y199 t190).f1, (rd_T78 y199 t190).f2, wrap64 (((rd_T78 l0 t190).f3) + 1)⟩ : S78)), 0)) else (some (y199, 0))) = some (r1, r2) := by first | (rw [hy199]; with_reducible exact H) | (have H2_ := (Option.bind_some _ _).symm.trans H; rw [hy199]; with_reducible exact H2_) | (have H2_ := (Option.bind_some _ _).symm.trans H; with_reducible exact H2_) | with_reducible exact H | (rw [hy199]; exact H) | exact H
                have Ny199 := Aside0.mk hy199
                clear hy199
                by_cases c16 : a2 < 0
                · rw [if_pos c16] at H
                  have c16b0 : decide (a2 < 0) = true := decide_eq_true c16
                  clear c16
                  obtain ⟨y201, hy201⟩ : ∃ y_ : List (S78), y_ = (y199.set (t190 : Int).toNat (⟨(rd_T78 y199 t190).f0, (rd_T78 y199 t190).f1, (rd_T78 y199 t190).f2, wrap64 (((rd_T78 l0 t190).f3) + 1)⟩ : S78)) := ⟨_, rfl⟩
                  replace H : (some (y201, 0)) = some (r1, r2) := by first | (rw [hy201]; with_reducible exact H) | (have H2_ := (Option.bind_some _ _).symm.trans H; rw [hy201]; with_reducible exact H2_) | (have H2_ := (Option.bind_some _ _).symm.trans H; with_reducible exact H2_) | with_reducible exact H | (rw [hy201]; exact H) | exact H
                  have Ny201 := Aside0.mk hy201
                  clear hy201
                  simp only [Option.some.injEq, Prod.mk.injEq] at H
                  obtain ⟨rfl, rfl⟩ := H
                  go_enter Try.func114, Try.ntmps114
                  go_wp2_with (first | ((with_reducible refine gate_callee (f := 67) rfl ?_); refine goesL_ (some 11) rfl rfl Try.func67 (by kernel_rfl) rfl #[.slice A0 l0.length c0] rfl (by (try simp only [List.map_toArray, List.map_cons, List.map_nil]); first | done | rfl | (simp only [List.length_drop, List.length_take]; rfl)) ?_; (with_reducible refine (spec_IsOrderBook.calls k _ _ l0 true _ ?side1 ?side2 A4.out).mono ?_); (case side1 => repeat (first | exact HR0.out | (with_reducible refine Kd.C_alloc ?_ _) | (with_reducible refine Kd.C_drewN ?_ _) | (with_reducible refine Kd.C_drew ?_))); (case side2 => exact HC0.out); rintro e w18 ⟨rfl, hb⟩; refine ⟨_, rfl, ?_⟩; have n0_ := Aside0.mk (below_step (by repeat (first | (with_reducible first | exact HB.out | apply below_alloc | apply pw_below_drewN | apply below_drew1) | exact HB.out)) hb); clear HB; have HB := n0_; clear n0_; (try clear hb); (try clear hb2); (try clear hk); (try clear hi)) | ((with_reducible refine gate_callee (f := 134) rfl ?_); refine goesL_ (some 15) rfl rfl Try.func134 (by kernel_rfl) rfl #[.slice A0 l0.length c0, .int .i64 a1] rfl (by (try simp only [List.map_toArray, List.map_cons, List.map_nil]); first | done | rfl | (simp only [List.length_drop, List.length_take]; rfl)) ?_; (with_reducible refine (spec_l24Find.calls k _ _ l0 a1 t190 _ ?side1 ?side2 A6.out).mono ?_); (case side1 => repeat (first | exact (Kd.C_below HR0.out HB.out) | (with_reducible refine Kd.C_alloc ?_ _) | (with_reducible refine Kd.C_drewN ?_ _) | (with_reducible refine Kd.C_drew ?_))); (case side2 => exact HC0.out); rintro e w' ⟨rfl, ⟨nd, rfl⟩⟩; refine ⟨_, rfl, ?_⟩; (try (rw [drewN_self w18]; generalize hq_ : World.drewN w18 _ = w18; have n0_ : Aside0 (Below w.heap.size w w18) := ⟨by rw [← hq_]; exact (by repeat (first | (with_reducible first | exact HB.out | apply below_alloc | apply pw_below_drewN | apply below_drew1) | exact HB.out))⟩; clear HB hq_; have HB := n0_; clear n0_)); have p191 : 0 ≤ (t190 : Int) := of_decide_eq_true (by first | (with_reducible assumption) | assumption); have q191 : t190 < (l0.length : Int) := of_decide_eq_true (by first | (with_reducible assumption) | assumption); obtain ⟨ad191, e191, hx191_0, hx191_1, hx191_2, hx191_3⟩ := at_T78 HR0.out t190 p191 q191; cases e191; replace hx191_0 := (HB.out.cell (World.block_lt_of_cell? _ _ hx191_0)).trans hx191_0; replace hx191_1 := (HB.out.cell (World.block_lt_of_cell? _ _ hx191_1)).trans hx191_1; replace hx191_2 := (HB.out.cell (World.block_lt_of_cell? _ _ hx191_2)).trans hx191_2; replace hx191_3 := (HB.out.cell (World.block_lt_of_cell? _ _ hx191_3)).trans hx191_3; replace p191 := eq_true p191; replace q191 := eq_true q191) | ((with_reducible refine gate_callee (f := 107) rfl ?_); refine goesL_ (some 22) rfl rfl Try.func107 (by kernel_rfl) rfl #[.agg #[.int .i64 ((rd_T78 l0 t190).f0), .int .i64 ((rd_T78 l0 t190).f1), .int .i64 ((rd_T78 l0 t190).f2), .int .i64 ((rd_T78 l0 t190).f3)]] rfl (by (try simp only [List.map_toArray, List.map_cons, List.map_nil]); first | done | rfl | (simp only [List.length_drop, List.length_take]; rfl)) ?_; (with_reducible refine (spec_l24Open.calls ((rd_T78 l0 t190).f0) ((rd_T78 l0 t190).f1) ((rd_T78 l0 t190).f2) ((rd_T78 l0 t190).f3) true _ A11.out).mono ?_); rintro e w19 ⟨rfl, hb⟩; refine ⟨_, rfl, ?_⟩; have n0_ := Aside0.mk (below_step (by repeat (first | (with_reducible first | exact HB.out | apply below_alloc | apply pw_below_drewN | apply below_drew1) | exact HB.out)) hb); clear HB; have HB := n0_; clear n0_; (try clear hb); (try clear hb2); (try clear hk); (try clear hi)) | ((with_reducible refine gate_dst (N := 24) rfl ?_); refine Kd.R_lit k78 _ 78 ?hg (N := 24) ?hd (xs := ([] : List (S78))) (inner := []) (ok := fun _ => True) (okp := fun _ => True) ?hr ?hp (fun _ hk => hk) trivial (Below.refl _ _) (Nat.le_refl _) (by simp) ?_; (case hd => rfl); (case hg => rfl); (case hr => first | (go_simp; done) | (go_simp; rfl)); (case hp => exact (Reps.none _ _)); intro v194 w20 ho21 hb hg_ hnew_; clear hg_ hnew_; (first | rw [← Ny193.out] at ho21 | (simp only [Int.reduceToNat] at ho21; rw [← Ny193.out] at ho21)); have n0_ := Aside0.mk (Kd.R_lower ho21 (below_size (by repeat (first | (with_reducible first | exact HB.out | apply below_alloc | apply pw_below_drewN | apply below_drew1) | exact HB.out)))); have n1_ := Aside0.mk (below_step (by repeat (first | (with_reducible first | exact HB.out | apply below_alloc | apply pw_below_drewN | apply below_drew1) | exact HB.out)) hb); clear HB; have HO195 := n0_; have HB := n1_; clear n0_ n1_; clear hb ho21) | ((with_reducible refine gate_builtin (b := .append) (xs := #[.tmp 24, .tmp 25]) rfl ?_); at_builtin; refine Kd.R_append_rows k78 (w0 := w) w.heap.size rfl (.tmp 24) (.tmp 25) 63 78 (.agg #[(.int .i64 0), (.int .i64 0), (.int .i64 0), (.int .i64 0)]) 32 rfl Try.underlying63 info78 rfl (by decide) (by omega) v194 y193 l0 _ _ _ (fun _ => True) (fun _ => False) rfl rfl ?aO ?aR (fun _ _ h => h) (fun _ h => h.elim) ?aF ?aB ?aS ?aL ?_; (case aR => repeat (first | exact (Kd.C_below HR0.out HB.out) | (with_reducible refine Kd.C_alloc ?_ _) | (with_reducible refine Kd.C_drewN ?_ _) | (with_reducible refine Kd.C_drew ?_))); (case aB => exact (by repeat (first | (with_reducible first | exact HB.out | apply below_alloc | apply pw_below_drewN | apply below_drew1) | exact HB.out))); (case aF => exact (fun _ _ => trivial)); (case aO => exact (by (with_reducible repeat (first | apply Kd.R_alloc | apply Kd.R_drewN | apply Kd.R_drew)); exact HO195.out)); (case aS => exact (below_size (by repeat (first | (with_reducible first | exact HB.out | apply below_alloc | apply pw_below_drewN | apply below_drew1) | exact HB.out)))); (case aL => have := LMc13.out; omega); intro v197 w22 ho hb hg hat; rw [← Ny196.out] at ho; have n0_ := Aside0.mk (hb); have n1_ := Aside0.mk (ho); clear HB; clear HO195; have HB := n0_; have HO198 := n1_; clear n0_ n1_; clear ho hb hg hat; have p15 : 0 ≤ (t190 : Int) := of_decide_eq_true (by first | (with_reducible assumption) | assumption); have q15 : (t190 : Int) < ((y196.length : Int) : Int) := of_decide_eq_true (by first | (with_reducible assumption) | assumption); obtain ⟨go15, co15, eo15, gb15, gl15, cl15, HG15⟩ := Kd.R_form HO198.out (by omega); (first | cases eo15 | (injection eo15 with ea_ en_ ec_; (first | subst ea_ | (injection ea_ with ea_; subst ea_)); subst ec_; clear en_)); have GB15 := Aside0.mk gb15; have GG15 := Aside0.mk HG15; clear gb15 gl15 HG15; obtain ⟨ce15, hcl15, hM15, hcc15, hfr15⟩ := Kd.R_elem HO198.out z78 (t190 : Int) p15 q15; obtain rfl := k78_openM hM15; have hx15_0 : w22.cell? ⟨go15, (t190 : Int).toNat * 4, none⟩ = some (.int .i64 ((rd_T78 y196 t190).f0)) := hcc15 0 _ rfl; have hx15_1 : w22.cell? ⟨go15, (t190 : Int).toNat * 4 + 1, none⟩ = some (.int .i64 ((rd_T78 y196 t190).f1)) := hcc15 1 _ rfl; have hx15_2 : w22.cell? ⟨go15, (t190 : Int).toNat * 4 + 2, none⟩ = some (.int .i64 ((rd_T78 y196 t190).f2)) := hcc15 2 _ rfl; have hx15_3 : w22.cell? ⟨go15, (t190 : Int).toNat * 4 + 3, none⟩ = some (.int .i64 ((rd_T78 y196 t190).f3)) := hcc15 3 _ rfl; have hf15_0 : w22.frozen? ⟨go15, (t190 : Int).toNat * 4, none⟩ = false := hfr15 0; have hf15_1 : w22.frozen? ⟨go15, (t190 : Int).toNat * 4 + 1, none⟩ = false := hfr15 1; have hf15_2 : w22.frozen? ⟨go15, (t190 : Int).toNat * 4 + 2, none⟩ = false := hfr15 2; have hf15_3 : w22.frozen? ⟨go15, (t190 : Int).toNat * 4 + 3, none⟩ = false := hfr15 3; clear hcl15 hcc15 hfr15 hM15; replace p15 := eq_true p15; replace q15 := eq_true q15; have HX23 := Aside0.mk (show Kd.R k78 78 w22 w.heap.size (fun _ => True) (.slice (some ⟨go15, 0, none⟩) y196.length co15) y196 from (by (with_reducible repeat (first | apply Kd.R_alloc | apply Kd.R_drewN | apply Kd.R_drew)); exact HO198.out)); obtain ⟨ce23, hcl23, hM23, hcc23, hfr23⟩ := Kd.R_elem HX23.out z78 (t190 : Int) (of_decide_eq_true (by first | (with_reducible assumption) | assumption)) (by have h_ : (t190 : Int) < ((y196.length : Int) : Int) := of_decide_eq_true (by first | (with_reducible assumption) | assumption); first | exact h_ | (have e_ := (Kd.R_reads' HO198.out).1; omega) | simpa using h_); obtain rfl := k78_openM hM23; have HP23 := Kd.R_seg HX23.out (t190 : Int) (of_decide_eq_true (by first | (with_reducible assumption) | assumption)) (by have h_ : (t190 : Int) < ((y196.length : Int) : Int) := of_decide_eq_true (by first | (with_reducible assumption) | assumption); first | exact h_ | (have e_ := (Kd.R_reads' HO198.out).1; omega) | simpa using h_) (seg := [.int .i64 a2]) (j := 3) hcl23 hcc23 (show 4 ≤ 4 from by decide) (x' := (⟨(rd_T78 y196 t190).f0, (rd_T78 y196 t190).f1, (rd_T78 y196 t190).f2, a2⟩ : S78)) (k78_mkM _ _ _ (⟨(rd_T78 y196 t190).f0, (rd_T78 y196 t190).f1, (rd_T78 y196 t190).f2, a2⟩ : S78) ) (fun _ hk => hk); have hx23_3 := hcc23 3 _ rfl; (try simp only [show (k78).sz = 4 from rfl, Nat.mul_one, Nat.add_zero] at hx23_3); have hf23_3 := hfr23 3; (try simp only [show (k78).sz = 4 from rfl, Nat.mul_one, Nat.add_zero] at hf23_3); clear hcl23 hcc23 hfr23 hM23) | ((with_reducible refine gate_store (t := 2) (p := 31) rfl ?_); refine store_event (t := 2) (p := 31) (v := ?vo_w24) (w1 := (w22.setCell ⟨go15, (t190 : Int).toNat * 4 + 3, none⟩ (.int .i64 a2))) ?hg ?ho ?hn ?hr ?_; (case ho => rfl); (case hg => rfl); (case hn => rfl); (case hr => first | (go_simp; done) | (go_simp; rfl)); intro w24 hw; have hg : w22.grownBy w24 (some go15) := (by rw [hw]; exact HP23.2); have hp_ : Kd.R k78 78 w24 w.heap.size (fun _ => True) (.slice (some ⟨go15, 0, none⟩) y196.length co15) y199 := (by rw [hw, Ny199.out]; exact HP23.1); clear HP23; have n0_ := Aside0.mk (hp_); have n1_ := Aside0.mk ((by rw [hw]; exact below_set (HB.out) GB15.out : Below w.heap.size w w24)); clear HO198; clear HB; have HO198 := n0_; have HB := n1_; clear n0_ n1_; clear hg hw hp_; have p200 : 0 ≤ (t190 : Int) := of_decide_eq_true (by first | (with_reducible assumption) | assumption); have q200 : t190 < (l0.length : Int) := of_decide_eq_true (by first | (with_reducible assumption) | assumption); obtain ⟨ad200, e200, hx200_0, hx200_1, hx200_2, hx200_3⟩ := at_T78 HR0.out t190 p200 q200; obtain rfl : ad191 = ad200 := (by injection e200); replace hx200_0 := (HB.out.cell (World.block_lt_of_cell? _ _ hx200_0)).trans hx200_0; replace hx200_1 := (HB.out.cell (World.block_lt_of_cell? _ _ hx200_1)).trans hx200_1; replace hx200_2 := (HB.out.cell (World.block_lt_of_cell? _ _ hx200_2)).trans hx200_2; replace hx200_3 := (HB.out.cell (World.block_lt_of_cell? _ _ hx200_3)).trans hx200_3; replace p200 := eq_true p200; replace q200 := eq_true q200; have p17 : 0 ≤ (t190 : Int) := of_decide_eq_true (by first | (with_reducible assumption) | assumption); have q17 : (t190 : Int) < ((y196.length : Int) : Int) := of_decide_eq_true (by first | (with_reducible assumption) | assumption); obtain ⟨ce17, hcl17, hM17, hcc17, hfr17⟩ := Kd.R_elem HO198.out z78 (t190 : Int) p17 q17; obtain rfl := k78_openM hM17; have hx17_0 : w24.cell? ⟨go15, (t190 : Int).toNat * 4, none⟩ = some (.int .i64 ((rd_T78 y199 t190).f0)) := hcc17 0 _ rfl; have hx17_1 : w24.cell? ⟨go15, (t190 : Int).toNat * 4 + 1, none⟩ = some (.int .i64 ((rd_T78 y199 t190).f1)) := hcc17 1 _ rfl; have hx17_2 : w24.cell? ⟨go15, (t190 : Int).toNat * 4 + 2, none⟩ = some (.int .i64 ((rd_T78 y199 t190).f2)) := hcc17 2 _ rfl; have hx17_3 : w24.cell? ⟨go15, (t190 : Int).toNat * 4 + 3, none⟩ = some (.int .i64 ((rd_T78 y199 t190).f3)) := hcc17 3 _ rfl; have hf17_0 : w24.frozen? ⟨go15, (t190 : Int).toNat * 4, none⟩ = false := hfr17 0; have hf17_1 : w24.frozen? ⟨go15, (t190 : Int).toNat * 4 + 1, none⟩ = false := hfr17 1; have hf17_2 : w24.frozen? ⟨go15, (t190 : Int).toNat * 4 + 2, none⟩ = false := hfr17 2; have hf17_3 : w24.frozen? ⟨go15, (t190 : Int).toNat * 4 + 3, none⟩ = false := hfr17 3; clear hcl17 hcc17 hfr17 hM17; replace p17 := eq_true p17; replace q17 := eq_true q17; have HX25 := Aside0.mk (show Kd.R k78 78 w24 w.heap.size (fun _ => True) (.slice (some ⟨go15, 0, none⟩) y196.length co15) y199 from (by (with_reducible repeat (first | apply Kd.R_alloc | apply Kd.R_drewN | apply Kd.R_drew)); exact HO198.out)); obtain ⟨ce25, hcl25, hM25, hcc25, hfr25⟩ := Kd.R_elem HX25.out z78 (t190 : Int) (of_decide_eq_true (by first | (with_reducible assumption) | assumption)) (by have h_ : (t190 : Int) < ((y196.length : Int) : Int) := of_decide_eq_true (by first | (with_reducible assumption) | assumption); first | exact h_ | (have e_ := (Kd.R_reads' HO198.out).1; omega) | simpa using h_); obtain rfl := k78_openM hM25; have HP25 := Kd.R_seg HX25.out (t190 : Int) (of_decide_eq_true (by first | (with_reducible assumption) | assumption)) (by have h_ : (t190 : Int) < ((y196.length : Int) : Int) := of_decide_eq_true (by first | (with_reducible assumption) | assumption); first | exact h_ | (have e_ := (Kd.R_reads' HO198.out).1; omega) | simpa using h_) (seg := [.int .i64 (wrap64 (((rd_T78 l0 t190).f3) + 1))]) (j := 3) hcl25 hcc25 (show 4 ≤ 4 from by decide) (x' := (⟨(rd_T78 y199 t190).f0, (rd_T78 y199 t190).f1, (rd_T78 y199 t190).f2, wrap64 (((rd_T78 l0 t190).f3) + 1)⟩ : S78)) (k78_mkM _ _ _ (⟨(rd_T78 y199 t190).f0, (rd_T78 y199 t190).f1, (rd_T78 y199 t190).f2, wrap64 (((rd_T78 l0 t190).f3) + 1)⟩ : S78) ) (fun _ hk => hk); have hx25_3 := hcc25 3 _ rfl; (try simp only [show (k78).sz = 4 from rfl, Nat.mul_one, Nat.add_zero] at hx25_3); have hf25_3 := hfr25 3; (try simp only [show (k78).sz = 4 from rfl, Nat.mul_one, Nat.add_zero] at hf25_3); clear hcl25 hcc25 hfr25 hM25) | ((with_reducible refine gate_store (t := 2) (p := 43) rfl ?_); refine store_event (t := 2) (p := 43) (v := ?vo_w26) (w1 := (w24.setCell ⟨go15, (t190 : Int).toNat * 4 + 3, none⟩ (.int .i64 (wrap64 (((rd_T78 l0 t190).f3) + 1))))) ?hg ?ho ?hn ?hr ?_; (case ho => rfl); (case hg => rfl); (case hn => rfl); (case hr => first | (go_simp; done) | (go_simp; rfl)); intro w26 hw; have hg : w24.grownBy w26 (some go15) := (by rw [hw]; exact HP25.2); have hp_ : Kd.R k78 78 w26 w.heap.size (fun _ => True) (.slice (some ⟨go15, 0, none⟩) y196.length co15) y201 := (by rw [hw, Ny201.out]; exact HP25.1); clear HP25; have n0_ := Aside0.mk (hp_); have n1_ := Aside0.mk ((by rw [hw]; exact below_set (HB.out) GB15.out : Below w.heap.size w w26)); clear HO198; clear HB; have HO198 := n0_; have HB := n1_; clear n0_ n1_; clear hg hw hp_))
                  go_ret2
                  exact ⟨_, by first | rfl | (simp [errW_none, errW_some] <;> rfl) | (simp [*, errW_none, errW_some] <;> rfl), by (with_reducible repeat (first | apply Kd.R_alloc | apply Kd.R_drewN | apply Kd.R_drew)); exact HO198.out, by repeat (first | (with_reducible first | exact HB.out | apply below_alloc | apply pw_below_drewN | apply below_drew1) | exact HB.out)⟩
                · rw [if_neg c16] at H
                  have c16b0 : decide (a2 < 0) = false := decide_eq_false c16
                  clear c16
                  simp only [Option.some.injEq, Prod.mk.injEq] at H
                  obtain ⟨rfl, rfl⟩ := H
                  go_enter Try.func114, Try.ntmps114
                  go_wp2_with (first | ((with_reducible refine gate_callee (f := 67) rfl ?_); refine goesL_ (some 11) rfl rfl Try.func67 (by kernel_rfl) rfl #[.slice A0 l0.length c0] rfl (by (try simp only [List.map_toArray, List.map_cons, List.map_nil]); first | done | rfl | (simp only [List.length_drop, List.length_take]; rfl)) ?_; (with_reducible refine (spec_IsOrderBook.calls k _ _ l0 true _ ?side1 ?side2 A4.out).mono ?_); (case side1 => repeat (first | exact HR0.out | (with_reducible refine Kd.C_alloc ?_ _) | (with_reducible refine Kd.C_drewN ?_ _) | (with_reducible refine Kd.C_drew ?_))); (case side2 => exact HC0.out); rintro e w27 ⟨rfl, hb⟩; refine ⟨_, rfl, ?_⟩; have n0_ := Aside0.mk (below_step (by repeat (first | (with_reducible first | exact HB.out | apply below_alloc | apply pw_below_drewN | apply below_drew1) | exact HB.out)) hb); clear HB; have HB := n0_; clear n0_; (try clear hb); (try clear hb2); (try clear hk); (try clear hi)) | ((with_reducible refine gate_callee (f := 134) rfl ?_); refine goesL_ (some 15) rfl rfl Try.func134 (by kernel_rfl) rfl #[.slice A0 l0.length c0, .int .i64 a1] rfl (by (try simp only [List.map_toArray, List.map_cons, List.map_nil]); first | done | rfl | (simp only [List.length_drop, List.length_take]; rfl)) ?_; (with_reducible refine (spec_l24Find.calls k _ _ l0 a1 t190 _ ?side1 ?side2 A6.out).mono ?_); (case side1 => repeat (first | exact (Kd.C_below HR0.out HB.out) | (with_reducible refine Kd.C_alloc ?_ _) | (with_reducible refine Kd.C_drewN ?_ _) | (with_reducible refine Kd.C_drew ?_))); (case side2 => exact HC0.out); rintro e w' ⟨rfl, ⟨nd, rfl⟩⟩; refine ⟨_, rfl, ?_⟩; (try (rw [drewN_self w27]; generalize hq_ : World.drewN w27 _ = w27; have n0_ : Aside0 (Below w.heap.size w w27) := ⟨by rw [← hq_]; exact (by repeat (first | (with_reducible first | exact HB.out | apply below_alloc | apply pw_below_drewN | apply below_drew1) | exact HB.out))⟩; clear HB hq_; have HB := n0_; clear n0_)); have p191 : 0 ≤ (t190 : Int) := of_decide_eq_true (by first | (with_reducible assumption) | assumption); have q191 : t190 < (l0.length : Int) := of_decide_eq_true (by first | (with_reducible assumption) | assumption); obtain ⟨ad191, e191, hx191_0, hx191_1, hx191_2, hx191_3⟩ := at_T78 HR0.out t190 p191 q191; cases e191; replace hx191_0 := (HB.out.cell (World.block_lt_of_cell? _ _ hx191_0)).trans hx191_0; replace hx191_1 := (HB.out.cell (World.block_lt_of_cell? _ _ hx191_1)).trans hx191_1; replace hx191_2 := (HB.out.cell (World.block_lt_of_cell? _ _ hx191_2)).trans hx191_2; replace hx191_3 := (HB.out.cell (World.block_lt_of_cell? _ _ hx191_3)).trans hx191_3; replace p191 := eq_true p191; replace q191 := eq_true q191) | ((with_reducible refine gate_callee (f := 107) rfl ?_); refine goesL_ (some 22) rfl rfl Try.func107 (by kernel_rfl) rfl #[.agg #[.int .i64 ((rd_T78 l0 t190).f0), .int .i64 ((rd_T78 l0 t190).f1), .int .i64 ((rd_T78 l0 t190).f2), .int .i64 ((rd_T78 l0 t190).f3)]] rfl (by (try simp only [List.map_toArray, List.map_cons, List.map_nil]); first | done | rfl | (simp only [List.length_drop, List.length_take]; rfl)) ?_; (with_reducible refine (spec_l24Open.calls ((rd_T78 l0 t190).f0) ((rd_T78 l0 t190).f1) ((rd_T78 l0 t190).f2) ((rd_T78 l0 t190).f3) true _ A11.out).mono ?_); rintro e w28 ⟨rfl, hb⟩; refine ⟨_, rfl, ?_⟩; have n0_ := Aside0.mk (below_step (by repeat (first | (with_reducible first | exact HB.out | apply below_alloc | apply pw_below_drewN | apply below_drew1) | exact HB.out)) hb); clear HB; have HB := n0_; clear n0_; (try clear hb); (try clear hb2); (try clear hk); (try clear hi)) | ((with_reducible refine gate_dst (N := 24) rfl ?_); refine Kd.R_lit k78 _ 78 ?hg (N := 24) ?hd (xs := ([] : List (S78))) (inner := []) (ok := fun _ => True) (okp := fun _ => True) ?hr ?hp (fun _ hk => hk) trivial (Below.refl _ _) (Nat.le_refl _) (by simp) ?_; (case hd => rfl); (case hg => rfl); (case hr => first | (go_simp; done) | (go_simp; rfl)); (case hp => exact (Reps.none _ _)); intro v194 w29 ho30 hb hg_ hnew_; clear hg_ hnew_; (first | rw [← Ny193.out] at ho30 | (simp only [Int.reduceToNat] at ho30; rw [← Ny193.out] at ho30)); have n0_ := Aside0.mk (Kd.R_lower ho30 (below_size (by repeat (first | (with_reducible first | exact HB.out | apply below_alloc | apply pw_below_drewN | apply below_drew1) | exact HB.out)))); have n1_ := Aside0.mk (below_step (by repeat (first | (with_reducible first | exact HB.out | apply below_alloc | apply pw_below_drewN | apply below_drew1) | exact HB.out)) hb); clear HB; have HO195 := n0_; have HB := n1_; clear n0_ n1_; clear hb ho30) | ((with_reducible refine gate_builtin (b := .append) (xs := #[.tmp 24, .tmp 25]) rfl ?_); at_builtin; refine Kd.R_append_rows k78 (w0 := w) w.heap.size rfl (.tmp 24) (.tmp 25) 63 78 (.agg #[(.int .i64 0), (.int .i64 0), (.int .i64 0), (.int .i64 0)]) 32 rfl Try.underlying63 info78 rfl (by decide) (by omega) v194 y193 l0 _ _ _ (fun _ => True) (fun _ => False) rfl rfl ?aO ?aR (fun _ _ h => h) (fun _ h => h.elim) ?aF ?aB ?aS ?aL ?_; (case aR => repeat (first | exact (Kd.C_below HR0.out HB.out) | (with_reducible refine Kd.C_alloc ?_ _) | (with_reducible refine Kd.C_drewN ?_ _) | (with_reducible refine Kd.C_drew ?_))); (case aB => exact (by repeat (first | (with_reducible first | exact HB.out | apply below_alloc | apply pw_below_drewN | apply below_drew1) | exact HB.out))); (case aF => exact (fun _ _ => trivial)); (case aO => exact (by (with_reducible repeat (first | apply Kd.R_alloc | apply Kd.R_drewN | apply Kd.R_drew)); exact HO195.out)); (case aS => exact (below_size (by repeat (first | (with_reducible first | exact HB.out | apply below_alloc | apply pw_below_drewN | apply below_drew1) | exact HB.out)))); (case aL => have := LMc13.out; omega); intro v197 w31 ho hb hg hat; rw [← Ny196.out] at ho; have n0_ := Aside0.mk (hb); have n1_ := Aside0.mk (ho); clear HB; clear HO195; have HB := n0_; have HO198 := n1_; clear n0_ n1_; clear ho hb hg hat; have p15 : 0 ≤ (t190 : Int) := of_decide_eq_true (by first | (with_reducible assumption) | assumption); have q15 : (t190 : Int) < ((y196.length : Int) : Int) := of_decide_eq_true (by first | (with_reducible assumption) | assumption); obtain ⟨go15, co15, eo15, gb15, gl15, cl15, HG15⟩ := Kd.R_form HO198.out (by omega); (first | cases eo15 | (injection eo15 with ea_ en_ ec_; (first | subst ea_ | (injection ea_ with ea_; subst ea_)); subst ec_; clear en_)); have GB15 := Aside0.mk gb15; have GG15 := Aside0.mk HG15; clear gb15 gl15 HG15; obtain ⟨ce15, hcl15, hM15, hcc15, hfr15⟩ := Kd.R_elem HO198.out z78 (t190 : Int) p15 q15; obtain rfl := k78_openM hM15; have hx15_0 : w31.cell? ⟨go15, (t190 : Int).toNat * 4, none⟩ = some (.int .i64 ((rd_T78 y196 t190).f0)) := hcc15 0 _ rfl; have hx15_1 : w31.cell? ⟨go15, (t190 : Int).toNat * 4 + 1, none⟩ = some (.int .i64 ((rd_T78 y196 t190).f1)) := hcc15 1 _ rfl; have hx15_2 : w31.cell? ⟨go15, (t190 : Int).toNat * 4 + 2, none⟩ = some (.int .i64 ((rd_T78 y196 t190).f2)) := hcc15 2 _ rfl; have hx15_3 : w31.cell? ⟨go15, (t190 : Int).toNat * 4 + 3, none⟩ = some (.int .i64 ((rd_T78 y196 t190).f3)) := hcc15 3 _ rfl; have hf15_0 : w31.frozen? ⟨go15, (t190 : Int).toNat * 4, none⟩ = false := hfr15 0; have hf15_1 : w31.frozen? ⟨go15, (t190 : Int).toNat * 4 + 1, none⟩ = false := hfr15 1; have hf15_2 : w31.frozen? ⟨go15, (t190 : Int).toNat * 4 + 2, none⟩ = false := hfr15 2; have hf15_3 : w31.frozen? ⟨go15, (t190 : Int).toNat * 4 + 3, none⟩ = false := hfr15 3; clear hcl15 hcc15 hfr15 hM15; replace p15 := eq_true p15; replace q15 := eq_true q15; have HX32 := Aside0.mk (show Kd.R k78 78 w31 w.heap.size (fun _ => True) (.slice (some ⟨go15, 0, none⟩) y196.length co15) y196 from (by (with_reducible repeat (first | apply Kd.R_alloc | apply Kd.R_drewN | apply Kd.R_drew)); exact HO198.out)); obtain ⟨ce32, hcl32, hM32, hcc32, hfr32⟩ := Kd.R_elem HX32.out z78 (t190 : Int) (of_decide_eq_true (by first | (with_reducible assumption) | assumption)) (by have h_ : (t190 : Int) < ((y196.length : Int) : Int) := of_decide_eq_true (by first | (with_reducible assumption) | assumption); first | exact h_ | (have e_ := (Kd.R_reads' HO198.out).1; omega) | simpa using h_); obtain rfl := k78_openM hM32; have HP32 := Kd.R_seg HX32.out (t190 : Int) (of_decide_eq_true (by first | (with_reducible assumption) | assumption)) (by have h_ : (t190 : Int) < ((y196.length : Int) : Int) := of_decide_eq_true (by first | (with_reducible assumption) | assumption); first | exact h_ | (have e_ := (Kd.R_reads' HO198.out).1; omega) | simpa using h_) (seg := [.int .i64 a2]) (j := 3) hcl32 hcc32 (show 4 ≤ 4 from by decide) (x' := (⟨(rd_T78 y196 t190).f0, (rd_T78 y196 t190).f1, (rd_T78 y196 t190).f2, a2⟩ : S78)) (k78_mkM _ _ _ (⟨(rd_T78 y196 t190).f0, (rd_T78 y196 t190).f1, (rd_T78 y196 t190).f2, a2⟩ : S78) ) (fun _ hk => hk); have hx32_3 := hcc32 3 _ rfl; (try simp only [show (k78).sz = 4 from rfl, Nat.mul_one, Nat.add_zero] at hx32_3); have hf32_3 := hfr32 3; (try simp only [show (k78).sz = 4 from rfl, Nat.mul_one, Nat.add_zero] at hf32_3); clear hcl32 hcc32 hfr32 hM32) | ((with_reducible refine gate_store (t := 2) (p := 31) rfl ?_); refine store_event (t := 2) (p := 31) (v := ?vo_w33) (w1 := (w31.setCell ⟨go15, (t190 : Int).toNat * 4 + 3, none⟩ (.int .i64 a2))) ?hg ?ho ?hn ?hr ?_; (case ho => rfl); (case hg => rfl); (case hn => rfl); (case hr => first | (go_simp; done) | (go_simp; rfl)); intro w33 hw; have hg : w31.grownBy w33 (some go15) := (by rw [hw]; exact HP32.2); have hp_ : Kd.R k78 78 w33 w.heap.size (fun _ => True) (.slice (some ⟨go15, 0, none⟩) y196.length co15) y199 := (by rw [hw, Ny199.out]; exact HP32.1); clear HP32; have n0_ := Aside0.mk (hp_); have n1_ := Aside0.mk ((by rw [hw]; exact below_set (HB.out) GB15.out : Below w.heap.size w w33)); clear HO198; clear HB; have HO198 := n0_; have HB := n1_; clear n0_ n1_; clear hg hw hp_))
                  go_ret2
                  exact ⟨_, by first | rfl | (simp [errW_none, errW_some] <;> rfl) | (simp [*, errW_none, errW_some] <;> rfl), by (with_reducible repeat (first | apply Kd.R_alloc | apply Kd.R_drewN | apply Kd.R_drew)); exact HO198.out, by repeat (first | (with_reducible first | exact HB.out | apply below_alloc | apply pw_below_drewN | apply below_drew1) | exact HB.out)⟩
              · rw [if_neg c14] at H
                exact absurd H (by simp)
            · rw [if_neg c13] at H
              exact absurd H (by simp)
          · replace c12 := Bool.eq_false_iff.mpr c12
            subst c12
            have H1 : (some (([] : List (S78)), 5)) = some (r1, r2) := by rw [if_neg (show ¬ (false = true) by decide)] at H; exact H
            clear H
            have H := H1
            clear H1
            simp only [Option.some.injEq, Prod.mk.injEq] at H
            obtain ⟨rfl, rfl⟩ := H
            go_enter Try.func114, Try.ntmps114
            go_wp2_with (first | ((with_reducible refine gate_callee (f := 67) rfl ?_); refine goesL_ (some 11) rfl rfl Try.func67 (by kernel_rfl) rfl #[.slice A0 l0.length c0] rfl (by (try simp only [List.map_toArray, List.map_cons, List.map_nil]); first | done | rfl | (simp only [List.length_drop, List.length_take]; rfl)) ?_; (with_reducible refine (spec_IsOrderBook.calls k _ _ l0 true _ ?side1 ?side2 A4.out).mono ?_); (case side1 => repeat (first | exact HR0.out | (with_reducible refine Kd.C_alloc ?_ _) | (with_reducible refine Kd.C_drewN ?_ _) | (with_reducible refine Kd.C_drew ?_))); (case side2 => exact HC0.out); rintro e w34 ⟨rfl, hb⟩; refine ⟨_, rfl, ?_⟩; have n0_ := Aside0.mk (below_step (by repeat (first | (with_reducible first | exact HB.out | apply below_alloc | apply pw_below_drewN | apply below_drew1) | exact HB.out)) hb); clear HB; have HB := n0_; clear n0_; (try clear hb); (try clear hb2); (try clear hk); (try clear hi)) | ((with_reducible refine gate_callee (f := 134) rfl ?_); refine goesL_ (some 15) rfl rfl Try.func134 (by kernel_rfl) rfl #[.slice A0 l0.length c0, .int .i64 a1] rfl (by (try simp only [List.map_toArray, List.map_cons, List.map_nil]); first | done | rfl | (simp only [List.length_drop, List.length_take]; rfl)) ?_; (with_reducible refine (spec_l24Find.calls k _ _ l0 a1 t190 _ ?side1 ?side2 A6.out).mono ?_); (case side1 => repeat (first | exact (Kd.C_below HR0.out HB.out) | (with_reducible refine Kd.C_alloc ?_ _) | (with_reducible refine Kd.C_drewN ?_ _) | (with_reducible refine Kd.C_drew ?_))); (case side2 => exact HC0.out); rintro e w' ⟨rfl, ⟨nd, rfl⟩⟩; refine ⟨_, rfl, ?_⟩; have p191 : 0 ≤ (t190 : Int) := of_decide_eq_true (by first | (with_reducible assumption) | assumption); have q191 : t190 < (l0.length : Int) := of_decide_eq_true (by first | (with_reducible assumption) | assumption); obtain ⟨ad191, e191, hx191_0, hx191_1, hx191_2, hx191_3⟩ := at_T78 HR0.out t190 p191 q191; cases e191; replace hx191_0 := (HB.out.cell (World.block_lt_of_cell? _ _ hx191_0)).trans hx191_0; replace hx191_1 := (HB.out.cell (World.block_lt_of_cell? _ _ hx191_1)).trans hx191_1; replace hx191_2 := (HB.out.cell (World.block_lt_of_cell? _ _ hx191_2)).trans hx191_2; replace hx191_3 := (HB.out.cell (World.block_lt_of_cell? _ _ hx191_3)).trans hx191_3; replace p191 := eq_true p191; replace q191 := eq_true q191) | ((with_reducible refine gate_callee (f := 107) rfl ?_); refine goesL_ (some 22) rfl rfl Try.func107 (by kernel_rfl) rfl #[.agg #[.int .i64 ((rd_T78 l0 t190).f0), .int .i64 ((rd_T78 l0 t190).f1), .int .i64 ((rd_T78 l0 t190).f2), .int .i64 ((rd_T78 l0 t190).f3)]] rfl (by (try simp only [List.map_toArray, List.map_cons, List.map_nil]); first | done | rfl | (simp only [List.length_drop, List.length_take]; rfl)) ?_; (with_reducible refine (spec_l24Open.calls ((rd_T78 l0 t190).f0) ((rd_T78 l0 t190).f1) ((rd_T78 l0 t190).f2) ((rd_T78 l0 t190).f3) false _ A11.out).mono ?_); rintro e w35 ⟨rfl, hb⟩; refine ⟨_, rfl, ?_⟩; have n0_ := Aside0.mk (below_step (by repeat (first | (with_reducible first | exact HB.out | apply below_alloc | apply pw_below_drewN | apply below_drew1) | exact HB.out)) hb); clear HB; have HB := n0_; clear n0_; (try clear hb); (try clear hb2); (try clear hk); (try clear hi)))
            go_ret2
            exact ⟨_, by first | rfl | (simp [errW_none, errW_some] <;> rfl) | (simp [*, errW_none, errW_some] <;> rfl), by first | exact Kd.R_nil _ _ _ _ _ | exact Kd.N_nil _ _ _ _ _ | exact Kd.V_nil _ _ _ _ _ | exact Kd.Q_nil _ _ _ _ _ | exact Kd.S_nil _ _ _ _ _, by repeat (first | (with_reducible first | exact HB.out | apply below_alloc | apply pw_below_drewN | apply below_drew1) | exact HB.out)⟩
        · rw [if_neg c10] at H
          exact absurd H (by simp)
      · rw [if_neg c9] at H
        exact absurd H (by simp)
  · replace c5 := Bool.eq_false_iff.mpr c5
    subst c5
    have H1 : (some (([] : List (S78)), 1)) = some (r1, r2) := by rw [if_neg (show ¬ (false = true) by decide)] at H; exact H
    clear H
    have H := H1
    clear H1
    simp only [Option.some.injEq, Prod.mk.injEq] at H
    obtain ⟨rfl, rfl⟩ := H
    go_enter Try.func114, Try.ntmps114
    go_wp2_with (first | ((with_reducible refine gate_callee (f := 67) rfl ?_); refine goesL_ (some 11) rfl rfl Try.func67 (by kernel_rfl) rfl #[.slice A0 l0.length c0] rfl (by (try simp only [List.map_toArray, List.map_cons, List.map_nil]); first | done | rfl | (simp only [List.length_drop, List.length_take]; rfl)) ?_; (with_reducible refine (spec_IsOrderBook.calls k _ _ l0 false _ ?side1 ?side2 A4.out).mono ?_); (case side1 => repeat (first | exact HR0.out | (with_reducible refine Kd.C_alloc ?_ _) | (with_reducible refine Kd.C_drewN ?_ _) | (with_reducible refine Kd.C_drew ?_))); (case side2 => exact HC0.out); rintro e w36 ⟨rfl, hb⟩; refine ⟨_, rfl, ?_⟩; have n0_ := Aside0.mk (below_step (by repeat (first | (with_reducible first | exact HB.out | apply below_alloc | apply pw_below_drewN | apply below_drew1) | exact HB.out)) hb); clear HB; have HB := n0_; clear n0_; (try clear hb); (try clear hb2); (try clear hk); (try clear hi)))
    go_ret2
    exact ⟨_, by first | rfl | (simp [errW_none, errW_some] <;> rfl) | (simp [*, errW_none, errW_some] <;> rfl), by first | exact Kd.R_nil _ _ _ _ _ | exact Kd.N_nil _ _ _ _ _ | exact Kd.V_nil _ _ _ _ _ | exact Kd.Q_nil _ _ _ _ _ | exact Kd.S_nil _ _ _ _ _, by repeat (first | (with_reducible first | exact HB.out | apply below_alloc | apply pw_below_drewN | apply below_drew1) | exact HB.out)⟩
end Go.Proofs.Ytanokgpnmbbajaa.PT
end
section
namespace Go.Proofs.Ytanokgpnmbbajaa.PT
open Go.RowKit Go.Proofs.YtanokgpnmbbajaaW.PrintWords Go.Proofs.YtanokgpnmbbajaaW.PrintLast Go.Proofs.YtanokgpnmbbajaaW.PrintMore
attribute [local go_sem] max2_int min2_int max_two min_two max_three min_three max_four min_four   -- for this text's walks alone
set_option linter.unusedVariables false
set_option linter.unusedSimpArgs false
def spec_AdvanceOrder.f (k : Nat) (l0 : List (S78)) (a1 : Int) : Option ((List (S78)) × Int) := (spec_l24Set.f k l0 a1 (-1)).bind fun bt202 => (some (bt202.1, bt202.2))
set_option maxHeartbeats 8000000 in
set_option maxRecDepth 100000 in
theorem spec_AdvanceOrder.calls (k : Nat) (A0 : Option Addr) (c0 : Nat) (l0 : List (S78)) (a1 : Int) (r1 : List (S78)) (r2 : Int) (w : World) (hr0 : Kd.C k78 w A0 l0.length l0) (hc0 : l0.length ≤ c0) (h : spec_AdvanceOrder.f k l0 a1 = some (r1, r2)) :
    Calls Try.prog 57 #[.slice A0 l0.length c0, .int .i64 a1] w fun e w' => ∃ v0_ : Value, e = .returned (.tuple #[v0_, .int .i64 r2]) ∧ Kd.R k78 78 w' w.heap.size (fun _ => True) v0_ r1 ∧ Below w.heap.size w w' := by
  have HR0 := Aside0.mk hr0
  have HC0 := Aside0.mk hc0
  clear hr0 hc0
  have HB := Aside0.mk (Below.refl w.heap.size w)
  have H : ((spec_l24Set.f k l0 a1 (-1)).bind fun bt202 => (some (bt202.1, bt202.2))) = some (r1, r2) := h
  clear h
  replace H := Option.bind_eq_some_iff.mp H
  obtain ⟨⟨t202, t203⟩, A30, H⟩ := H
  replace H : (some (t202, t203)) = some (r1, r2) := H
  have A3 := Aside0.mk A30
  clear A30
  simp only [Option.some.injEq, Prod.mk.injEq] at H
  obtain ⟨rfl, rfl⟩ := H
  go_enter Try.func57, Try.ntmps57
  go_wp2_with (first | ((with_reducible refine gate_callee (f := 114) rfl ?_); refine goesL_ (some 8) rfl rfl Try.func114 (by kernel_rfl) rfl #[.slice A0 l0.length c0, .int .i64 a1, .int .i64 (-1)] rfl (by (try simp only [List.map_toArray, List.map_cons, List.map_nil]); first | done | rfl | (simp only [List.length_drop, List.length_take]; rfl)) ?_; (with_reducible refine (spec_l24Set.calls k _ _ l0 a1 (-1) t202 t203 _ ?side1 ?side2 A3.out).mono ?_); (case side1 => repeat (first | exact HR0.out | (with_reducible refine Kd.C_alloc ?_ _) | (with_reducible refine Kd.C_drewN ?_ _) | (with_reducible refine Kd.C_drew ?_))); (case side2 => exact HC0.out); rintro e w4 ⟨v204, rfl, ho0, hb⟩; refine ⟨_, rfl, ?_⟩; have n0_ := Aside0.mk (Kd.R_lower ho0 (below_size (by repeat (first | (with_reducible first | exact HB.out | apply below_alloc | apply pw_below_drewN | apply below_drew1) | exact HB.out)))); have n1_ := Aside0.mk (below_step (by repeat (first | (with_reducible first | exact HB.out | apply below_alloc | apply pw_below_drewN | apply below_drew1) | exact HB.out)) hb); clear HB; have HO205 := n0_; have HB := n1_; clear n0_ n1_; (try clear hb); (try clear hb2); (try clear hk); (try clear hi); (try clear ho0)))
  go_ret2
  exact ⟨_, by first | rfl | (simp [errW_none, errW_some] <;> rfl) | (simp [*, errW_none, errW_some] <;> rfl), by (with_reducible repeat (first | apply Kd.R_alloc | apply Kd.R_drewN | apply Kd.R_drew)); exact HO205.out, by repeat (first | (with_reducible first | exact HB.out | apply below_alloc | apply pw_below_drewN | apply below_drew1) | exact HB.out)⟩
end Go.Proofs.Ytanokgpnmbbajaa.PT
end
