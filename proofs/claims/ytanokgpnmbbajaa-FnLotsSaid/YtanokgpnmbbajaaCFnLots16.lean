-- Gathered by this session's program wip/tool/shake.py out of its own texts and of what the kit's print and the session's patches of it wrote for this claim.
import Derived.Test.YtanokgpnmbbajaaProg
import Derived.ArgAppend
import Derived.Below
import Derived.BigQuiet
import Derived.Deep.AppendLies
import Derived.Deep.CutBlock
import Derived.Deep.DeepCutAuto
import Derived.Deep.Draws
import Derived.Deep.LoopGhost
import Derived.Deep.OwnRows
import Derived.Deep.QuietTactic
import Derived.Deep.RegionHeld3
import Derived.Deep.RegionWith
import Derived.KernelRfl
import Derived.Laws.BitsLemmas
import Derived.Laws.BytesArg
import Derived.Laws.CopyOwn
import Derived.Laws.CopyRow
import Derived.Laws.Externs
import Derived.Laws.IdiomCopy
import Derived.Laws.MakeOwn
import Derived.Laws.OwnMore
import Derived.Laws.Rows
import Derived.Laws.Slices
import Derived.Laws.StructEq
import Derived.Lib.AppendStr
import Derived.Lib.AppendZerosOnto
import Derived.Lib.ConvBytes
import Derived.Lib.Overlaps
import Derived.Lib.SliceRun
import Derived.Lib.Walk
import Derived.Maps.AppendAt
import Derived.OrdersHeld
import Derived.OwnWalk
import Derived.RowKit
import Derived.RowKit3
import Derived.Shelf.SlSortCmp.KitK
import Derived.StillTailTactics
import Derived.Tactics
import Derived.WalkKit
import Derived.WideLaws
import Derived.Test.YtanokgpnmbbajaaCFnLots11
import Derived.Test.YtanokgpnmbbajaaCFnLots12
import Derived.Test.YtanokgpnmbbajaaCFnLots15
section
namespace Go.Proofs.Ytanokgpnmbbajaa.PF
open Go.RowKit Go.Proofs.YtanokgpnmbbajaaW.PrintWords Go.Proofs.YtanokgpnmbbajaaW.PrintLast Go.Proofs.YtanokgpnmbbajaaW.PrintMore
attribute [local go_sem] max2_int min2_int max_two min_two max_three min_three max_four min_four   -- for this text's walks alone
set_option linter.unusedVariables false
set_option linter.unusedSimpArgs false
/-- How many of the first elements are of no later day. -/
def lotPlace (l : List S43) (c : Int) : Nat := (l.takeWhile (fun o => decide (o.f2 ≤ c))).length
theorem lotPlace_le : ∀ (l : List S43) (c : Int), lotPlace l c ≤ l.length
  | [], c => Nat.le_refl _
  | x :: l, c => by
    have ih := lotPlace_le l c
    unfold lotPlace at ih ⊢
    rw [List.takeWhile_cons]
    split <;> simp <;> omega
theorem lotPlace_lt : ∀ (l : List S43) (c : Int) (t : Nat), t < lotPlace l c → (l.getD t z43).f2 ≤ c
  | [], c, t, h => by simp [lotPlace] at h
  | x :: l, c, t, h => by
    unfold lotPlace at h
    rw [List.takeWhile_cons] at h
    split at h
    · rename_i hx
      cases t with
      | zero => simpa using hx
      | succ t => exact lotPlace_lt l c t (by unfold lotPlace; simpa using h)
    · simp at h
theorem lotPlace_stop : ∀ (l : List S43) (c : Int), lotPlace l c < l.length → ¬ (l.getD (lotPlace l c) z43).f2 ≤ c
  | [], c, h => by simp at h
  | x :: l, c, h => by
    have ih := lotPlace_stop l c
    unfold lotPlace at h ih ⊢
    rw [List.takeWhile_cons] at h ⊢
    split at h
    · rename_i hx
      rw [if_pos hx]
      simpa using ih (by simpa using h)
    · rename_i hx
      rw [if_neg hx]
      simpa using hx
/-- A lot behind all that are of no later day. -/
def lotPut (l : List S43) (x : S43) : List S43 := l.take (lotPlace l x.f2) ++ x :: l.drop (lotPlace l x.f2)
def impl_ReceiveLot.f (k : Nat) (l0 : List S43) (a b c : Int) : Option (List S43 × Int) := (impl_IsStock.f k l0).bind fun t => (if t = true then ((impl_isLot.f a b c).bind fun u => (if u = true then (if l0.length ≤ 1000 then (if l0.length = 30 then some ([], 3) else some (lotPut l0 ⟨a, b, c⟩, 0)) else none) else some ([], 2))) else some ([], 1))
set_option maxHeartbeats 1000000 in
set_option maxRecDepth 100000 in
theorem impl_ReceiveLot.calls (k : Nat) (A0 : Option Addr) (c0 : Nat) (l0 : List S43) (a b c : Int) (r1 : List S43) (r2 : Int) (w : World) (hr0 : Kd.C k43 w A0 l0.length l0) (hc0 : l0.length ≤ c0) (h : impl_ReceiveLot.f k l0 a b c = some (r1, r2)) :
    Calls Try.prog 33 #[.slice A0 l0.length c0, .agg #[.int .i64 a, .int .i64 b, .int .i64 c]] w fun e w' => ∃ v0_ : Value, e = .returned (.tuple #[v0_, .int .i64 r2]) ∧ Kd.R k43 43 w' w.heap.size (fun _ => True) v0_ r1 ∧ Below w.heap.size w w' := by
  have HW := Aside0.mk (Below.refl w.heap.size w)
  have HR0 := Aside0.mk hr0
  have HC0 := Aside0.mk hc0
  clear hr0 hc0
  unfold impl_ReceiveLot.f at h
  obtain ⟨t, h4, H⟩ := Option.bind_eq_some_iff.mp h
  have A4 := Aside0.mk h4
  clear h h4
  cases t with
  | false =>
    obtain ⟨rfl, rfl⟩ : [] = r1 ∧ 1 = r2 := by simpa using H
    clear H
    go_enter Try.func33, Try.ntmps33
    go_wp2_with (go_at_call 42; (with_reducible refine (impl_IsStock.calls k _ _ l0 false _ ?side1 ?side2 A4.out).mono ?_); (case side1 => exact Kd.C_below HR0.out (HW.out.alloc (Nat.le_refl _) _)); (case side2 => exact HC0.out); rintro e w1 ⟨rfl, hb⟩; have HB1 := Aside0.mk ((HW.out.alloc (Nat.le_refl _) _).trans (hb.mono (by simp))); have hbx1 : w1.heap[w.heap.size]? = some (.cells #[.int .i64 a, .int .i64 b, .int .i64 c] 43 (0, 0)) := ((hb.block w.heap.size (by simp)).trans (heap_alloc_new w _)); have p0 : w1.cell? ⟨w.heap.size, 0, none⟩ = some (Value.int .i64 a) := (by simp [World.cell?, hbx1]); have p1 : w1.cell? ⟨w.heap.size, 1, none⟩ = some (Value.int .i64 b) := (by simp [World.cell?, hbx1]); have p2 : w1.cell? ⟨w.heap.size, 2, none⟩ = some (Value.int .i64 c) := (by simp [World.cell?, hbx1]); have HBX1 := Aside0.mk hbx1; clear hb hbx1)
    go_ret2
    exact ⟨_, rfl, Kd.R_nil _ _ _ _ _, HB1.out⟩
  | true =>
    rw [if_pos rfl] at H
    obtain ⟨u, h5, H⟩ := Option.bind_eq_some_iff.mp H
    have A5 := Aside0.mk h5
    clear h5
    cases u with
    | false =>
      obtain ⟨rfl, rfl⟩ : [] = r1 ∧ 2 = r2 := by simpa using H
      clear H
      go_enter Try.func33, Try.ntmps33
      go_wp2_with (first | (go_at_call 42; (with_reducible refine (impl_IsStock.calls k _ _ l0 true _ ?side1 ?side2 A4.out).mono ?_); (case side1 => exact Kd.C_below HR0.out (HW.out.alloc (Nat.le_refl _) _)); (case side2 => exact HC0.out); rintro e w1 ⟨rfl, hb⟩; have HB1 := Aside0.mk ((HW.out.alloc (Nat.le_refl _) _).trans (hb.mono (by simp))); have hbx1 : w1.heap[w.heap.size]? = some (.cells #[.int .i64 a, .int .i64 b, .int .i64 c] 43 (0, 0)) := ((hb.block w.heap.size (by simp)).trans (heap_alloc_new w _)); have p0 : w1.cell? ⟨w.heap.size, 0, none⟩ = some (Value.int .i64 a) := (by simp [World.cell?, hbx1]); have p1 : w1.cell? ⟨w.heap.size, 1, none⟩ = some (Value.int .i64 b) := (by simp [World.cell?, hbx1]); have p2 : w1.cell? ⟨w.heap.size, 2, none⟩ = some (Value.int .i64 c) := (by simp [World.cell?, hbx1]); have HBX1 := Aside0.mk hbx1; clear hb hbx1) | (go_at_call 95; (with_reducible refine (impl_isLot.calls a b c false _ A5.out).mono ?_); rintro e w2 ⟨rfl, hb⟩; have HB2 := Aside0.mk (HB1.out.trans (hb.mono HB1.out.size)); have hbx2 : w2.heap[w.heap.size]? = some (.cells #[.int .i64 a, .int .i64 b, .int .i64 c] 43 (0, 0)) := ((hb.block w.heap.size (Array.getElem?_eq_some_iff.1 HBX1.out).1).trans HBX1.out); have HBX2 := Aside0.mk hbx2; clear hb hbx2))
      go_ret2
      exact ⟨_, rfl, Kd.R_nil _ _ _ _ _, HB2.out⟩
    | true =>
      rw [if_pos rfl] at H
      by_cases hl : l0.length ≤ 1000
      · rw [if_pos hl] at H
        by_cases hg : l0.length = 30
        · rw [if_pos hg] at H
          obtain ⟨rfl, rfl⟩ : [] = r1 ∧ 3 = r2 := by simpa using H
          have b0 : ((l0.length : Int) == 30) = true := beq_iff_eq.2 (by omega)
          have b1 : (l0.length : Int) = 30 := by omega
          have HG := Aside0.mk hg
          clear H hl hg
          go_enter Try.func33, Try.ntmps33
          go_wp2_with (first | (go_at_call 42; (with_reducible refine (impl_IsStock.calls k _ _ l0 true _ ?side1 ?side2 A4.out).mono ?_); (case side1 => exact Kd.C_below HR0.out (HW.out.alloc (Nat.le_refl _) _)); (case side2 => exact HC0.out); rintro e w1 ⟨rfl, hb⟩; have HB1 := Aside0.mk ((HW.out.alloc (Nat.le_refl _) _).trans (hb.mono (by simp))); have hbx1 : w1.heap[w.heap.size]? = some (.cells #[.int .i64 a, .int .i64 b, .int .i64 c] 43 (0, 0)) := ((hb.block w.heap.size (by simp)).trans (heap_alloc_new w _)); have p0 : w1.cell? ⟨w.heap.size, 0, none⟩ = some (Value.int .i64 a) := (by simp [World.cell?, hbx1]); have p1 : w1.cell? ⟨w.heap.size, 1, none⟩ = some (Value.int .i64 b) := (by simp [World.cell?, hbx1]); have p2 : w1.cell? ⟨w.heap.size, 2, none⟩ = some (Value.int .i64 c) := (by simp [World.cell?, hbx1]); have HBX1 := Aside0.mk hbx1; clear hb hbx1) | (go_at_call 95; (with_reducible refine (impl_isLot.calls a b c true _ A5.out).mono ?_); rintro e w2 ⟨rfl, hb⟩; have HB2 := Aside0.mk (HB1.out.trans (hb.mono HB1.out.size)); have hbx2 : w2.heap[w.heap.size]? = some (.cells #[.int .i64 a, .int .i64 b, .int .i64 c] 43 (0, 0)) := ((hb.block w.heap.size (Array.getElem?_eq_some_iff.1 HBX1.out).1).trans HBX1.out); have HBX2 := Aside0.mk hbx2; clear hb hbx2))
          go_ret2
          exact ⟨_, rfl, Kd.R_nil _ _ _ _ _, HB2.out⟩
        · rw [if_neg hg] at H
          obtain ⟨rfl, rfl⟩ : lotPut l0 ⟨a, b, c⟩ = r1 ∧ 0 = r2 := by simpa using H
          have b0 : ((l0.length : Int) == 30) = false := beq_eq_false_iff_ne.2 (by omega)
          have b1 : ¬ ((l0.length : Int) = 30) := by omega
          have HL := Aside0.mk hl
          have HCL := Aside0.mk (show impl_Lot_92.f l0 = some l0 by unfold impl_Lot_92.f; rw [if_pos (by omega)])
          clear H hl hg
          go_enter Try.func33, Try.ntmps33
          go_wp2_with (first | (go_at_call 42; (with_reducible refine (impl_IsStock.calls k _ _ l0 true _ ?side1 ?side2 A4.out).mono ?_); (case side1 => exact Kd.C_below HR0.out (HW.out.alloc (Nat.le_refl _) _)); (case side2 => exact HC0.out); rintro e w1 ⟨rfl, hb⟩; have HB1 := Aside0.mk ((HW.out.alloc (Nat.le_refl _) _).trans (hb.mono (by simp))); have hbx1 : w1.heap[w.heap.size]? = some (.cells #[.int .i64 a, .int .i64 b, .int .i64 c] 43 (0, 0)) := ((hb.block w.heap.size (by simp)).trans (heap_alloc_new w _)); have p0 : w1.cell? ⟨w.heap.size, 0, none⟩ = some (Value.int .i64 a) := (by simp [World.cell?, hbx1]); have p1 : w1.cell? ⟨w.heap.size, 1, none⟩ = some (Value.int .i64 b) := (by simp [World.cell?, hbx1]); have p2 : w1.cell? ⟨w.heap.size, 2, none⟩ = some (Value.int .i64 c) := (by simp [World.cell?, hbx1]); have HBX1 := Aside0.mk hbx1; clear hb hbx1) | (go_at_call 95; (with_reducible refine (impl_isLot.calls a b c true _ A5.out).mono ?_); rintro e w2 ⟨rfl, hb⟩; have HB2 := Aside0.mk (HB1.out.trans (hb.mono HB1.out.size)); have hbx2 : w2.heap[w.heap.size]? = some (.cells #[.int .i64 a, .int .i64 b, .int .i64 c] 43 (0, 0)) := ((hb.block w.heap.size (Array.getElem?_eq_some_iff.1 HBX1.out).1).trans HBX1.out); have HBX2 := Aside0.mk hbx2; clear hb hbx2))
          go_loopg [6] (l0.length + 1) (fun gg s6 wr => ∃ i : Nat, s6 = .int .i64 i ∧ Aside0 (i ≤ lotPlace l0 c ∧ l0.length + 1 - i ≤ gg) ∧ Aside0 (Below w.heap.size w wr) ∧ Aside0 (wr.heap[w.heap.size]? = some (.cells #[.int .i64 a, .int .i64 b, .int .i64 c] 43 (0, 0))))
          case atStart => exact ⟨0, rfl, ⟨by omega⟩, HB2, HBX2⟩
          case round =>
            clear HB2 HBX2 HB1 HBX1 p0 p1 p2 b0 b1
            obtain ⟨i, rfl, HI, HB, HBX⟩ := hrel
            have hbx := HBX.out
            have x0 : wr.cell? ⟨w.heap.size, 0, none⟩ = some (.int .i64 a) := by simp [World.cell?, hbx]
            have x1 : wr.cell? ⟨w.heap.size, 1, none⟩ = some (.int .i64 b) := by simp [World.cell?, hbx]
            have x2 : wr.cell? ⟨w.heap.size, 2, none⟩ = some (.int .i64 c) := by simp [World.cell?, hbx]
            clear hbx
            by_cases hlt : i < l0.length
            · obtain ⟨ad, e, hy0, hy1, hy2⟩ := at_T43 HR0.out (i : Int) (by omega) (by omega)
              subst e
              have hy := (HB.out.cell (World.block_lt_of_cell? _ _ hy2)).trans hy2
              clear hy0 hy1 hy2
              simp only [Int.toNat_natCast] at hy
              rw [show rd_T43 l0 (i : Int) = l0.getD i z43 by simp [rd_T43]] at hy
              have hPL := lotPlace_lt l0 c i
              have hPS := lotPlace_stop l0 c
              have hPE := lotPlace_le l0 c
              have hxx : (l0.getD i z43).f2 ≤ c → i < lotPlace l0 c := fun hx => by
                rcases Nat.lt_or_ge i (lotPlace l0 c) with h1 | h1
                · exact h1
                · have h2 : i = lotPlace l0 c := by have := HI.out; omega
                  rw [h2] at hx hlt
                  exact absurd hx (hPS hlt)
              have hxn : ¬ (l0.getD i z43).f2 ≤ c → i = lotPlace l0 c := fun hx => by
                rcases Nat.lt_or_ge i (lotPlace l0 c) with h1 | h1
                · exact absurd (hPL h1) hx
                · have := HI.out; omega
              generalize (l0.getD i z43).f2 = y at hy hxx hxn hPL
              have b0 : decide ((i : Int) < (l0.length : Int)) = true := decide_eq_true (by omega)
              have q0 : (0 ≤ (i : Int)) = True := eq_true (by omega)
              have q1 : ((i : Int) < (l0.length : Int)) = True := eq_true (by omega)
              have hii : i < 2000 := by have := HL.out; omega
              clear hPL hPS hPE hlt
              by_cases hx : y ≤ c
              · have b1 : decide (y ≤ c) = true := decide_eq_true hx
                have HP := Aside0.mk (hxx hx)
                have HIE := Aside0.mk hii
                have HLE := Aside0.mk (lotPlace_le l0 c)
                have HWI := Aside0.mk (show wrap64 ((i : Int) + 1) = ((i + 1 : Nat) : Int) by unfold wrap64; omega)
                clear hxx hxn hx hii
                go_wp2
                repeat (go_quiet (fail); try go_wp2)
                go_roundg (l0.length + 1 - (i + 1))
                case measure => have := HI.out; have := HP.out; have := HLE.out; omega
                case rel => exact ⟨i + 1, by first | rfl | (rw [HWI.out]), ⟨by have := HI.out; have := HP.out; omega⟩, ⟨by first | exact HB.out | exact pw_below_drewN HB.out _ | exact below_drew1 HB.out⟩, HBX⟩
              · have b1 : decide (y ≤ c) = false := decide_eq_false hx
                have hie := hxn hx
                clear hxx hxn hx hii
                have HBR := Aside0.mk HB.out
                have HBXR := Aside0.mk HBX.out
                have hlt0 : w.heap.size < wr.heap.size := (Array.getElem?_eq_some_iff.1 HBX.out).1
                have HLT := Aside0.mk hlt0
                have hne0 : ¬ (w.heap.size = wr.heap.size) := by omega
                have hne1 : ¬ (wr.heap.size = w.heap.size) := by omega
                subst hie
                go_wp2
                repeat (go_quiet (fail); try go_wp2)
                go_region_with (first | (go_at_call 92; (with_reducible refine (impl_Lot_92.calls _ c0 l0 l0 _ ?side1 HC0.out HCL.out).mono ?_); (case side1 => exact Kd.C_below HR0.out (by repeat (first | exact HBR.out | apply below_alloc | apply below_drew1 | apply pw_below_drewN))); rintro e w4 ⟨v0, rfl, hR, hb⟩; obtain ⟨Ao, co, eo⟩ := Kd.R_slice hR; subst eo; have hsz := hb.size; have HB4 := Aside0.mk (show Below w.heap.size w w4 from Below.trans (by repeat (first | exact HBR.out | apply below_alloc | apply below_drew1 | apply pw_below_drewN)) (hb.mono (by have := HBR.out.size; simp; omega))); have hbx4 : w4.heap[w.heap.size]? = some (.cells #[.int .i64 a, .int .i64 b, .int .i64 c] 43 (0, 0)) := ((hb.block w.heap.size (by have := HLT.out; simp; omega)).trans (by first | exact HBXR.out | exact (Below.heap_alloc _ _ _ HLT.out).trans HBXR.out)); have q0 : w4.cell? ⟨w.heap.size, 0, none⟩ = some (Value.int .i64 a) := (by simp [World.cell?, hbx4]); have q1 : w4.cell? ⟨w.heap.size, 1, none⟩ = some (Value.int .i64 b) := (by simp [World.cell?, hbx4]); have q2 : w4.cell? ⟨w.heap.size, 2, none⟩ = some (Value.int .i64 c) := (by simp [World.cell?, hbx4]); have HO := Aside0.mk hR; have HC := Aside0.mk hb; have hlt4 : w.heap.size < w4.heap.size := (Array.getElem?_eq_some_iff.1 hbx4).1; have hne4 : ¬ (w.heap.size = w4.heap.size) := (by omega); have hne5 : ¬ (w4.heap.size = w.heap.size) := (by omega); clear hR hb hbx4 hsz) | (go_at_call 96; first | ((with_reducible refine (ins_calls _ _ l0 ⟨a, b, c⟩ (lotPlace l0 c) (lotPlace_le l0 c) w4.heap.size w.heap.size _ ?hInsR ?hInsB HL.out ?hInsV ?hInsN).mono ?_); (case hInsR => exact Kd.R_below (Kd.R_lower HO.out (by have := HBR.out.size; simp; omega)) (below_alloc (Below.refl _ _) _)); (case hInsB => have := HB4.out.size; simp; omega); (case hInsV => exact heap_alloc_new w4 _); (case hInsN => intro k hk; have := Kd.R_lt HO.out k hk; omega); rintro e w5 ⟨v1, rfl, hR5, hb5⟩; have HO5 := Aside0.mk hR5; have HB5 := Aside0.mk ((HB4.out.alloc HB4.out.size _).trans hb5); clear hR5 hb5) | ((with_reducible refine (ins_calls _ _ l0 ⟨a, b, c⟩ (lotPlace l0 c) (lotPlace_le l0 c) wr.heap.size w.heap.size _ ?hInsR ?hInsB HL.out ?hInsV ?hInsN).mono ?_); (case hInsR => exact Kd.R_lower HO.out (by have := HBR.out.size; simp; omega)); (case hInsB => exact HB4.out.size); (case hInsV => exact (HC.out.block wr.heap.size (by simp)).trans (heap_alloc_new wr _)); (case hInsN => intro k hk; have := Kd.R_base HO.out k hk; simp at this; omega); rintro e w5 ⟨v1, rfl, hR5, hb5⟩; have HO5 := Aside0.mk hR5; have HB5 := Aside0.mk (HB4.out.trans hb5); clear hR5 hb5)))
                all_goals go_wp2
                all_goals go_ret2
                all_goals exact ⟨_, rfl, HO5.out, HB5.out⟩
            · have b0 : decide ((i : Int) < (l0.length : Int)) = false := decide_eq_false (by omega)
              have q1 : ((i : Int) < (l0.length : Int)) = False := eq_false (by omega)
              have hie : i = lotPlace l0 c := by have := HI.out; have := lotPlace_le l0 c; omega
              clear hlt
              have HBR := Aside0.mk HB.out
              have HBXR := Aside0.mk HBX.out
              have hlt0 : w.heap.size < wr.heap.size := (Array.getElem?_eq_some_iff.1 HBX.out).1
              have HLT := Aside0.mk hlt0
              have hne0 : ¬ (w.heap.size = wr.heap.size) := by omega
              have hne1 : ¬ (wr.heap.size = w.heap.size) := by omega
              subst hie
              go_wp2
              repeat (go_quiet (fail); try go_wp2)
              go_region_with (first | (go_at_call 92; (with_reducible refine (impl_Lot_92.calls _ c0 l0 l0 _ ?side1 HC0.out HCL.out).mono ?_); (case side1 => exact Kd.C_below HR0.out (by repeat (first | exact HBR.out | apply below_alloc | apply below_drew1 | apply pw_below_drewN))); rintro e w4 ⟨v0, rfl, hR, hb⟩; obtain ⟨Ao, co, eo⟩ := Kd.R_slice hR; subst eo; have hsz := hb.size; have HB4 := Aside0.mk (show Below w.heap.size w w4 from Below.trans (by repeat (first | exact HBR.out | apply below_alloc | apply below_drew1 | apply pw_below_drewN)) (hb.mono (by have := HBR.out.size; simp; omega))); have hbx4 : w4.heap[w.heap.size]? = some (.cells #[.int .i64 a, .int .i64 b, .int .i64 c] 43 (0, 0)) := ((hb.block w.heap.size (by have := HLT.out; simp; omega)).trans (by first | exact HBXR.out | exact (Below.heap_alloc _ _ _ HLT.out).trans HBXR.out)); have q0 : w4.cell? ⟨w.heap.size, 0, none⟩ = some (Value.int .i64 a) := (by simp [World.cell?, hbx4]); have q1 : w4.cell? ⟨w.heap.size, 1, none⟩ = some (Value.int .i64 b) := (by simp [World.cell?, hbx4]); have q2 : w4.cell? ⟨w.heap.size, 2, none⟩ = some (Value.int .i64 c) := (by simp [World.cell?, hbx4]); have HO := Aside0.mk hR; have HC := Aside0.mk hb; have hlt4 : w.heap.size < w4.heap.size := (Array.getElem?_eq_some_iff.1 hbx4).1; have hne4 : ¬ (w.heap.size = w4.heap.size) := (by omega); have hne5 : ¬ (w4.heap.size = w.heap.size) := (by omega); clear hR hb hbx4 hsz) | (go_at_call 96; first | ((with_reducible refine (ins_calls _ _ l0 ⟨a, b, c⟩ (lotPlace l0 c) (lotPlace_le l0 c) w4.heap.size w.heap.size _ ?hInsR ?hInsB HL.out ?hInsV ?hInsN).mono ?_); (case hInsR => exact Kd.R_below (Kd.R_lower HO.out (by have := HBR.out.size; simp; omega)) (below_alloc (Below.refl _ _) _)); (case hInsB => have := HB4.out.size; simp; omega); (case hInsV => exact heap_alloc_new w4 _); (case hInsN => intro k hk; have := Kd.R_lt HO.out k hk; omega); rintro e w5 ⟨v1, rfl, hR5, hb5⟩; have HO5 := Aside0.mk hR5; have HB5 := Aside0.mk ((HB4.out.alloc HB4.out.size _).trans hb5); clear hR5 hb5) | ((with_reducible refine (ins_calls _ _ l0 ⟨a, b, c⟩ (lotPlace l0 c) (lotPlace_le l0 c) wr.heap.size w.heap.size _ ?hInsR ?hInsB HL.out ?hInsV ?hInsN).mono ?_); (case hInsR => exact Kd.R_lower HO.out (by have := HBR.out.size; simp; omega)); (case hInsB => exact HB4.out.size); (case hInsV => exact (HC.out.block wr.heap.size (by simp)).trans (heap_alloc_new wr _)); (case hInsN => intro k hk; have := Kd.R_base HO.out k hk; simp at this; omega); rintro e w5 ⟨v1, rfl, hR5, hb5⟩; have HO5 := Aside0.mk hR5; have HB5 := Aside0.mk (HB4.out.trans hb5); clear hR5 hb5)))
              all_goals go_wp2
              all_goals go_ret2
              all_goals exact ⟨_, rfl, HO5.out, HB5.out⟩
      · rw [if_neg hl] at H; cases H
end Go.Proofs.Ytanokgpnmbbajaa.PF
end
