-- Gathered by this session's program wip/tool/shake.py out of its own texts and of what the kit's print and the session's patches of it wrote for this claim.
import Derived.Test.YtoiioapkebglgaaGreatDoorCReadFormText8
section
namespace Go.Proofs.YtoiioapkebglgaaGreatDoor.PF
open Go.RowKit Go.Proofs.YtoiioapkebglgaaGreatDoorW.PrintWords Go.Proofs.YtoiioapkebglgaaGreatDoorW.PrintLast Go.Proofs.YtoiioapkebglgaaGreatDoorW.PrintMore
attribute [local go_sem] max2_int min2_int max_two min_two max_three min_three max_four min_four   -- for this text's walks alone
set_option linter.unusedVariables false
set_option linter.unusedSimpArgs false
/-- The place (counted from i) of the first element at which a predicate holds, or -1. -/
def firstAt {α : Type} (p : α → Bool) : List α → Int → Int
  | [], _ => -1
  | x :: xs, i => if p x = true then i else firstAt p xs (i + 1)
theorem firstAt_drop {α : Type} (p : α → Bool) (l : List α) (z : α) (i : Int) (h0 : 0 ≤ i) (h1 : i < (l.length : Int)) :
    firstAt p (l.drop i.toNat) i = if p (l.getD i.toNat z) = true then i else firstAt p (l.drop (i + 1).toNat) (i + 1) := by
  have hn : i.toNat < l.length := by omega
  have e1 : (i + 1).toNat = i.toNat + 1 := by omega
  rw [e1, List.drop_eq_getElem_cons hn]
  simp only [firstAt, List.getD, List.getElem?_eq_getElem hn, Option.getD_some]
theorem firstAt_end {α : Type} (p : α → Bool) (l : List α) (i : Int) (h1 : (l.length : Int) ≤ i) : firstAt p (l.drop i.toNat) i = -1 := by
  rw [List.drop_eq_nil_of_le (by omega)]; rfl
theorem firstAt_any' {α : Type} (p : α → Bool) : ∀ (l : List α) (i : Int), 0 ≤ i → ((0 ≤ firstAt p l i) ↔ l.any p = true)
  | [], i, _ => by simp [firstAt]
  | x :: xs, i, h => by
    have ih := firstAt_any' p xs (i + 1) (by omega)
    have e : firstAt p (x :: xs) i = if p x = true then i else firstAt p xs (i + 1) := rfl
    rw [e, List.any_cons, Bool.or_eq_true]
    by_cases hx : p x = true
    · rw [if_pos hx]; exact ⟨fun _ => .inl hx, fun _ => h⟩
    · rw [if_neg hx, ih]; exact ⟨fun h => .inr h, fun h => h.elim (fun h => absurd h hx) id⟩
theorem firstAt_any {α : Type} (p : α → Bool) (l : List α) (i : Int) (h : 0 ≤ i) : decide (firstAt p l i ≥ 0) = l.any p := by
  rw [Bool.eq_iff_iff, decide_eq_true_eq]; exact firstAt_any' p l i h
/-- What a function value must pay: at every element, in every world in which all that lay in w lies unturned, it tells the predicate and leaves such a world. -/
def PaysAt (P : Program) (g : Nat) (lb : Array Value) {α : Type} (enc : α → Value) (p : α → Bool) (w : World) : Prop :=
  ∀ (W : World) (x : α), Below w.heap.size w W → Calls P g (#[enc x] ++ lb) W fun e w' => e = .returned (.bool (p x)) ∧ Below w.heap.size w w'
theorem ret_i {k : IntKind} {a b : Int} (h : a = b) : Ending.returned (.int k a) = .returned (.int k b) := by rw [h]
theorem ret_b {a b : Bool} (h : a = b) : Ending.returned (.bool a) = .returned (.bool b) := by rw [h]
/-- Whether a number lies from one to another. -/
def inB (a1 a2 x : Int) : Bool := decide (a1 ≤ x ∧ x ≤ a2)
theorem not_any {α : Type} (p : α → Bool) (l : List α) : (!l.any fun x => !p x) = l.all p := by
  induction l with
  | nil => rfl
  | cons x xs ih => simp only [List.any_cons, List.all_cons, Bool.not_or, Bool.not_not]; rw [← ih]
theorem enters_fn {P : Program} {f : FuncId} {fn : Func} {c : Code} (hf : P.funcs[f]? = some fn) (hname : (fn.name == "runtime.NumGoroutine") = false) (hb : fn.body = some c) : ∀ args w, (callFunc f args).run P w = .ok (.enter f args) w := by
  intro args w
  have h1 : fn.name ≠ "runtime.NumGoroutine" := by simpa using hname
  simp [callFunc, hf, h1, hb, mark]
theorem eql_nil {P : Program} (w : World) (t e : TypeId) (a : Option Addr) (n c : Nat) (h : P.underlying t = some (.slice e)) : (binOp .eql t (.slice a n c) (.slice none 0 0)).run P w = .ok (.bool a.isNone) w := by
  have h1 : ∀ d : Nat, (Op.equalIn (d + 1) t (.slice a n c) (.slice none 0 0)).run P w = .ok a.isNone w := fun d => by cases a <;> simp [Op.equalIn, run_underlying h]
  simp [binOp, Op.equal, Op.maxDepth, h1 9999]
end Go.Proofs.YtoiioapkebglgaaGreatDoor.PF
end
section
namespace Go.Proofs.YtoiioapkebglgaaGreatDoor.PF
open Go.RowKit Go.Proofs.YtoiioapkebglgaaGreatDoorW.PrintWords Go.Proofs.YtoiioapkebglgaaGreatDoorW.PrintLast Go.Proofs.YtoiioapkebglgaaGreatDoorW.PrintMore
attribute [local go_sem] max2_int min2_int max_two min_two max_three min_three max_four min_four   -- for this text's walks alone
set_option linter.unusedVariables false
set_option linter.unusedSimpArgs false
def impl_inRange.f (a0 : Int) (a1 : Int) (a2 : Int) : Option (Bool) := if a1 ≤ a0 then (some (decide (a0 ≤ a2))) else (some false)
set_option maxHeartbeats 8000000 in
set_option maxRecDepth 100000 in
theorem impl_inRange.calls (a0 : Int) (a1 : Int) (a2 : Int) (r : Bool) (w : World) (h : impl_inRange.f a0 a1 a2 = some r) :
    Calls Tryz.prog 44 #[.int .i64 a0, .int .i64 a1, .int .i64 a2] w fun e w' => e = .returned (.bool r) ∧ Drawn0 w w' := by
  have H : (if a1 ≤ a0 then (some (decide (a0 ≤ a2))) else (some false)) = some r := h
  clear h
  by_cases c4 : a1 ≤ a0
  · rw [if_pos c4] at H
    have c4b0 : decide (a1 ≤ a0) = true := decide_eq_true c4
    clear c4
    obtain rfl := Option.some.inj H
    go_enter Tryz.func44, Tryz.ntmps44
    go_wp2
    go_ret
    exact ⟨(by first | rfl | (simp; done) | (simp [*]; done)), (by repeat (first | exact Drawn0.refl _ | apply Drawn0.step))⟩
  · rw [if_neg c4] at H
    have c4b0 : decide (a1 ≤ a0) = false := decide_eq_false c4
    clear c4
    obtain rfl := Option.some.inj H
    go_enter Tryz.func44, Tryz.ntmps44
    go_wp2
    go_ret
    exact ⟨(by first | rfl | (simp; done) | (simp [*]; done)), (by repeat (first | exact Drawn0.refl _ | apply Drawn0.step))⟩
theorem rd_getD (l : List Int) (i : Int) : rd l i = l.getD i.toNat 0 := rfl
set_option maxHeartbeats 4000000 in
set_option maxRecDepth 100000 in
theorem slices_IndexFunc_int64_int64.calls (A0 : Option Addr) (c0 : Nat) (l0 : List Int) (p : Int → Bool) (g : Nat) (lb : Array Value) (w : World) (hr0 : Kd.C (Kd.int .i64) w A0 l0.length l0)
    (eg : ∀ args w, (callFunc g args).run Tryz.prog w = .ok (.enter g args) w) (hp : PaysAt Tryz.prog g lb (Value.int .i64) p w) :
    Calls Tryz.prog 75 #[.slice A0 l0.length c0, .func (.func g) #[] lb] w fun e w' => e = .returned (.int .i64 (firstAt p l0 0)) ∧ Below w.heap.size w w' := by
  have HL := Aside0.mk hr0.2.1
  have HP := Aside0.mk hp
  have HR := Aside0.mk hr0
  clear hr0 hp
  go_enter Tryz.func75, Tryz.ntmps75
  go_wp2
  go_loopg [5, 8] l0.length (fun gg _ s8 wr => ∃ i : Int, s8 = .int .i64 i ∧ Aside0 (0 ≤ i ∧ i ≤ (l0.length : Int) ∧ l0.length - i.toNat ≤ gg) ∧ Aside0 (Below w.heap.size w wr) ∧ Aside0 (firstAt p l0 0 = firstAt p (l0.drop i.toNat) i))
  case atStart => exact ⟨0, rfl, ⟨(by omega)⟩, ⟨Below.refl _ w⟩, ⟨(by simp)⟩⟩
  case round =>
    obtain ⟨i, rfl, HI, HB, HF⟩ := hrel
    by_cases hlt : i < (l0.length : Int)
    · obtain ⟨ad, e, hx⟩ := Kd.at_int HR.out i HI.out.1 hlt
      cases e
      replace hx := (HB.out.cell (World.block_lt_of_cell? w _ hx)).trans hx
      have hcall := HP.out wr (rd l0 i) HB.out
      have HS := Aside0.mk (firstAt_drop p l0 0 i HI.out.1 hlt)
      have HQ := Aside0.mk hlt
      have b0 : decide (i < (l0.length : Int)) = true := decide_eq_true hlt
      have p0 : (0 ≤ i) = True := eq_true HI.out.1
      have p1 : (i < (l0.length : Int)) = True := eq_true hlt
      clear hlt
      cases hq : p (rd l0 i) with
      | true =>
        rw [hq] at hcall
        have HQ2 := Aside0.mk hq
        clear hq
        go_wp2_with ((with_reducible refine hcall.mono ?_); rintro e w' ⟨rfl, hb⟩)
        go_ret
        exact ⟨ret_i (by rw [HF.out, HS.out, if_pos (by rw [← rd_getD]; exact HQ2.out)]), hb⟩
      | false =>
        rw [hq] at hcall
        have HQ2 := Aside0.mk hq
        clear hq
        go_wp2_with ((with_reducible refine hcall.mono ?_); rintro e w' ⟨rfl, hb⟩)
        have hw : wrap64 (i + 1) = i + 1 := by have := HI.out; have := HL.out; have := HQ.out; unfold wrap64; omega
        have HW := Aside0.mk hw
        clear hw
        have HB2 := Aside0.mk hb
        clear hb
        go_roundg (l0.length - (i.toNat + 1))
        case measure => have := HI.out; have := HQ.out; omega
        case rel => exact ⟨wrap64 (i + 1), rfl, ⟨(by rw [HW.out]; have := HI.out; have := HQ.out; omega)⟩, HB2, ⟨(by rw [HW.out, HF.out, HS.out, if_neg (by rw [← rd_getD, HQ2.out]; decide)])⟩⟩
    · have b0 : decide (i < (l0.length : Int)) = false := decide_eq_false hlt
      have HE := Aside0.mk (firstAt_end p l0 i (by omega))
      clear hlt
      go_wp2
      go_ret
      exact ⟨ret_i (by rw [HF.out, HE.out]), HB.out⟩
set_option maxHeartbeats 4000000 in
theorem slices_ContainsFunc_int64_int64.calls (A0 : Option Addr) (c0 : Nat) (l0 : List Int) (p : Int → Bool) (g : Nat) (lb : Array Value) (w : World) (hr0 : Kd.C (Kd.int .i64) w A0 l0.length l0)
    (eg : ∀ args w, (callFunc g args).run Tryz.prog w = .ok (.enter g args) w) (hp : PaysAt Tryz.prog g lb (Value.int .i64) p w) :
    Calls Tryz.prog 58 #[.slice A0 l0.length c0, .func (.func g) #[] lb] w fun e w' => e = .returned (.bool (l0.any p)) ∧ Below w.heap.size w w' := by
  have hcon := slices_IndexFunc_int64_int64.calls A0 c0 l0 p g lb w hr0 eg hp
  have HA := Aside0.mk (firstAt_any p l0 0 (by omega))
  clear hr0 hp eg
  generalize firstAt p l0 0 = i at hcon HA
  go_enter Tryz.func58, Tryz.ntmps58
  go_wp2_with (go_at_call 75; refine hcon.mono ?_; rintro e w' ⟨rfl, hb⟩)
  go_ret
  exact ⟨ret_b HA.out, hb⟩
def impl_allIn.f (l0 : List Int) (a1 : Int) (a2 : Int) : Option Bool := some (l0.all (inB a1 a2))
theorem impl_allIn_1.pays (a1 a2 : Int) (B1 B2 : Nat) (w : World) (h1 : B1 < w.heap.size) (h2 : B2 < w.heap.size) (g1 : w.cell? ⟨B1, 0, none⟩ = some (.int .i64 a1)) (g2 : w.cell? ⟨B2, 0, none⟩ = some (.int .i64 a2)) :
    PaysAt Tryz.prog 59 #[.pointer (some ⟨B1, 0, none⟩), .pointer (some ⟨B2, 0, none⟩)] (Value.int .i64) (fun x => !inB a1 a2 x) w := fun W x hb => by
  have k1 : W.cell? ⟨B1, 0, none⟩ = some (.int .i64 a1) := (hb.cell (p := ⟨B1, 0, none⟩) h1).trans g1
  have k2 : W.cell? ⟨B2, 0, none⟩ = some (.int .i64 a2) := (hb.cell (p := ⟨B2, 0, none⟩) h2).trans g2
  clear g1 g2 h1 h2
  have HB := Aside0.mk hb
  clear hb
  show Calls Tryz.prog 59 #[.int .i64 x, .pointer (some ⟨B1, 0, none⟩), .pointer (some ⟨B2, 0, none⟩)] W _
  have hin : impl_inRange.f x a1 a2 = some (inB a1 a2 x) := by
    unfold impl_inRange.f inB
    by_cases h : a1 ≤ x <;> simp [h]
  have HIN := Aside0.mk hin
  clear hin
  go_enter Tryz.func59, Tryz.ntmps59
  go_wp2_with (go_at_call 44; refine (impl_inRange.calls x a1 a2 _ _ HIN.out).mono ?_; rintro e w' ⟨rfl, hd⟩)
  go_ret
  exact ⟨rfl, (by obtain ⟨nd, rfl⟩ := hd; exact pw_below_drewN HB.out _)⟩
set_option maxHeartbeats 4000000 in
theorem impl_allIn.calls (A0 : Option Addr) (c0 : Nat) (l0 : List Int) (a1 : Int) (a2 : Int) (r : Bool) (w : World) (hr0 : Kd.C (Kd.int .i64) w A0 l0.length l0) (hc0 : l0.length ≤ c0) (h : impl_allIn.f l0 a1 a2 = some r) :
    Calls Tryz.prog 40 #[.slice A0 l0.length c0, .int .i64 a1, .int .i64 a2] w fun e w' => e = .returned (.bool r) ∧ Below w.heap.size w w' := by
  obtain rfl := Option.some.inj h
  have eg : ∀ args w, (callFunc 59 args).run Tryz.prog w = .ok (.enter 59 args) w := enters_fn Tryz.func59 (by kernel_rfl) rfl
  have hb2 : Below w.heap.size w ((w.alloc (.cells #[.int .i64 a1] 2)).alloc (.cells #[.int .i64 a2] 2)) := ((Below.refl _ w).alloc (Nat.le_refl _) _).alloc (by simp) _
  have hcon := slices_ContainsFunc_int64_int64.calls A0 c0 l0 (fun x => !inB a1 a2 x) 59 #[.pointer (some ⟨w.heap.size, 0, none⟩), .pointer (some ⟨w.heap.size + 1, 0, none⟩)] ((w.alloc (.cells #[.int .i64 a1] 2)).alloc (.cells #[.int .i64 a2] 2))
    (Kd.C_below hr0 hb2) eg (impl_allIn_1.pays a1 a2 w.heap.size (w.heap.size + 1) _ (by simp; omega) (by simp) (by simp) (by simp))
  have HB := Aside0.mk hb2
  clear hb2 hr0 h eg
  have HE := Aside0.mk (not_any (inB a1 a2) l0)
  generalize (l0.any fun x => !inB a1 a2 x) = b at hcon HE
  generalize (l0.all (inB a1 a2)) = b2 at HE ⊢
  go_enter Tryz.func40, Tryz.ntmps40
  go_wp2_with (go_at_call 58; refine hcon.mono ?_; rintro e w' ⟨rfl, hb⟩)
  go_ret
  exact ⟨ret_b HE.out, HB.out.trans (hb.mono (by simp; omega))⟩
end Go.Proofs.YtoiioapkebglgaaGreatDoor.PF
end
