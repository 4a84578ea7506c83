-- Gathered by this session's program wip/tool/shake.py out of its own texts and of what the kit's print and the session's patches of it wrote for this claim.
import Derived.Test.YtanokgpnmbbajaaProg
import Derived.ArgAppend
import Derived.Below
import Derived.BigQuiet
import Derived.Deep.AppendLies
import Derived.Deep.CutBlock
import Derived.Deep.DeepCutAuto
import Derived.Deep.Draws
import Derived.Deep.LoopGhost
import Derived.Deep.OwnRows
import Derived.Deep.QuietTactic
import Derived.Deep.RegionHeld3
import Derived.Deep.RegionWith
import Derived.KernelRfl
import Derived.Laws.BitsLemmas
import Derived.Laws.BytesArg
import Derived.Laws.CopyOwn
import Derived.Laws.CopyRow
import Derived.Laws.Externs
import Derived.Laws.IdiomCopy
import Derived.Laws.MakeOwn
import Derived.Laws.OwnMore
import Derived.Laws.Rows
import Derived.Laws.Slices
import Derived.Laws.StructEq
import Derived.Lib.AppendStr
import Derived.Lib.AppendZerosOnto
import Derived.Lib.ConvBytes
import Derived.Lib.Overlaps
import Derived.Lib.SliceRun
import Derived.Lib.Walk
import Derived.Maps.AppendAt
import Derived.OrdersHeld
import Derived.OwnWalk
import Derived.RowKit
import Derived.RowKit3
import Derived.Shelf.SlSortCmp.InsertionK
import Derived.Shelf.SlSortCmp.KitK
import Derived.Sort.LotA
import Derived.Sort.WalkB12
import Derived.Sort.WalkB2
import Derived.StillTailTactics
import Derived.Tactics
import Derived.WalkKit
import Derived.WideLaws
import Derived.Test.YtanokgpnmbbajaaCFnLots11
import Derived.Test.YtanokgpnmbbajaaCFnLots12
import Derived.Test.YtanokgpnmbbajaaCFnLots16
import Derived.Test.YtanokgpnmbbajaaCFnLots17
import Derived.Test.YtanokgpnmbbajaaCFnLots22
import Derived.Test.YtanokgpnmbbajaaCFnLots23
import Derived.Test.YtanokgpnmbbajaaCFnLots29
import Derived.Test.YtanokgpnmbbajaaCFnLots30
section
namespace Go.Proofs.Ytanokgpnmbbajaa.PF
open Go.RowKit Go.Proofs.YtanokgpnmbbajaaW.PrintWords Go.Proofs.YtanokgpnmbbajaaB Go.Proofs.Ytanokgpnmbbajaa.Stab
set_option linter.unusedVariables false
set_option linter.unusedSimpArgs false
/-- What stays, and the sheets that go. -/
def keeps (a : Int) : List S43 → List S43 × Int
  | [] => ([], 0)
  | x :: xs => if x.f2 < a then ((keeps a xs).1, x.f1 + (keeps a xs).2) else (x :: (keeps a xs).1, (keeps a xs).2)
theorem keeps_length (a : Int) : ∀ l : List S43, (keeps a l).1.length ≤ l.length
  | [] => Nat.le_refl _
  | x :: xs => by
    have := keeps_length a xs
    simp only [keeps]; split <;> simp <;> omega
theorem spec_DropBefore_l0 (l : List S43) (a : Int) (hl : l.length ≤ 30) (hok : ∀ x ∈ l, lotOk x = true) : ∀ d i, i + d = l.length → ∀ (o : List S43) (n : Int), o.length ≤ i → 0 ≤ n → n ≤ 1000000 * (i : Int) →
    Ev (fun k => spec_DropBefore.l0 k l a o n (i : Int)) (o ++ (keeps a (l.drop i)).1, n + (keeps a (l.drop i)).2, 0) := by
  intro d
  induction d with
  | zero =>
    intro i hi o n ho h0 hn
    refine Ev.succ ?_
    simp only [spec_DropBefore.l0]
    refine Ev.neg (by omega) (Ev.eq ?_)
    have : l.drop i = [] := List.drop_eq_nil_of_le (by omega)
    rw [this]
    simp [keeps]
  | succ d ih =>
    intro i hi o n ho h0 hn
    rw [getD_drop l z43 i (by omega)]
    have hx := lotOk_iff.1 (hok _ (getD_mem l z43 i (by omega)))
    have e1 : wrap64 ((i : Int) + 1) = ((i + 1 : Nat) : Int) := by rw [w64 (by omega) (by omega)]; omega
    refine Ev.succ ?_
    simp only [spec_DropBefore.l0, rd_Lot, e1]
    refine Ev.pos (by omega) (Ev.pos (by omega) (Ev.ite (fun h => ?_) (fun h => Ev.pos (by omega) ?_)))
    · rw [w64 (by omega) (by omega)]
      refine (ih (i + 1) (by omega) o _ (by omega) (by omega) (by omega)).cast ?_
      simp only [keeps, if_pos h]
      congr 2; omega
    · refine (ih (i + 1) (by omega) _ n (by simp; omega) (by omega) (by omega)).cast ?_
      simp only [keeps, if_neg h, List.append_assoc, List.cons_append, List.nil_append]
theorem impl_DropBefore_l0 (l : List S43) (a : Int) (hl : l.length ≤ 30) (hok : ∀ x ∈ l, lotOk x = true) : ∀ d i, i + d = l.length → ∀ (o : List S43) (n : Int), o.length ≤ i → 0 ≤ n → n ≤ 1000000 * (i : Int) →
    Ev (fun k => impl_DropBefore.l0 k a o n l (l.length : Int) (i : Int)) (o ++ (keeps a (l.drop i)).1, n + (keeps a (l.drop i)).2, 0) := by
  intro d
  induction d with
  | zero =>
    intro i hi o n ho h0 hn
    refine Ev.succ ?_
    simp only [impl_DropBefore.l0]
    refine Ev.neg (by omega) (Ev.eq ?_)
    have : l.drop i = [] := List.drop_eq_nil_of_le (by omega)
    rw [this]
    simp [keeps]
  | succ d ih =>
    intro i hi o n ho h0 hn
    rw [getD_drop l z43 i (by omega)]
    have hx := lotOk_iff.1 (hok _ (getD_mem l z43 i (by omega)))
    have e1 : wrap64 ((i : Int) + 1) = ((i + 1 : Nat) : Int) := by rw [w64 (by omega) (by omega)]; omega
    refine Ev.succ ?_
    simp only [impl_DropBefore.l0, rd_Lot, e1]
    refine Ev.pos (by omega) (Ev.pos (by omega) (Ev.pos (by omega) (Ev.ite (fun h => ?_) (fun h => Ev.pos (by omega) ?_))))
    · rw [w64 (by omega) (by omega)]
      refine (ih (i + 1) (by omega) o _ (by omega) (by omega) (by omega)).cast ?_
      simp only [keeps, if_pos h]
      congr 2; omega
    · refine (ih (i + 1) (by omega) _ n (by simp; omega) (by omega) (by omega)).cast ?_
      simp only [keeps, if_neg h, List.append_assoc, List.cons_append, List.nil_append]
def dropped (l : List S43) (a : Int) : List S43 × Int × Int :=
  if stockOk l = true then (if 0 ≤ a ∧ a ≤ 100000 then ((keeps a l).1, (keeps a l).2, 0) else ([], 0, 2)) else ([], 0, 1)
theorem dropped_length (l : List S43) (a : Int) : (dropped l a).1.length ≤ l.length := by
  unfold dropped
  split
  · split
    · exact keeps_length a l
    · simp
  · simp
theorem spec_DropBefore_ev {l : List S43} (hl : l.length ≤ 9223372036854775806) (a : Int) : Ev (fun k => spec_DropBefore.f k l a) (dropped l a) := by
  unfold spec_DropBefore.f dropped
  refine Ev.bind (spec_IsStock_ev hl) (Ev.ite (fun h => ?_) (fun h => Ev.eq (by rw [if_neg h])))
  rw [if_pos h]
  refine Ev.bind (Ev.eq (spec_l01In_eq _ _ _)) (Ev.ite (fun h2 => ?_) (fun h2 => Ev.eq (by rw [if_neg (by simpa using h2)])))
  rw [if_pos (by simpa using h2)]
  exact (spec_DropBefore_l0 l a (stockOk_len h) (fun _ hx => stockOk_mem h hx) l.length 0 (by omega) [] 0 (by simp) (by omega) (by omega)).cast (by simp)
theorem impl_DropBefore_ev {l : List S43} (hl : l.length ≤ 9223372036854775806) (a : Int) : Ev (fun k => impl_DropBefore.f k l a) (dropped l a) := by
  unfold impl_DropBefore.f dropped
  refine Ev.bind (impl_IsStock_ev hl) (Ev.ite (fun h => ?_) (fun h => Ev.eq (by rw [if_neg h])))
  rw [if_pos h]
  refine Ev.bind (Ev.eq (by rw [impl_isMinutes.f, impl_inRange_eq]; rfl)) (Ev.ite (fun h2 => ?_) (fun h2 => Ev.eq (by rw [if_neg (by simpa using h2)])))
  rw [if_pos (by simpa using h2)]
  exact (impl_DropBefore_l0 l a (stockOk_len h) (fun _ hx => stockOk_mem h hx) l.length 0 (by omega) [] 0 (by simp) (by omega) (by omega)).cast (by simp)
theorem spec_JoinStocks_l0 (b : List S43) (hb : b.length ≤ 30) : ∀ d i, i + d = b.length → ∀ o : List S43, o.length + d ≤ 100 →
    Ev (fun k => spec_JoinStocks.l0 k b o (i : Int)) ((b.drop i).foldl (insB dayOf) o, 0) := by
  intro d
  induction d with
  | zero =>
    intro i hi o ho
    refine Ev.succ ?_
    simp only [spec_JoinStocks.l0]
    refine Ev.neg (by omega) (Ev.eq ?_)
    have : b.drop i = [] := List.drop_eq_nil_of_le (by omega)
    rw [this]; rfl
  | succ d ih =>
    intro i hi o ho
    have e1 : wrap64 ((i : Int) + 1) = ((i + 1 : Nat) : Int) := by rw [w64 (by omega) (by omega)]; omega
    rw [getD_drop b z43 i (by omega)]
    refine Ev.succ ?_
    simp only [spec_JoinStocks.l0, rd_Lot, e1]
    generalize b.getD i z43 = x
    exact Ev.pos (by omega) (Ev.pos (by omega) (Ev.bind (spec_l25Insert_ev (by omega) x) (ih (i + 1) (by omega) _ (by rw [length_insB]; omega))))
def joined (a b : List S43) : List S43 × Int :=
  if stockOk a = true then (if stockOk b = true then (if (a.length : Int) + (b.length : Int) > 30 then ([], 3) else ((a ++ b).mergeSort (byKey dayOf), 0)) else ([], 1)) else ([], 1)
theorem joined_length (a b : List S43) : (joined a b).1.length ≤ a.length + b.length := by
  unfold joined
  split
  · split
    · split
      · simp
      · simp
    · simp
  · simp
theorem spec_JoinStocks_ev {a b : List S43} (ha : a.length ≤ 9223372036854775806) (hb : b.length ≤ 9223372036854775806) : Ev (fun k => spec_JoinStocks.f k a b) (joined a b) := by
  unfold spec_JoinStocks.f joined
  refine Ev.bind (spec_IsStock_ev ha) (Ev.ite (fun h => ?_) (fun h => ?_))
  · rw [if_pos h]
    refine Ev.bind (spec_IsStock_ev hb) (Ev.succ ?_)
    simp only [spec_JoinStocks.j0]
    have la := stockOk_len h
    cases h2 : stockOk b with
    | false => exact Ev.pos (by trivial) (Ev.eq (by rw [if_neg (by simp)]))
    | true =>
      rw [if_pos rfl]
      have lb := stockOk_len h2
      rw [w64 (by omega) (by omega)]
      refine Ev.neg (by simp) (Ev.ite (fun c => Ev.eq (by rw [if_pos c])) (fun c => ?_))
      rw [if_neg c]
      simp only [Option.bind_some, List.nil_append, List.length_nil, Nat.zero_add]
      refine Ev.pos (by omega) ?_
      refine (spec_JoinStocks_l0 b lb b.length 0 (by omega) a (by omega)).cast ?_
      rw [List.drop_zero, fold_merge (stock_asc h)]
  · rw [if_neg h]
    refine Ev.succ ?_
    simp only [spec_JoinStocks.j0]
    exact Ev.pos (by trivial) (Ev.eq rfl)
theorem impl_JoinStocks_ev {a b : List S43} (ha : a.length ≤ 9223372036854775806) (hb : b.length ≤ 9223372036854775806) : Ev (fun k => impl_JoinStocks.f k a b) (joined a b) := by
  unfold impl_JoinStocks.f joined
  refine Ev.bind (impl_IsStock_ev ha) (Ev.ite (fun h => ?_) (fun h => Ev.eq (by rw [if_neg h])))
  rw [if_pos h]
  refine Ev.bind (impl_IsStock_ev hb) (Ev.ite (fun h2 => ?_) (fun h2 => Ev.eq (by rw [if_neg h2])))
  rw [if_pos h2]
  have la := stockOk_len h
  have lb := stockOk_len h2
  refine Ev.pos (by omega) (Ev.ite (fun c => Ev.eq (by rw [if_pos c])) (fun c => Ev.eq (by rw [if_neg c]; rfl)))
theorem lotPut_ins (x : S43) : ∀ l : List S43, lotPut l x = insB dayOf l x
  | [] => by simp [lotPut, lotPlace, insB]
  | y :: l => by
    have ih := lotPut_ins x l
    unfold lotPut lotPlace at ih ⊢
    rw [List.takeWhile_cons]
    unfold insB
    by_cases h : y.f2 ≤ x.f2
    · rw [if_pos (by simpa using h), if_neg (show ¬ dayOf x < dayOf y by unfold dayOf; omega), ← ih]
      simp
    · rw [if_neg (by simpa using h), if_pos (show dayOf x < dayOf y by unfold dayOf; omega)]
      simp
def received (l : List S43) (x : S43) : List S43 × Int :=
  if stockOk l = true then (if lotOk x = true then (if l.length = 30 then ([], 3) else (insB dayOf l x, 0)) else ([], 2)) else ([], 1)
theorem received_length (l : List S43) (x : S43) : (received l x).1.length ≤ l.length + 1 := by
  unfold received
  split
  · split
    · split
      · simp
      · rw [length_insB]; omega
    · simp
  · simp
theorem spec_ReceiveLot_ev {l : List S43} (hl : l.length ≤ 9223372036854775806) (x : S43) : Ev (fun k => spec_ReceiveLot.f k l x.f0 x.f1 x.f2) (received l x) := by
  unfold spec_ReceiveLot.f received
  refine Ev.bind (spec_IsStock_ev hl) (Ev.ite (fun h => ?_) (fun h => Ev.eq (by rw [if_neg h])))
  rw [if_pos h]
  have la := stockOk_len h
  refine Ev.bind (Ev.eq (spec_l25Lot_eq _ _ _)) (Ev.ite (fun h2 => ?_) (fun h2 => Ev.eq (by rw [if_neg (show ¬ lotOk x = true from h2)])))
  rw [if_pos (show lotOk x = true from h2)]
  refine Ev.ite (fun c => Ev.eq (by rw [if_pos (by omega)])) (fun c => ?_)
  rw [if_neg (by omega)]
  exact Ev.bind (spec_l25Insert_ev (by omega) x) (Ev.eq rfl)
theorem impl_ReceiveLot_ev {l : List S43} (hl : l.length ≤ 9223372036854775806) (x : S43) : Ev (fun k => impl_ReceiveLot.f k l x.f0 x.f1 x.f2) (received l x) := by
  unfold impl_ReceiveLot.f received
  refine Ev.bind (impl_IsStock_ev hl) (Ev.ite (fun h => ?_) (fun h => Ev.eq (by rw [if_neg h])))
  rw [if_pos h]
  have la := stockOk_len h
  refine Ev.bind (Ev.eq (impl_isLot_eq _ _ _)) (Ev.ite (fun h2 => ?_) (fun h2 => Ev.eq (by rw [if_neg (show ¬ lotOk x = true from h2)])))
  rw [if_pos (show lotOk x = true from h2)]
  refine Ev.pos (by omega) (Ev.ite (fun c => Ev.eq (by rw [if_pos c])) (fun c => Ev.eq (by rw [if_neg c, ← lotPut_ins])))
theorem likeLots_refl {l : List S43} (hl : l.length ≤ 9223372036854775806) : Ev (fun k => laws_likeLots9.f k l l) true := by
  have key : ∀ d i, i + d = l.length → Ev (fun k => laws_likeLots9.l0 k l l (i : Int)) true := by
    intro d
    induction d with
    | zero =>
      intro i hi
      refine Ev.succ ?_
      simp only [laws_likeLots9.l0]
      exact Ev.neg (by omega) (Ev.eq rfl)
    | succ d ih =>
      intro i hi
      have e1 : wrap64 ((i : Int) + 1) = ((i + 1 : Nat) : Int) := by rw [w64 (by omega) (by omega)]; omega
      refine Ev.succ ?_
      simp only [laws_likeLots9.l0, e1]
      exact Ev.pos (by omega) (Ev.pos (by omega) (Ev.pos (by omega) (Ev.neg (by simp) (ih (i + 1) (by omega)))))
  unfold laws_likeLots9.f
  exact Ev.pos rfl (key l.length 0 (by omega))
theorem stockOk_mk {l : List S43} (h1 : l.length ≤ 30) (h2 : rises none l = true) : stockOk l = true := by
  simp only [stockOk, Bool.and_eq_true, decide_eq_true_eq]; exact ⟨h1, h2⟩
def sheetsVal (l : List S43) (a : Int) : Int × Int := if kindCode l a = 0 then (sheets a l, 0) else (0, kindCode l a)
theorem spec_SheetsOf_val {l : List S43} (hm : l.length ≤ 9223372036854775806) (a : Int) : Ev (fun k => spec_SheetsOf.f k l a) (sheetsVal l a) := by
  unfold spec_SheetsOf.f sheetsVal
  refine Ev.bind (spec_l25Code_ev hm a) (Ev.ite (fun h => ?_) (fun h => Ev.eq (by rw [if_neg h])))
  exact Ev.bind (spec_l25Sheets_ev (kindCode_zero h).1 a) (Ev.eq (by rw [if_pos h]))
theorem impl_SheetsOf_val {l : List S43} (hm : l.length ≤ 9223372036854775806) (a : Int) : Ev (fun k => impl_SheetsOf.f k l a) (sheetsVal l a) := by
  unfold impl_SheetsOf.f sheetsVal
  refine Ev.bind (impl_checkKind_ev hm a) (Ev.ite (fun h => ?_) (fun h => Ev.eq (by rw [if_neg h])))
  exact Ev.bind (impl_sheetsOf_ev (kindCode_zero h).1 a) (Ev.eq (by rw [if_pos h]))
theorem sheetsVal_ok {l : List S43} {a : Int} (h : stockOk l = true) (h0 : 0 ≤ a) (h1 : a ≤ 19) : sheetsVal l a = (sheets a l, 0) := by
  have e : kindCode l a = 0 := by unfold kindCode; rw [if_pos h, if_pos ⟨h0, h1⟩]
  unfold sheetsVal
  rw [if_pos e]
theorem asc_rises : ∀ (l : List S43) (p : Option Int), Asc dayOf l → (∀ x ∈ l, lotOk x = true) → (∀ d, p = some d → ∀ y ∈ l, d ≤ y.f2) → rises p l = true
  | [], _, _, _, _ => rfl
  | x :: xs, p, ha, hk, hp => by
    have ha' := List.pairwise_cons.1 ha
    have h3 := asc_rises xs (some x.f2) ha'.2 (fun y hy => hk y (List.mem_cons_of_mem _ hy)) (fun d hd y hy => by injection hd with hd; rw [← hd]; exact ha'.1 y hy)
    simp only [rises, Bool.and_eq_true]
    refine ⟨⟨hk x List.mem_cons_self, ?_⟩, h3⟩
    cases p with
    | none => rfl
    | some d => simpa using hp d rfl x List.mem_cons_self
theorem received_zero {l : List S43} {x : S43} (h : (received l x).2 = 0) : stockOk l = true ∧ lotOk x = true ∧ (received l x).1 = insB dayOf l x ∧ stockOk (insB dayOf l x) = true := by
  unfold received at h ⊢
  by_cases c1 : stockOk l = true
  · rw [if_pos c1] at h ⊢
    by_cases c2 : lotOk x = true
    · rw [if_pos c2] at h ⊢
      by_cases c3 : l.length = 30
      · rw [if_pos c3] at h; cases h
      · rw [if_neg c3] at h ⊢
        have hl := stockOk_len c1
        refine ⟨c1, c2, rfl, stockOk_mk (by rw [length_insB]; omega) (asc_rises _ none (asc_insB x (stock_asc c1)) (fun y hy => ?_) (fun d hd => by cases hd))⟩
        rcases mem_insB hy with rfl | hy
        · exact c2
        · exact stockOk_mem c1 hy
    · rw [if_neg c2] at h; cases h
  · rw [if_neg c1] at h; cases h
theorem sheets_insB (a : Int) (x : S43) : ∀ l : List S43, sheets a (insB dayOf l x) = sheets a l + (if x.f0 = a then x.f1 else 0)
  | [] => by simp [insB, sheets]
  | y :: l => by
    have ih := sheets_insB a x l
    unfold insB
    split
    · simp only [sheets]; omega
    · simp only [sheets, ih]; omega
theorem joined_zero {a b : List S43} (h : (joined a b).2 = 0) : stockOk (joined a b).1 = true ∧ (joined a b).1.length = a.length + b.length ∧ a.length + b.length ≤ 30 := by
  unfold joined at h ⊢
  by_cases c1 : stockOk a = true
  · rw [if_pos c1] at h ⊢
    by_cases c2 : stockOk b = true
    · rw [if_pos c2] at h ⊢
      by_cases c3 : (a.length : Int) + (b.length : Int) > 30
      · rw [if_pos c3] at h; cases h
      · rw [if_neg c3] at h ⊢
        have hp := List.mergeSort_perm (a ++ b) (byKey dayOf)
        have hl : ((a ++ b).mergeSort (byKey dayOf)).length = a.length + b.length := by rw [hp.length_eq, List.length_append]
        refine ⟨stockOk_mk (by rw [hl]; omega) (asc_rises _ none (asc_merge _) (fun y hy => ?_) (fun d hd => by cases hd)), hl, by omega⟩
        rcases List.mem_append.1 (hp.mem_iff.1 hy) with hy | hy
        · exact stockOk_mem c1 hy
        · exact stockOk_mem c2 hy
    · rw [if_neg c2] at h; cases h
  · rw [if_neg c1] at h; cases h
def tot : List S43 → Int
  | [] => 0
  | x :: xs => x.f1 + tot xs
theorem tot_bound : ∀ l : List S43, (∀ x ∈ l, lotOk x = true) → 0 ≤ tot l ∧ tot l ≤ 1000000 * l.length
  | [], _ => by simp [tot]
  | x :: xs, h => by
    have h1 := tot_bound xs (fun y hy => h y (List.mem_cons_of_mem _ hy))
    have h2 := lotOk_iff.1 (h x List.mem_cons_self)
    simp only [tot, List.length_cons]
    omega
theorem keeps_tot (a : Int) : ∀ l : List S43, (keeps a l).2 + tot (keeps a l).1 = tot l ∧ ∀ x ∈ (keeps a l).1, ¬ x.f2 < a ∧ x ∈ l
  | [] => ⟨rfl, fun x hx => by cases hx⟩
  | x :: xs => by
    have ih := keeps_tot a xs
    simp only [keeps]
    split
    · exact ⟨by simp only [tot]; omega, fun y hy => ⟨(ih.2 y hy).1, List.mem_cons_of_mem _ (ih.2 y hy).2⟩⟩
    · rename_i hx
      refine ⟨by simp only [tot]; omega, fun y hy => ?_⟩
      rcases List.mem_cons.1 hy with rfl | hy
      · exact ⟨hx, List.mem_cons_self⟩
      · exact ⟨(ih.2 y hy).1, List.mem_cons_of_mem _ (ih.2 y hy).2⟩
theorem keeps_pos (a : Int) : ∀ l : List S43, (∀ x ∈ l, lotOk x = true) → 0 ≤ (keeps a l).2
  | [], _ => by simp [keeps]
  | x :: xs, h => by
    have ih := keeps_pos a xs (fun y hy => h y (List.mem_cons_of_mem _ hy))
    have h2 := lotOk_iff.1 (h x List.mem_cons_self)
    simp only [keeps]
    split
    · simp only; omega
    · exact ih
theorem dropped_zero {l : List S43} {a : Int} (h : (dropped l a).2.2 = 0) : stockOk l = true ∧ (dropped l a).1 = (keeps a l).1 ∧ (dropped l a).2.1 = (keeps a l).2 := by
  unfold dropped at h ⊢
  by_cases c1 : stockOk l = true
  · rw [if_pos c1] at h ⊢
    by_cases c2 : 0 ≤ a ∧ a ≤ 100000
    · rw [if_pos c2]; exact ⟨c1, rfl, rfl⟩
    · rw [if_neg c2] at h; cases h
  · rw [if_neg c1] at h; cases h
end Go.Proofs.Ytanokgpnmbbajaa.PF
end
