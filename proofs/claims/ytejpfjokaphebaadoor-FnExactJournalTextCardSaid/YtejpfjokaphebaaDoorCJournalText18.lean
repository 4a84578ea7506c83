-- Gathered by this session's program wip/tool/shake.py out of its own texts and of what the kit's print and the session's patches of it wrote for this claim.
import Derived.Test.YtejpfjokaphebaaDoorProg
import Derived.ArgAppend
import Derived.Below
import Derived.BigQuiet
import Derived.Deep.AppendLies
import Derived.Deep.CutBlock
import Derived.Deep.DeepCutAuto
import Derived.Deep.Draws
import Derived.Deep.LoopGhost
import Derived.Deep.OwnRows
import Derived.Deep.QuietTactic
import Derived.Deep.RegionHeld3
import Derived.KernelRfl
import Derived.Laws.BitsLemmas
import Derived.Laws.BytesArg
import Derived.Laws.IdiomCopy
import Derived.Laws.MakeOwn
import Derived.Laws.OwnMore
import Derived.Laws.Rows
import Derived.Laws.Slices
import Derived.Laws.StructEq
import Derived.Lib.AppendIntMem
import Derived.Lib.AppendStr
import Derived.Lib.ConvBytes
import Derived.Lib.ItoaLen
import Derived.Lib.ItoaMem
import Derived.Lib.ItoaNum
import Derived.Maps.AppendAt
import Derived.OrdersHeld
import Derived.OwnWalk
import Derived.RowKit
import Derived.RowKit3
import Derived.Shelf.LaysM
import Derived.Shelf.Strconv.Itoa0
import Derived.Shelf.Strconv.Itoa1
import Derived.Shelf.Strconv.Itoa2
import Derived.Shelf.Strconv.Itoa3
import Derived.Shelf.Strconv.Itoa4
import Derived.Shelf.Strings.Builder1
import Derived.Tactics
import Derived.WalkKit
import Derived.WideLaws
import Derived.Test.YtejpfjokaphebaaDoorCJournalText7
import Derived.Test.YtejpfjokaphebaaDoorCJournalText9
import Derived.Test.YtejpfjokaphebaaDoorCJournalText11
import Derived.Test.YtejpfjokaphebaaDoorCJournalText14
import Derived.Test.YtejpfjokaphebaaDoorCJournalText17
section
namespace Go.Proofs.YtejpfjokaphebaaDoor.PA
open Go.RowKit Go.Proofs.YtejpfjokaphebaaDoorW.PrintWords Go.Proofs.YtejpfjokaphebaaDoorB
set_option linter.unusedVariables false
set_option linter.unusedSimpArgs false
theorem ba_ext {a b : ByteArray} (h : a.data.toList = b.data.toList) : a = b := by
  cases a; cases b; simp only [ByteArray.mk.injEq] at h ⊢; exact Array.toList_inj.1 h
theorem itoaB_data (n : Int) : (itoaB n).data.toList = Lib.itoa n := by simp [itoaB]
theorem itoaB_size (n : Int) : (itoaB n).size = (Lib.itoa n).length := by rw [← itoaB_data]; exact (data_length _).symm
theorem itoaB_le {n : Int} (h0 : -9223372036854775808 ≤ n) (h1 : n ≤ 9223372036854775807) : (itoaB n).size ≤ 21 := by rw [itoaB_size]; exact Lib.itoa_length_le n h0 h1
theorem impl_decimal_eq {n : Int} (h0 : -9223372036854775808 ≤ n) (h1 : n ≤ 9223372036854775807) : impl_decimal.f n = some (itoaB n) := by
  unfold impl_decimal.f strconv_FormatInt.f
  rw [if_pos ⟨h0, h1, rfl⟩]; rfl
theorem digit_nums (u : Nat) (h : u < 10) : strOfNums ([(wrap64 (48 + (u : Int))) % 256] : List Int) = ⟨#[UInt8.ofNat (48 + u)]⟩ := by
  refine ba_ext ?_
  rw [strOfNums_data, w64 (by omega) (by omega)]
  have e : ((48 + (u : Int)) % 256).toNat = 48 + u := by omega
  simp [e]
theorem itoaB_nat (u : Nat) : itoaB (u : Int) = ⟨(Lib.decDigits u).toArray⟩ := by rw [itoaB, Lib.itoa_nonneg]
theorem itoaB_small (u : Nat) (h : u < 10) : itoaB (u : Int) = ⟨#[UInt8.ofNat (48 + u)]⟩ := by rw [itoaB_nat, Lib.decDigits_one h]
theorem itoaB_big (u : Nat) (h : ¬ u < 10) : itoaB (u : Int) = itoaB ((u / 10 : Nat) : Int) ++ ⟨#[UInt8.ofNat (48 + u % 10)]⟩ := by
  refine ba_ext ?_
  rw [ByteArray.data_append, Array.toList_append, itoaB_data, itoaB_data, Lib.itoa_nonneg, Lib.itoa_nonneg, Lib.decDigits, dif_neg h]
theorem spec_l01Dec_nat : ∀ (u : Nat), (u : Int) ≤ 9223372036854775807 → Ev (fun k => spec_l01Dec.f k (u : Int)) (itoaB (u : Int)) := by
  intro u
  induction u using Nat.strongRecOn with
  | _ u ih =>
    intro hu
    refine Ev.succ ?_
    simp only [spec_l01Dec.f, Option.bind_some]
    refine Ev.ite (fun h => Ev.eq ?_) (fun h => ?_)
    · rw [digit_nums u (by omega), itoaB_small u (by omega)]
    · have e1 : wrap64 (Int.tdiv (u : Int) 10) = ((u / 10 : Nat) : Int) := by
        rw [show Int.tdiv (u : Int) 10 = ((u / 10 : Nat) : Int) from rfl, w64 (by omega) (by omega)]
      have e2 : Int.tmod (u : Int) 10 = ((u % 10 : Nat) : Int) := rfl
      rw [e1, e2, digit_nums (u % 10) (by omega)]
      have h3 := ih (u / 10) (by omega) (by omega)
      have h4 := itoaB_le (n := ((u / 10 : Nat) : Int)) (by omega) (by omega)
      refine Ev.bind h3 (Ev.pos ?_ (Ev.eq ?_))
      · have : (⟨#[UInt8.ofNat (48 + u % 10)]⟩ : ByteArray).size = 1 := rfl
        omega
      · rw [itoaB_big u (by omega)]
theorem spec_l01Dec_ev {n : Int} (h0 : 0 ≤ n) (h1 : n ≤ 9223372036854775807) : Ev (fun k => spec_l01Dec.f k n) (itoaB n) := by
  obtain ⟨u, rfl⟩ : ∃ u : Nat, n = (u : Int) := ⟨n.toNat, by omega⟩
  exact spec_l01Dec_nat u h1
theorem spec_l01Number_ev {n : Int} (h0 : -9223372036854775807 ≤ n) (h1 : n ≤ 9223372036854775807) : Ev (fun k => spec_l01Number.f k n) (itoaB n) := by
  unfold spec_l01Number.f
  refine Ev.ite (fun h => ?_) (fun h => ?_)
  · have e1 : wrap64 (-n) = ((-n).toNat : Int) := by rw [w64 (by omega) (by omega)]; omega
    rw [e1]
    have h4 := itoaB_le (n := ((-n).toNat : Int)) (by omega) (by omega)
    refine Ev.bind (spec_l01Dec_nat _ (by omega)) (Ev.pos (by omega) (Ev.eq ?_))
    congr 1
    refine ba_ext ?_
    rw [ByteArray.data_append, Array.toList_append, itoaB_data, itoaB_data, Lib.itoa_nonneg]
    obtain ⟨u, hu⟩ : ∃ u : Nat, n = -(u : Int) := ⟨(-n).toNat, by omega⟩
    subst hu
    rw [Lib.itoa_neg u (by omega)]
    simp
  · exact Ev.bind (spec_l01Dec_ev (by omega) h1) (Ev.eq rfl)
end Go.Proofs.YtejpfjokaphebaaDoor.PA
end
section
namespace Go.Proofs.YtejpfjokaphebaaDoor.PA
open Go.RowKit Go.Proofs.YtejpfjokaphebaaDoorW.PrintWords Go.Proofs.YtejpfjokaphebaaDoorB
set_option linter.unusedVariables false
set_option linter.unusedSimpArgs false
theorem bj_size (a b : ByteArray) : (a ++ b).size = a.size + b.size := ByteArray.size_append
def joinFrom (s : ByteArray) : Nat → ByteArray → List Int → ByteArray
  | _, o, [] => o
  | i, o, x :: xs => joinFrom s (i + 1) ((if i = 0 then o else o ++ s) ++ itoaB x) xs
theorem spec_l01Join_l0 (l : List Int) (s : ByteArray) (hl : l.length ≤ 1000000) (hs : s.size ≤ 1000) (hx : ∀ x ∈ l, -9223372036854775807 ≤ x ∧ x ≤ 9223372036854775807) : ∀ d i, i + d = l.length → ∀ o : ByteArray, o.size ≤ 2000 * i →
    Ev (fun k => spec_l01Join.l0 k l s o (i : Int)) (joinFrom s i o (l.drop i)) := by
  intro d
  induction d with
  | zero =>
    intro i hi o ho
    refine Ev.succ ?_
    simp only [spec_l01Join.l0]
    have : l.drop i = [] := List.drop_eq_nil_of_le (by omega)
    rw [this]
    exact Ev.neg (by omega) (Ev.eq rfl)
  | succ d ih =>
    intro i hi o ho
    have hm := getD_mem l 0 i (by omega)
    rw [getD_drop l 0 i (by omega)]
    have e1 : wrap64 ((i : Int) + 1) = ((i + 1 : Nat) : Int) := by rw [w64 (by omega) (by omega)]; omega
    refine Ev.succ ?_
    simp only [spec_l01Join.l0, rd_nat, e1]
    generalize l.getD i 0 = x at hm
    have hx1 := hx x hm
    have h2 := itoaB_le (n := x) (by omega) (by omega)
    refine Ev.pos (by omega) (Ev.ite (fun h => ?_) (fun h => ?_))
    · refine Ev.pos (by omega) (Ev.pos (by omega) (Ev.bind (spec_l01Number_ev hx1.1 hx1.2) (Ev.pos (by simp only [bj_size]; omega) ?_)))
      refine (ih (i + 1) (by omega) _ (by simp only [bj_size]; omega)).cast ?_
      simp only [joinFrom, if_neg (show ¬ i = 0 by omega)]
    · have e0 : i = 0 := by omega
      refine Ev.pos (by omega) (Ev.bind (spec_l01Number_ev hx1.1 hx1.2) (Ev.pos (by omega) ?_))
      refine (ih (i + 1) (by omega) _ (by simp only [bj_size]; omega)).cast ?_
      simp only [joinFrom, if_pos e0]
theorem spec_l01Join_ev {l : List Int} {s : ByteArray} (hl : l.length ≤ 1000000) (hs : s.size ≤ 1000) (hx : ∀ x ∈ l, -9223372036854775807 ≤ x ∧ x ≤ 9223372036854775807) :
    Ev (fun k => spec_l01Join.f k l s) (joinFrom s 0 ⟨#[]⟩ l) := by
  unfold spec_l01Join.f
  exact (spec_l01Join_l0 l s hl hs hx l.length 0 (by omega) _ (by decide)).cast (by simp)
end Go.Proofs.YtejpfjokaphebaaDoor.PA
end
section
namespace Go.Proofs.YtejpfjokaphebaaDoor.PA
open Go.RowKit Go.Proofs.YtejpfjokaphebaaDoorW.PrintWords Go.Proofs.YtejpfjokaphebaaDoorB
set_option linter.unusedVariables false
set_option linter.unusedSimpArgs false
theorem stepM_kind {a b c d k v : Int} {t : Int × Int × Int × Int} (h : stepM a b c d k v = some t) : (0 ≤ v ∧ v ≤ 1000000000) ∧ (1 ≤ k ∧ k ≤ 4) := by
  unfold stepM at h
  split at h
  · rename_i hv
    refine ⟨by omega, ?_⟩
    by_cases k1 : k = 1
    · omega
    by_cases k2 : k = 2
    · omega
    by_cases k3 : k = 3
    · omega
    by_cases k4 : k = 4
    · omega
    simp [k1, k2, k3, k4] at h
  · cases h
theorem runM_kinds : ∀ (l : List S86) (m : Int × Int × Int × Int) (t : Int × Int × Int × Int), runM m l = some t → ∀ e ∈ l, (0 ≤ e.f1 ∧ e.f1 ≤ 1000000000) ∧ (1 ≤ e.f0 ∧ e.f0 ≤ 4)
  | [], _, _, _ => by intro e he; cases he
  | x :: xs, m, t, h => by
    simp only [runM] at h
    intro e he
    cases hs : stepM m.1 m.2.1 m.2.2.1 m.2.2.2 x.f0 x.f1 with
    | none => rw [hs] at h; cases h
    | some u =>
      rw [hs] at h
      rcases List.mem_cons.1 he with rfl | he
      · exact stepM_kind hs
      · exact runM_kinds xs u t h e he
/-- The check number of an entry with an index. -/
def checkOf (a b i : Int) : Int := Int.tmod (wrap64 ((wrap64 ((wrap64 (7 * a)) + (wrap64 (3 * b)))) + (wrap64 (11 * i)))) 9973
theorem checkOf_range (a b i : Int) : -9973 ≤ checkOf a b i ∧ checkOf a b i ≤ 9973 := by
  unfold checkOf
  have h1 := Int.tmod_lt_of_pos (wrap64 ((wrap64 ((wrap64 (7 * a)) + (wrap64 (3 * b)))) + (wrap64 (11 * i)))) (show (0 : Int) < 9973 by decide)
  have h2 := Int.lt_tmod_of_pos (wrap64 ((wrap64 ((wrap64 (7 * a)) + (wrap64 (3 * b)))) + (wrap64 (11 * i)))) (show (0 : Int) < 9973 by decide)
  omega
/-- The line of an entry with an index. -/
def lineB (a b i : Int) : ByteArray := (((itoaB a ++ (⟨#[32]⟩ : ByteArray)) ++ itoaB b) ++ (⟨#[32]⟩ : ByteArray)) ++ itoaB (checkOf a b i)
theorem t1 : (⟨#[32]⟩ : ByteArray).size = 1 := rfl
theorem t1n : (⟨#[10]⟩ : ByteArray).size = 1 := rfl
theorem lineB_le {a b i : Int} (ha : -1000000000 ≤ a ∧ a ≤ 10000000000) (hb : -1000000000 ≤ b ∧ b ≤ 10000000000) : (lineB a b i).size ≤ 65 := by
  have h1 := itoaB_le (n := a) (by omega) (by omega)
  have h2 := itoaB_le (n := b) (by omega) (by omega)
  have h3 := checkOf_range a b i
  have h4 := itoaB_le (n := checkOf a b i) (by omega) (by omega)
  simp only [lineB, bj_size, t1]; omega
theorem ba_nil_append (a : ByteArray) : (⟨#[]⟩ : ByteArray) ++ a = a := by
  refine ba_ext ?_
  rw [ByteArray.data_append, Array.toList_append]; rfl
theorem spec_l29Line_ev {a b i : Int} (ha : -1000000000 ≤ a ∧ a ≤ 10000000000) (hb : -1000000000 ≤ b ∧ b ≤ 10000000000) : Ev (fun k => spec_l29Line.f k a b i) (lineB a b i) := by
  have h3 := checkOf_range a b i
  unfold spec_l29Line.f
  refine Ev.bind (spec_l01Join_ev (l := [a, b, checkOf a b i]) (by simp) (by decide) ?_) (Ev.eq ?_)
  · intro x hx
    simp only [List.mem_cons, List.not_mem_nil, or_false] at hx
    rcases hx with rfl | rfl | rfl <;> omega
  · simp only [joinFrom, ba_nil_append, if_true, if_neg (show ¬ (0 + 1 = 0) by decide), if_neg (show ¬ (0 + 1 + 1 = 0) by decide), lineB]
theorem impl_entryLine_eq {a b i : Int} (ha : -1000000000 ≤ a ∧ a ≤ 10000000000) (hb : -1000000000 ≤ b ∧ b ≤ 10000000000) : impl_entryLine.f a b i = some (lineB a b i) := by
  have h1 := itoaB_le (n := a) (by omega) (by omega)
  have h2 := itoaB_le (n := b) (by omega) (by omega)
  have h3 := checkOf_range a b i
  have h4 := itoaB_le (n := checkOf a b i) (by omega) (by omega)
  unfold impl_entryLine.f
  rw [impl_decimal_eq (by omega) (by omega)]; simp only [Option.bind_some]
  rw [if_pos (by omega), impl_decimal_eq (by omega) (by omega)]; simp only [Option.bind_some]
  rw [if_pos (by simp only [bj_size, t1]; omega), if_pos (by simp only [bj_size, t1]; omega)]
  have hd : impl_decimal.f (Int.tmod (wrap64 ((wrap64 ((wrap64 (7 * a)) + (wrap64 (3 * b)))) + (wrap64 (11 * i)))) 9973) = some (itoaB (checkOf a b i)) := impl_decimal_eq (n := checkOf a b i) (by omega) (by omega)
  rw [hd]; simp only [Option.bind_some]
  rw [if_pos (by simp only [bj_size, t1]; omega)]
  rfl
/-- The text of entries from an index on. -/
def journalB : List S86 → Nat → ByteArray → ByteArray
  | [], _, o => o
  | e :: es, i, o => journalB es (i + 1) (o ++ (lineB e.f0 e.f1 (i : Int) ++ (⟨#[10]⟩ : ByteArray)))
theorem bytesOf_append (a b : ByteArray) : bytesOf (a ++ b) = bytesOf a ++ bytesOf b := by
  unfold bytesOf
  rw [ByteArray.data_append, Array.toList_append, List.map_append]
theorem strOfNums_bytesOf (a : ByteArray) : strOfNums (bytesOf a) = a := by
  refine ba_ext ?_
  rw [strOfNums_data, bytesOf, List.map_map]
  conv => rhs; rw [← List.map_id a.data.toList]
  refine List.map_congr_left fun b _ => ?_
  simp
theorem spec_JournalText_l0 (l : List S86) (hl : l.length ≤ 200) (hx : ∀ e ∈ l, (0 ≤ e.f1 ∧ e.f1 ≤ 1000000000) ∧ (1 ≤ e.f0 ∧ e.f0 ≤ 4)) : ∀ d i, i + d = l.length → ∀ o : ByteArray, o.size ≤ 66 * i →
    Ev (fun k => spec_JournalText.l0 k l (bytesOf o) (i : Int)) (journalB (l.drop i) i o, 0) := by
  intro d
  induction d with
  | zero =>
    intro i hi o ho
    refine Ev.succ ?_
    simp only [spec_JournalText.l0]
    have : l.drop i = [] := List.drop_eq_nil_of_le (by omega)
    rw [this]
    exact Ev.neg (by omega) (Ev.eq (by rw [strOfNums_bytesOf]; rfl))
  | succ d ih =>
    intro i hi o ho
    have hm := getD_mem l z86 i (by omega)
    rw [getD_drop l z86 i (by omega)]
    have e1 : wrap64 ((i : Int) + 1) = ((i + 1 : Nat) : Int) := by rw [w64 (by omega) (by omega)]; omega
    refine Ev.succ ?_
    simp only [spec_JournalText.l0, rd_Entry, e1]
    generalize l.getD i z86 = x at hm
    have hx1 := hx x hm
    have h3 := lineB_le (a := x.f0) (b := x.f1) (i := (i : Int)) (by omega) (by omega)
    refine Ev.pos (by omega) (Ev.pos (by omega) (Ev.bind (spec_l29Line_ev (by omega) (by omega)) (Ev.pos (by omega) (Ev.pos (by rw [bytesOf_length]; simp only [bj_size, t1n]; omega) ?_))))
    rw [← bytesOf_append]
    exact ih (i + 1) (by omega) _ (by simp only [bj_size, t1n]; omega)
theorem impl_JournalText_l0 (l : List S86) (hl : l.length ≤ 200) (hx : ∀ e ∈ l, (0 ≤ e.f1 ∧ e.f1 ≤ 1000000000) ∧ (1 ≤ e.f0 ∧ e.f0 ≤ 4)) : ∀ d i, i + d = l.length → ∀ o : ByteArray, o.size ≤ 66 * i →
    Ev (fun k => impl_JournalText.l0 k o l (l.length : Int) (i : Int)) (journalB (l.drop i) i o, 0) := by
  intro d
  induction d with
  | zero =>
    intro i hi o ho
    refine Ev.succ ?_
    simp only [impl_JournalText.l0]
    have : l.drop i = [] := List.drop_eq_nil_of_le (by omega)
    rw [this]
    exact Ev.neg (by omega) (Ev.eq rfl)
  | succ d ih =>
    intro i hi o ho
    have hm := getD_mem l z86 i (by omega)
    rw [getD_drop l z86 i (by omega)]
    have e1 : wrap64 ((i : Int) + 1) = ((i + 1 : Nat) : Int) := by rw [w64 (by omega) (by omega)]; omega
    refine Ev.succ ?_
    simp only [impl_JournalText.l0, rd_Entry, e1]
    generalize l.getD i z86 = x at hm
    have hx1 := hx x hm
    have h3 := lineB_le (a := x.f0) (b := x.f1) (i := (i : Int)) (by omega) (by omega)
    refine Ev.pos (by omega) (Ev.pos (by omega) (Ev.pos (by omega) (Ev.bind (Ev.eq (impl_entryLine_eq (by omega) (by omega))) (Ev.pos (by omega) (Ev.pos (by simp only [bj_size, t1n]; omega) ?_)))))
    exact ih (i + 1) (by omega) _ (by simp only [bj_size, t1n]; omega)
/-- What JournalText answers. -/
def journalText (l : List S86) : ByteArray × Int := if (endM l.length (runM (0, 0, 0, 0) l)).2.2.2.2 = true then (journalB l 0 ⟨#[]⟩, 0) else (⟨#[]⟩, 1)
theorem endM_true {n : Nat} {o : Option (Int × Int × Int × Int)} (h : (endM n o).2.2.2.2 = true) : n ≤ 200 ∧ ∃ t, o = some t := by
  cases o with
  | none => cases h
  | some t => simp only [endM, decide_eq_true_eq] at h; exact ⟨by omega, t, rfl⟩
theorem spec_JournalText_ev {l : List S86} (hl : l.length ≤ 9223372036854775806) : Ev (fun k => spec_JournalText.f k l) (journalText l) := by
  unfold spec_JournalText.f journalText
  refine Ev.bind (spec_l29Run_ev hl) (Ev.ite (fun h => ?_) (fun h => Ev.eq (by rw [if_neg h])))
  rw [if_pos h]
  obtain ⟨hn, t, ht⟩ := endM_true h
  exact (spec_JournalText_l0 l hn (runM_kinds l _ t ht) l.length 0 (by omega) ⟨#[]⟩ (by decide)).cast (by simp)
theorem impl_JournalText_ev {l : List S86} (hl : l.length ≤ 9223372036854775806) : Ev (fun k => impl_JournalText.f k l) (journalText l) := by
  unfold impl_JournalText.f journalText
  refine Ev.bind (impl_runEntries_ev hl) (Ev.ite (fun h => ?_) (fun h => Ev.eq (by rw [if_neg h])))
  rw [if_pos h]
  obtain ⟨hn, t, ht⟩ := endM_true h
  exact (impl_JournalText_l0 l hn (runM_kinds l _ t ht) l.length 0 (by omega) ⟨#[]⟩ (by decide)).cast (by simp)
end Go.Proofs.YtejpfjokaphebaaDoor.PA
end
section
namespace Go.Proofs.YtejpfjokaphebaaDoor.Pure
open Go.RowKit Go.Proofs.YtejpfjokaphebaaDoorW.PrintWords Go.Proofs.YtejpfjokaphebaaDoorB Go.Proofs.YtejpfjokaphebaaDoor.PA
set_option linter.unusedVariables false
set_option linter.unusedSimpArgs false
theorem FnExactJournalText : laws_FnExactJournalText.Pure := by
  intro l hg
  obtain ⟨r, h1, h2⟩ := laws_szEntryS_eq hg.1
  refine Ev.rounds (g := fun k => laws_FnExactJournalText.f k l) ?_
  unfold laws_FnExactJournalText.f
  refine Ev.bind (Ev.eq h1) (Ev.ite (fun _ => Ev.eq rfl) (fun h => ?_))
  have hl : l.length ≤ 1048576 := by omega
  have hm : (l.map toEntry).length ≤ 9223372036854775806 := by simp; omega
  have s0 := laws_toEntryS_ev hl
  refine Ev.bind s0 (Ev.bind (spec_JournalText_ev hm) (Ev.bind s0 (Ev.bind (impl_JournalText_ev hm) (Ev.pos rfl (Ev.succ ?_)))))
  simp only [laws_FnExactJournalText.j0]
  exact Ev.neg (by simp) (Ev.bind s0 (Ev.bind (laws_eqEntryS_refl hm) (Ev.pos rfl (Ev.eq rfl))))
end Go.Proofs.YtejpfjokaphebaaDoor.Pure
end
