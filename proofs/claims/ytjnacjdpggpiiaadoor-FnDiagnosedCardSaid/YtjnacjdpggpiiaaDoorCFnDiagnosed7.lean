-- Gathered by this session's program wip/tool/shake.py out of its own texts and of what the kit's print and the session's patches of it wrote for this claim.
import Derived.DeepKeys4
import Derived.Maps.OwnOps
import Derived.Maps.OwnSet
import Derived.StillTailTactics
import Derived.Test.YtjnacjdpggpiiaaDoorCFnDiagnosed6
section
namespace Go.Proofs.YtjnacjdpggpiiaaDoor.PU
open Go.RowKit Go.Proofs.YtjnacjdpggpiiaaDoorW.PrintWords Go.Proofs.YtjnacjdpggpiiaaDoorW.PrintLast Go.Proofs.YtjnacjdpggpiiaaDoorW.PrintMore
attribute [local go_sem] max2_int min2_int max_two min_two max_three min_three max_four min_four   -- for this text's walks alone
set_option linter.unusedVariables false
set_option linter.unusedSimpArgs false
section
open Go.Maps
abbrev IsE (w : World) (ge gm : Nat) (n : Int) (A : Option Addr) (c : Nat) (l : List Int) : Prop := w.heap[ge]? = some (.cells #[.int .i64 n, .slice A l.length c, .map (some gm)] 52 (0, 0))
set_option maxHeartbeats 8000000 in
set_option maxRecDepth 100000 in
theorem next_a {n : Int} {l : List Int} {A : Option Addr} {c ge gm : Nat} (st pl kd : Int) (h4 : kd = 4) (hp : pl = (l.length : Int)) (w : World) (hE : IsE w ge gm n A c l) (hl : Kd.C (Kd.int .i64) w A l.length l) (hc : l.length ≤ c) :
    Calls Tryd.prog 33 #[.pointer (some ⟨ge, 0, none⟩), .int .i64 st, .int .i64 pl, .int .i64 kd] w fun e w' => e = .returned (.int .i64 (-1)) ∧ Below w.heap.size w w' := by
  have HE := Aside0.mk hE
  have HR := Aside0.mk hl
  have HC := Aside0.mk hc
  have HB := Aside0.mk (Below.refl w.heap.size w)
  have he0 : w.cell? ⟨ge, 0, none⟩ = some (.int .i64 n) := (blk_cell hE 0).trans rfl
  have he1 : w.cell? ⟨ge, 1, none⟩ = some (.slice A l.length c) := (blk_cell hE 1).trans rfl
  have he2 : w.cell? ⟨ge, 2, none⟩ = some (.map (some gm)) := (blk_cell hE 2).trans rfl
  clear hE hl hc
  subst h4
  have b1 : ((pl : Int) == (l.length : Int)) = true := beq_iff_eq.mpr hp
  clear hp
  go_enter Tryd.func33, Tryd.ntmps33
  go_wp2_with (first | (go_at_call 39; (with_reducible first | (refine (impl_length_int64.calls _ _ l _ _ ?side1 ?side2 rfl).mono ?_) ); (case side1 => repeat (first | exact HR.out | (with_reducible refine Kd.C_alloc ?_ _) | (with_reducible refine Kd.C_drewN ?_ _) | (with_reducible refine Kd.C_drew ?_))); (case side2 => exact HC.out); rintro e w' ⟨rfl, ⟨nd, rfl⟩⟩))
  go_ret
  exact ⟨rfl, (by repeat (first | (with_reducible first | exact HB.out | apply below_alloc | apply pw_below_drewN | apply below_drew1) | exact HB.out))⟩
set_option maxHeartbeats 8000000 in
set_option maxRecDepth 100000 in
theorem next_b {n : Int} {l : List Int} {A : Option Addr} {c ge gm : Nat} (st pl kd x : Int) (h4 : kd = 4) (hp : 0 ≤ pl ∧ pl < (l.length : Int)) (hx0 : rd l pl = x) (h1 : x < 1) (w : World) (hE : IsE w ge gm n A c l) (hl : Kd.C (Kd.int .i64) w A l.length l) (hc : l.length ≤ c) :
    Calls Tryd.prog 33 #[.pointer (some ⟨ge, 0, none⟩), .int .i64 st, .int .i64 pl, .int .i64 kd] w fun e w' => e = .returned (.int .i64 (-1)) ∧ Below w.heap.size w w' := by
  have HE := Aside0.mk hE
  have HR := Aside0.mk hl
  have HC := Aside0.mk hc
  have HB := Aside0.mk (Below.refl w.heap.size w)
  have he0 : w.cell? ⟨ge, 0, none⟩ = some (.int .i64 n) := (blk_cell hE 0).trans rfl
  have he1 : w.cell? ⟨ge, 1, none⟩ = some (.slice A l.length c) := (blk_cell hE 1).trans rfl
  have he2 : w.cell? ⟨ge, 2, none⟩ = some (.map (some gm)) := (blk_cell hE 2).trans rfl
  clear hE hl hc
  subst h4
  have p1 : 0 ≤ pl := by omega
  have q1 : pl < (l.length : Int) := by omega
  obtain ⟨ad, ea, hx⟩ := Kd.at_int HR.out pl p1 q1
  subst ea
  rw [hx0] at hx
  have b1 : ((pl : Int) == (l.length : Int)) = false := beq_eq_false_iff_ne.mpr (by omega)
  replace p1 := eq_true p1
  replace q1 := eq_true q1
  clear hp hx0
  have b2 : decide (x < 1) = true := decide_eq_true h1
  clear h1
  go_enter Tryd.func33, Tryd.ntmps33
  go_wp2_with (first | (go_at_call 39; (with_reducible first | (refine (impl_length_int64.calls _ _ l _ _ ?side1 ?side2 rfl).mono ?_) ); (case side1 => repeat (first | exact HR.out | (with_reducible refine Kd.C_alloc ?_ _) | (with_reducible refine Kd.C_drewN ?_ _) | (with_reducible refine Kd.C_drew ?_))); (case side2 => exact HC.out); rintro e w' ⟨rfl, ⟨nd, rfl⟩⟩))
  go_ret
  exact ⟨rfl, (by repeat (first | (with_reducible first | exact HB.out | apply below_alloc | apply pw_below_drewN | apply below_drew1) | exact HB.out))⟩
set_option maxHeartbeats 8000000 in
set_option maxRecDepth 100000 in
theorem next_c {n : Int} {l : List Int} {A : Option Addr} {c ge gm : Nat} (st pl kd x : Int) (h4 : kd = 4) (hp : 0 ≤ pl ∧ pl < (l.length : Int)) (hx0 : rd l pl = x) (h1 : ¬ x < 1) (h2 : x = wrap64 (st + 1)) (w : World) (hE : IsE w ge gm n A c l) (hl : Kd.C (Kd.int .i64) w A l.length l) (hc : l.length ≤ c) :
    Calls Tryd.prog 33 #[.pointer (some ⟨ge, 0, none⟩), .int .i64 st, .int .i64 pl, .int .i64 kd] w fun e w' => e = .returned (.int .i64 (-1)) ∧ Below w.heap.size w w' := by
  have HE := Aside0.mk hE
  have HR := Aside0.mk hl
  have HC := Aside0.mk hc
  have HB := Aside0.mk (Below.refl w.heap.size w)
  have he0 : w.cell? ⟨ge, 0, none⟩ = some (.int .i64 n) := (blk_cell hE 0).trans rfl
  have he1 : w.cell? ⟨ge, 1, none⟩ = some (.slice A l.length c) := (blk_cell hE 1).trans rfl
  have he2 : w.cell? ⟨ge, 2, none⟩ = some (.map (some gm)) := (blk_cell hE 2).trans rfl
  clear hE hl hc
  subst h4
  have p1 : 0 ≤ pl := by omega
  have q1 : pl < (l.length : Int) := by omega
  obtain ⟨ad, ea, hx⟩ := Kd.at_int HR.out pl p1 q1
  subst ea
  rw [hx0] at hx
  have b1 : ((pl : Int) == (l.length : Int)) = false := beq_eq_false_iff_ne.mpr (by omega)
  replace p1 := eq_true p1
  replace q1 := eq_true q1
  clear hp hx0
  have b2 : decide (x < 1) = false := decide_eq_false h1
  have b3 : (x == wrap64 (st + 1)) = true := beq_iff_eq.mpr h2
  clear h1 h2
  go_enter Tryd.func33, Tryd.ntmps33
  go_wp2_with (first | (go_at_call 39; (with_reducible first | (refine (impl_length_int64.calls _ _ l _ _ ?side1 ?side2 rfl).mono ?_) ); (case side1 => repeat (first | exact HR.out | (with_reducible refine Kd.C_alloc ?_ _) | (with_reducible refine Kd.C_drewN ?_ _) | (with_reducible refine Kd.C_drew ?_))); (case side2 => exact HC.out); rintro e w' ⟨rfl, ⟨nd, rfl⟩⟩))
  go_ret
  exact ⟨rfl, (by repeat (first | (with_reducible first | exact HB.out | apply below_alloc | apply pw_below_drewN | apply below_drew1) | exact HB.out))⟩
set_option maxHeartbeats 8000000 in
set_option maxRecDepth 100000 in
theorem next_e {n : Int} {l : List Int} {A : Option Addr} {c ge gm : Nat} (st pl kd oo : Int) (L : List Int) (h4 : ¬ kd = 4) (ho1 : oo = -1) (hL : impl_left.f st kd oo = some L) (h1 : wrap64 (pl + (L.length : Int)) > (l.length : Int)) (w : World) (hE : IsE w ge gm n A c l) (hl : Kd.C (Kd.int .i64) w A l.length l) (hc : l.length ≤ c) :
    Calls Tryd.prog 33 #[.pointer (some ⟨ge, 0, none⟩), .int .i64 st, .int .i64 pl, .int .i64 kd] w fun e w' => e = .returned (.int .i64 (-1)) ∧ Below w.heap.size w w' := by
  have HE := Aside0.mk hE
  have HR := Aside0.mk hl
  have HC := Aside0.mk hc
  have HB := Aside0.mk (Below.refl w.heap.size w)
  have he0 : w.cell? ⟨ge, 0, none⟩ = some (.int .i64 n) := (blk_cell hE 0).trans rfl
  have he1 : w.cell? ⟨ge, 1, none⟩ = some (.slice A l.length c) := (blk_cell hE 1).trans rfl
  have he2 : w.cell? ⟨ge, 2, none⟩ = some (.map (some gm)) := (blk_cell hE 2).trans rfl
  clear hE hl hc
  have HL := Aside0.mk hL
  subst ho1
  have b0 : (kd == 4) = false := beq_eq_false_iff_ne.mpr h4
  have b1 : decide ((l.length : Int) < wrap64 (pl + (L.length : Int))) = true := decide_eq_true h1
  clear h1 h4 hL
  go_enter Tryd.func33, Tryd.ntmps33
  go_wp2_with (first | (go_at_call 53; (with_reducible refine (impl_left.calls st kd (-1) L _ HL.out).mono ?_); rintro e w1 ⟨v0, rfl, ho, hb⟩; have n0_ := Aside0.mk (blk_below (by (with_reducible repeat (first | refine blk_drewN ?_ _ | refine blk_drew ?_ | refine blk_alloc ?_ _)); exact HE.out) hb); have n1_ := Aside0.mk (Kd.C_below (by repeat (first | exact HR.out | (with_reducible refine Kd.C_drewN ?_ _) | (with_reducible refine Kd.C_drew ?_))) hb); have n2_ := Aside0.mk (below_step (by repeat (first | (with_reducible first | exact HB.out | apply below_alloc | apply pw_below_drewN | apply below_drew1) | exact HB.out)) hb); clear HE HR HB he0 he1 he2; have HE := n0_; have HR := n1_; have HB := n2_; clear n0_ n1_ n2_; have he0 := (blk_cell HE.out 0).trans rfl; have he1 := (blk_cell HE.out 1).trans rfl; have HO := Aside0.mk ho; clear ho hb; obtain ⟨Ao, co, eo⟩ := Kd.R_slice HO.out; subst eo) | (go_at_call 39; (first | (with_reducible refine (impl_length_int64.calls _ _ L _ _ ?side1 ?side2 rfl).mono ?_) | (with_reducible refine (impl_length_int64.calls _ _ l _ _ ?side1 ?side2 rfl).mono ?_)); (case side1 => repeat (first | exact HR.out | exact (Kd.R_reads' HO.out).2.2 | (with_reducible refine Kd.C_alloc ?_ _) | (with_reducible refine Kd.C_drewN ?_ _) | (with_reducible refine Kd.C_drew ?_))); (case side2 => first | exact HC.out | exact (Kd.R_reads' HO.out).2.1); rintro e w' ⟨rfl, ⟨nd, rfl⟩⟩))
  go_ret
  exact ⟨rfl, (by repeat (first | (with_reducible first | exact HB.out | apply below_alloc | apply pw_below_drewN | apply below_drew1) | exact HB.out))⟩
set_option maxHeartbeats 8000000 in
set_option maxRecDepth 100000 in
theorem next_f {n : Int} {l : List Int} {A : Option Addr} {c ge gm : Nat} (st pl kd : Int) (L M : List Int) (k1 : Nat) (h4 : ¬ kd = 4) (hL : impl_left.f st kd (-1) = some L) (hpl : 0 ≤ pl ∧ pl ≤ (l.length : Int)) (h1 : pl ≤ wrap64 (pl + (L.length : Int)) ∧ wrap64 (pl + (L.length : Int)) ≤ (l.length : Int)) (hM : (l.take (wrap64 (pl + (L.length : Int))).toNat).drop pl.toNat = M) (hQ : slices_Equal_int64_int64.f k1 L M = some false) (r : Int) (hres : (-1) = r) (w : World) (hE : IsE w ge gm n A c l) (hl : Kd.C (Kd.int .i64) w A l.length l) (hc : l.length ≤ c) :
    Calls Tryd.prog 33 #[.pointer (some ⟨ge, 0, none⟩), .int .i64 st, .int .i64 pl, .int .i64 kd] w fun e w' => e = .returned (.int .i64 r) ∧ Below w.heap.size w w' := by
  have HE := Aside0.mk hE
  have HR := Aside0.mk hl
  have HC := Aside0.mk hc
  have HB := Aside0.mk (Below.refl w.heap.size w)
  have he0 : w.cell? ⟨ge, 0, none⟩ = some (.int .i64 n) := (blk_cell hE 0).trans rfl
  have he1 : w.cell? ⟨ge, 1, none⟩ = some (.slice A l.length c) := (blk_cell hE 1).trans rfl
  have he2 : w.cell? ⟨ge, 2, none⟩ = some (.map (some gm)) := (blk_cell hE 2).trans rfl
  clear hE hl hc
  subst hres
  have HL := Aside0.mk hL
  have HQ := Aside0.mk hQ
  obtain ⟨j1, hj1⟩ : ∃ j1, wrap64 (pl + (L.length : Int)) = j1 := ⟨_, rfl⟩
  obtain ⟨i0, hi0, _, hsz, _⟩ := info_parts info2
  rw [hj1] at h1 hM
  obtain ⟨A2, hcut, hA2, hC2⟩ := print_mid_of (P := Tryd.prog) (Value.int .i64) 0 24 2 .i64 .i64 Tryd.underlying24 hi0 hsz A c l pl j1 hpl.1 h1.1 h1.2 HC.out
  rw [hM] at hcut hA2 hC2
  have HM := Aside0.mk hA2
  have HMc := Aside0.mk hC2
  have b1 : decide ((l.length : Int) < j1) = false := decide_eq_false (by omega)
  have hj2 : IntKind.i64.wrap (pl + (L.length : Int)) = j1 := (i64_w _).trans hj1
  clear h1 hL hQ hA2 hC2 hM hi0 hsz
  have b0 : (kd == 4) = false := beq_eq_false_iff_ne.mpr h4
  clear h4
  go_enter Tryd.func33, Tryd.ntmps33
  go_wp2_with (first | (go_at_call 53; (with_reducible refine (impl_left.calls st kd (-1) L _ HL.out).mono ?_); rintro e w1 ⟨v0, rfl, ho, hb⟩; have n0_ := Aside0.mk (blk_below (by (with_reducible repeat (first | refine blk_drewN ?_ _ | refine blk_drew ?_ | refine blk_alloc ?_ _)); exact HE.out) hb); have n1_ := Aside0.mk (Kd.C_below (by repeat (first | exact HR.out | (with_reducible refine Kd.C_drewN ?_ _) | (with_reducible refine Kd.C_drew ?_))) hb); have n2_ := Aside0.mk (below_step (by repeat (first | (with_reducible first | exact HB.out | apply below_alloc | apply pw_below_drewN | apply below_drew1) | exact HB.out)) hb); clear HE HR HB he0 he1 he2; have HE := n0_; have HR := n1_; have HB := n2_; clear n0_ n1_ n2_; have he0 := (blk_cell HE.out 0).trans rfl; have he1 := (blk_cell HE.out 1).trans rfl; have HO := Aside0.mk ho; clear ho hb; obtain ⟨Ao, co, eo⟩ := Kd.R_slice HO.out; subst eo) | (go_at_call 39; (first | (with_reducible refine (impl_length_int64.calls _ _ L _ _ ?side1 ?side2 rfl).mono ?_) | (with_reducible refine (impl_length_int64.calls _ _ l _ _ ?side1 ?side2 rfl).mono ?_)); (case side1 => repeat (first | exact HR.out | exact (Kd.R_reads' HO.out).2.2 | (with_reducible refine Kd.C_alloc ?_ _) | (with_reducible refine Kd.C_drewN ?_ _) | (with_reducible refine Kd.C_drew ?_))); (case side2 => first | exact HC.out | exact (Kd.R_reads' HO.out).2.1); rintro e w' ⟨rfl, ⟨nd, rfl⟩⟩) | (go_at_call 40; (with_reducible refine (slices_Equal_int64_int64.calls k1 _ _ L _ _ M false _ ?side1 ?side2 ?side3 ?side4 HQ.out).mono ?_); (case side1 => repeat (first | exact (Kd.R_reads' HO.out).2.2 | (with_reducible refine Kd.C_alloc ?_ _) | (with_reducible refine Kd.C_drewN ?_ _) | (with_reducible refine Kd.C_drew ?_))); (case side2 => exact (Kd.R_reads' HO.out).2.1); (case side3 => repeat (first | exact Kd.C_of_reads (h1 := fun _ => rfl) (HM.out _ (Kd.reads_of_C HR.out)) | (with_reducible refine Kd.C_alloc ?_ _) | (with_reducible refine Kd.C_drewN ?_ _) | (with_reducible refine Kd.C_drew ?_))); (case side4 => exact HMc.out); rintro e w' ⟨rfl, ⟨nd, rfl⟩⟩))
  go_ret
  exact ⟨rfl, (by repeat (first | (with_reducible first | exact HB.out | apply below_alloc | apply pw_below_drewN | apply below_drew1) | exact HB.out))⟩
set_option maxHeartbeats 8000000 in
set_option maxRecDepth 100000 in
theorem next_g {n : Int} {l : List Int} {A : Option Addr} {c ge gm : Nat} (st pl kd : Int) (L M : List Int) (k1 : Nat) (h4 : ¬ kd = 4) (hL : impl_left.f st kd (-1) = some L) (hpl : 0 ≤ pl ∧ pl ≤ (l.length : Int)) (h1 : pl ≤ wrap64 (pl + (L.length : Int)) ∧ wrap64 (pl + (L.length : Int)) ≤ (l.length : Int)) (hM : (l.take (wrap64 (pl + (L.length : Int))).toNat).drop pl.toNat = M) (hQ : slices_Equal_int64_int64.f k1 L M = some true) (r : Int) (hres : (wrap64 (pl + (L.length : Int))) = r) (w : World) (hE : IsE w ge gm n A c l) (hl : Kd.C (Kd.int .i64) w A l.length l) (hc : l.length ≤ c) :
    Calls Tryd.prog 33 #[.pointer (some ⟨ge, 0, none⟩), .int .i64 st, .int .i64 pl, .int .i64 kd] w fun e w' => e = .returned (.int .i64 r) ∧ Below w.heap.size w w' := by
  have HE := Aside0.mk hE
  have HR := Aside0.mk hl
  have HC := Aside0.mk hc
  have HB := Aside0.mk (Below.refl w.heap.size w)
  have he0 : w.cell? ⟨ge, 0, none⟩ = some (.int .i64 n) := (blk_cell hE 0).trans rfl
  have he1 : w.cell? ⟨ge, 1, none⟩ = some (.slice A l.length c) := (blk_cell hE 1).trans rfl
  have he2 : w.cell? ⟨ge, 2, none⟩ = some (.map (some gm)) := (blk_cell hE 2).trans rfl
  clear hE hl hc
  subst hres
  have HL := Aside0.mk hL
  have HQ := Aside0.mk hQ
  obtain ⟨j1, hj1⟩ : ∃ j1, wrap64 (pl + (L.length : Int)) = j1 := ⟨_, rfl⟩
  obtain ⟨i0, hi0, _, hsz, _⟩ := info_parts info2
  rw [hj1] at h1 hM
  obtain ⟨A2, hcut, hA2, hC2⟩ := print_mid_of (P := Tryd.prog) (Value.int .i64) 0 24 2 .i64 .i64 Tryd.underlying24 hi0 hsz A c l pl j1 hpl.1 h1.1 h1.2 HC.out
  rw [hM] at hcut hA2 hC2
  have HM := Aside0.mk hA2
  have HMc := Aside0.mk hC2
  have b1 : decide ((l.length : Int) < j1) = false := decide_eq_false (by omega)
  have hj2 : IntKind.i64.wrap (pl + (L.length : Int)) = j1 := (i64_w _).trans hj1
  clear h1 hL hQ hA2 hC2 hM hi0 hsz
  have b0 : (kd == 4) = false := beq_eq_false_iff_ne.mpr h4
  clear h4
  go_enter Tryd.func33, Tryd.ntmps33
  go_wp2_with (first | (go_at_call 53; (with_reducible refine (impl_left.calls st kd (-1) L _ HL.out).mono ?_); rintro e w1 ⟨v0, rfl, ho, hb⟩; have n0_ := Aside0.mk (blk_below (by (with_reducible repeat (first | refine blk_drewN ?_ _ | refine blk_drew ?_ | refine blk_alloc ?_ _)); exact HE.out) hb); have n1_ := Aside0.mk (Kd.C_below (by repeat (first | exact HR.out | (with_reducible refine Kd.C_drewN ?_ _) | (with_reducible refine Kd.C_drew ?_))) hb); have n2_ := Aside0.mk (below_step (by repeat (first | (with_reducible first | exact HB.out | apply below_alloc | apply pw_below_drewN | apply below_drew1) | exact HB.out)) hb); clear HE HR HB he0 he1 he2; have HE := n0_; have HR := n1_; have HB := n2_; clear n0_ n1_ n2_; have he0 := (blk_cell HE.out 0).trans rfl; have he1 := (blk_cell HE.out 1).trans rfl; have HO := Aside0.mk ho; clear ho hb; obtain ⟨Ao, co, eo⟩ := Kd.R_slice HO.out; subst eo) | (go_at_call 39; (first | (with_reducible refine (impl_length_int64.calls _ _ L _ _ ?side1 ?side2 rfl).mono ?_) | (with_reducible refine (impl_length_int64.calls _ _ l _ _ ?side1 ?side2 rfl).mono ?_)); (case side1 => repeat (first | exact HR.out | exact (Kd.R_reads' HO.out).2.2 | (with_reducible refine Kd.C_alloc ?_ _) | (with_reducible refine Kd.C_drewN ?_ _) | (with_reducible refine Kd.C_drew ?_))); (case side2 => first | exact HC.out | exact (Kd.R_reads' HO.out).2.1); rintro e w' ⟨rfl, ⟨nd, rfl⟩⟩) | (go_at_call 40; (with_reducible refine (slices_Equal_int64_int64.calls k1 _ _ L _ _ M true _ ?side1 ?side2 ?side3 ?side4 HQ.out).mono ?_); (case side1 => repeat (first | exact (Kd.R_reads' HO.out).2.2 | (with_reducible refine Kd.C_alloc ?_ _) | (with_reducible refine Kd.C_drewN ?_ _) | (with_reducible refine Kd.C_drew ?_))); (case side2 => exact (Kd.R_reads' HO.out).2.1); (case side3 => repeat (first | exact Kd.C_of_reads (h1 := fun _ => rfl) (HM.out _ (Kd.reads_of_C HR.out)) | (with_reducible refine Kd.C_alloc ?_ _) | (with_reducible refine Kd.C_drewN ?_ _) | (with_reducible refine Kd.C_drew ?_))); (case side4 => exact HMc.out); rintro e w' ⟨rfl, ⟨nd, rfl⟩⟩))
  go_ret
  exact ⟨by rw [hj1]; rfl, (by repeat (first | (with_reducible first | exact HB.out | apply below_alloc | apply pw_below_drewN | apply below_drew1) | exact HB.out))⟩
set_option maxHeartbeats 8000000 in
set_option maxRecDepth 100000 in
theorem next_d {n : Int} {l : List Int} {A : Option Addr} {c ge gm : Nat} (st pl kd x : Int) (L M : List Int) (k1 : Nat) (h4 : kd = 4) (hpl : 0 ≤ pl ∧ pl < (l.length : Int)) (hx0 : rd l pl = x) (h1x : ¬ x < 1) (h2x : ¬ x = wrap64 (st + 1)) (hL : impl_left.f st 4 (wrap64 (x - 1)) = some L) (h1 : pl ≤ wrap64 (pl + (L.length : Int)) ∧ wrap64 (pl + (L.length : Int)) ≤ (l.length : Int)) (hM : (l.take (wrap64 (pl + (L.length : Int))).toNat).drop pl.toNat = M) (hQ : slices_Equal_int64_int64.f k1 L M = some true) (r : Int) (hres : wrap64 (pl + (L.length : Int)) = r) (w : World) (hE : IsE w ge gm n A c l) (hl : Kd.C (Kd.int .i64) w A l.length l) (hc : l.length ≤ c) :
    Calls Tryd.prog 33 #[.pointer (some ⟨ge, 0, none⟩), .int .i64 st, .int .i64 pl, .int .i64 kd] w fun e w' => e = .returned (.int .i64 r) ∧ Below w.heap.size w w' := by
  have HE := Aside0.mk hE
  have HR := Aside0.mk hl
  have HC := Aside0.mk hc
  have HB := Aside0.mk (Below.refl w.heap.size w)
  have he0 : w.cell? ⟨ge, 0, none⟩ = some (.int .i64 n) := (blk_cell hE 0).trans rfl
  have he1 : w.cell? ⟨ge, 1, none⟩ = some (.slice A l.length c) := (blk_cell hE 1).trans rfl
  have he2 : w.cell? ⟨ge, 2, none⟩ = some (.map (some gm)) := (blk_cell hE 2).trans rfl
  clear hE hl hc
  subst hres
  subst h4
  obtain ⟨oo, hoo⟩ : ∃ oo, wrap64 (x - 1) = oo := ⟨_, rfl⟩
  rw [hoo] at hL
  have hj3 : IntKind.i64.wrap (x - 1) = oo := (i64_w _).trans hoo
  have p1 : 0 ≤ pl := by omega
  have q1 : pl < (l.length : Int) := by omega
  obtain ⟨ad, ea, hx⟩ := Kd.at_int HR.out pl p1 q1
  subst ea
  rw [hx0] at hx
  have b4 : ((pl : Int) == (l.length : Int)) = false := beq_eq_false_iff_ne.mpr (by omega)
  have HL := Aside0.mk hL
  have HQ := Aside0.mk hQ
  obtain ⟨j1, hj1⟩ : ∃ j1, wrap64 (pl + (L.length : Int)) = j1 := ⟨_, rfl⟩
  obtain ⟨i0, hi0, _, hsz, _⟩ := info_parts info2
  rw [hj1] at h1 hM
  obtain ⟨A2, hcut, hA2, hC2⟩ := print_mid_of (P := Tryd.prog) (Value.int .i64) 0 24 2 .i64 .i64 Tryd.underlying24 hi0 hsz (some ad) c l pl j1 hpl.1 h1.1 h1.2 HC.out
  rw [hM] at hcut hA2 hC2
  have HM := Aside0.mk hA2
  have HMc := Aside0.mk hC2
  have b1 : decide ((l.length : Int) < j1) = false := decide_eq_false (by omega)
  have hj2 : IntKind.i64.wrap (pl + (L.length : Int)) = j1 := (i64_w _).trans hj1
  clear h1 hL hQ hA2 hC2 hM hi0 hsz
  replace p1 := eq_true p1
  replace q1 := eq_true q1
  have b2 : decide (x < 1) = false := decide_eq_false h1x
  have b3 : (x == wrap64 (st + 1)) = false := beq_eq_false_iff_ne.mpr h2x
  clear h1x h2x hx0 hpl
  go_enter Tryd.func33, Tryd.ntmps33
  go_wp2_with (first | (go_at_call 53; (with_reducible refine (impl_left.calls st 4 oo L _ HL.out).mono ?_); rintro e w1 ⟨v0, rfl, ho, hb⟩; have n0_ := Aside0.mk (blk_below (by (with_reducible repeat (first | refine blk_drewN ?_ _ | refine blk_drew ?_ | refine blk_alloc ?_ _)); exact HE.out) hb); have n1_ := Aside0.mk (Kd.C_below (by repeat (first | exact HR.out | (with_reducible refine Kd.C_drewN ?_ _) | (with_reducible refine Kd.C_drew ?_))) hb); have n2_ := Aside0.mk (below_step (by repeat (first | (with_reducible first | exact HB.out | apply below_alloc | apply pw_below_drewN | apply below_drew1) | exact HB.out)) hb); clear HE HR HB he0 he1 he2; have HE := n0_; have HR := n1_; have HB := n2_; clear n0_ n1_ n2_; have he0 := (blk_cell HE.out 0).trans rfl; have he1 := (blk_cell HE.out 1).trans rfl; have HO := Aside0.mk ho; clear ho hb; obtain ⟨Ao, co, eo⟩ := Kd.R_slice HO.out; subst eo) | (go_at_call 39; (first | (with_reducible refine (impl_length_int64.calls _ _ L _ _ ?side1 ?side2 rfl).mono ?_) | (with_reducible refine (impl_length_int64.calls _ _ l _ _ ?side1 ?side2 rfl).mono ?_)); (case side1 => repeat (first | exact HR.out | exact (Kd.R_reads' HO.out).2.2 | (with_reducible refine Kd.C_alloc ?_ _) | (with_reducible refine Kd.C_drewN ?_ _) | (with_reducible refine Kd.C_drew ?_))); (case side2 => first | exact HC.out | exact (Kd.R_reads' HO.out).2.1); rintro e w' ⟨rfl, ⟨nd, rfl⟩⟩) | (go_at_call 40; (with_reducible refine (slices_Equal_int64_int64.calls k1 _ _ L _ _ M true _ ?side1 ?side2 ?side3 ?side4 HQ.out).mono ?_); (case side1 => repeat (first | exact (Kd.R_reads' HO.out).2.2 | (with_reducible refine Kd.C_alloc ?_ _) | (with_reducible refine Kd.C_drewN ?_ _) | (with_reducible refine Kd.C_drew ?_))); (case side2 => exact (Kd.R_reads' HO.out).2.1); (case side3 => repeat (first | exact Kd.C_of_reads (h1 := fun _ => rfl) (HM.out _ (Kd.reads_of_C HR.out)) | (with_reducible refine Kd.C_alloc ?_ _) | (with_reducible refine Kd.C_drewN ?_ _) | (with_reducible refine Kd.C_drew ?_))); (case side4 => exact HMc.out); rintro e w' ⟨rfl, ⟨nd, rfl⟩⟩))
  go_ret
  exact ⟨by rw [hj1]; rfl, (by repeat (first | (with_reducible first | exact HB.out | apply below_alloc | apply pw_below_drewN | apply below_drew1) | exact HB.out))⟩
def leftL (st kd : Nat) : List Int := if kd = 1 then [] else if kd = 2 then [(st : Int) + 1, (st : Int) + 1] else if kd = 3 then [-((st : Int) + 1)] else [(st : Int) + 1]
def xBehind (l : List Int) (st pl kd : Nat) : Option Nat :=
  if kd = 4 then (match l.drop pl with | [] => none | x :: _ => if x < 1 ∨ x = (st : Int) + 1 then none else some (pl + 1))
  else if pl + (leftL st kd).length ≤ l.length ∧ (l.take (pl + (leftL st kd).length)).drop pl = leftL st kd then some (pl + (leftL st kd).length) else none
def behindV (l : List Int) (st pl kd : Nat) : Int := match xBehind l st pl kd with | some e => (e : Int) | none => -1
theorem wsmall {x : Int} (h1 : -9223372036854775808 ≤ x) (h2 : x ≤ 9223372036854775807) : wrap64 x = x := by unfold wrap64; omega
theorem equal_l0 (L M : List Int) (hL : L.length ≤ 1000) (hM : M.length = L.length) : ∀ d i, i + d = L.length → slices_Equal_int64_int64.l0 (d + 1) L M (L.length : Int) (i : Int) = some (decide (L.drop i = M.drop i)) := by
  intro d
  induction d with
  | zero =>
    intro i hi
    rw [List.drop_of_length_le (by omega), List.drop_of_length_le (by omega)]
    simp only [slices_Equal_int64_int64.l0]
    rw [if_neg (by omega)]
    simp
  | succ d ih =>
    intro i hi
    have h1 : i < L.length := by omega
    have h2 : i < M.length := by omega
    have r1 : rd L (i : Int) = L[i] := by simp [rd, List.getD, List.getElem?_eq_getElem h1]
    have r2 : rd M (i : Int) = M[i] := by simp [rd, List.getD, List.getElem?_eq_getElem h2]
    have e1 : wrap64 ((i : Int) + 1) = ((i + 1 : Nat) : Int) := by rw [wsmall (by omega) (by omega)]; omega
    rw [List.drop_eq_getElem_cons h1, List.drop_eq_getElem_cons h2]
    rw [slices_Equal_int64_int64.l0, if_pos (by omega), if_pos (by omega), if_pos (by omega), if_pos (by omega), r1, r2, e1, ih (i + 1) (by omega)]
    have key : ∀ (x y : Int) (p q : List Int), (if x = y then some (decide (p = q)) else some false) = some (decide (x :: p = y :: q)) := by
      intro x y p q
      by_cases c : x = y
      · rw [if_pos c]; simp [c]
      · rw [if_neg c]; simp [c]
    exact key _ _ _ _
theorem equal_eval (L M : List Int) (hL : L.length ≤ 1000) : ∃ k, slices_Equal_int64_int64.f k L M = some (decide (L = M)) := by
  by_cases h : L.length = M.length
  · refine ⟨L.length + 1, ?_⟩
    have h1 := equal_l0 L M hL h.symm L.length 0 (by omega)
    unfold slices_Equal_int64_int64.f
    rw [if_pos (by omega)]
    simpa using h1
  · refine ⟨0, ?_⟩
    unfold slices_Equal_int64_int64.f
    rw [if_neg (by omega)]
    have : ¬ L = M := fun e => h (by rw [e])
    simp [this]
theorem left_eval {st kd : Nat} (hst : st ≤ 1000) (h4 : ¬ kd = 4) : impl_left.f (st : Int) (kd : Int) (-1) = some (leftL st kd) := by
  have e1 : wrap64 ((st : Int) + 1) = (st : Int) + 1 := wsmall (by omega) (by omega)
  have e2 : wrap64 (-((st : Int) + 1)) = -((st : Int) + 1) := wsmall (by omega) (by omega)
  unfold impl_left.f leftL
  rw [e1, e2]
  by_cases c1 : kd = 1
  · subst c1; rfl
  by_cases c2 : kd = 2
  · subst c2; rfl
  by_cases c3 : kd = 3
  · subst c3; rfl
  rw [if_neg (by omega), if_neg (by omega), if_neg (by omega), if_neg (by omega), if_neg c1, if_neg c2, if_neg c3]
theorem leftL_le (st kd : Nat) : (leftL st kd).length ≤ 2 := by
  unfold leftL
  repeat' split
  all_goals simp
theorem wst {st : Nat} (h : st ≤ 1000) : wrap64 ((st : Int) + 1) = (st : Int) + 1 := wsmall (by omega) (by omega)
set_option maxHeartbeats 1000000 in
theorem next_calls {n : Int} {l : List Int} {A : Option Addr} {c ge gm : Nat} {st pl kd : Nat} (hst : st ≤ 1000) (hpl : pl ≤ l.length) (hll : l.length ≤ 1000) (hkd : kd ≤ 4) (hr : ∀ x ∈ l, -1000 ≤ x ∧ x ≤ 1000) (w : World) (hE : IsE w ge gm n A c l) (hl : Kd.C (Kd.int .i64) w A l.length l) (hc : l.length ≤ c) :
    Calls Tryd.prog 33 #[.pointer (some ⟨ge, 0, none⟩), .int .i64 (st : Int), .int .i64 (pl : Int), .int .i64 (kd : Int)] w fun e w' => e = .returned (.int .i64 (behindV l st pl kd)) ∧ Below w.heap.size w w' := by
  by_cases h4 : kd = 4
  · subst h4
    by_cases hp : pl < l.length
    · have hP1 : 0 ≤ (pl : Int) ∧ (pl : Int) < (l.length : Int) := by omega
      have hP2 : (pl : Int) ≤ ((pl + 1 : Nat) : Int) ∧ ((pl + 1 : Nat) : Int) ≤ (l.length : Int) := by omega
      have hdr := List.drop_eq_getElem_cons hp
      have hx0 : rd l (pl : Int) = l[pl] := by simp [rd, List.getD, List.getElem?_eq_getElem hp]
      have hxr := hr _ (List.getElem_mem hp)
      have hmid : (l.take (pl + 1)).drop pl = [l[pl]] := by
        rw [List.take_succ_eq_append_getElem hp, List.drop_append_of_le_length (by rw [List.length_take]; omega), List.drop_of_length_le (by rw [List.length_take]; omega), List.nil_append]
      generalize (l)[pl] = x at hdr hx0 hxr hmid
      by_cases h1 : x < 1
      · have hb : behindV l st pl 4 = -1 := by unfold behindV xBehind; rw [if_pos rfl, hdr]; simp [h1]
        rw [hb]
        exact next_b (st : Int) (pl : Int) ((4 : Nat) : Int) x (by decide) hP1 hx0 h1 w hE hl hc
      by_cases h2 : x = (st : Int) + 1
      · have hb : behindV l st pl 4 = -1 := by unfold behindV xBehind; rw [if_pos rfl, hdr]; simp [h2]
        rw [hb]
        exact next_c (st : Int) (pl : Int) ((4 : Nat) : Int) x (by decide) hP1 hx0 h1 (by rw [wst hst]; exact h2) w hE hl hc
      · have hb : behindV l st pl 4 = ((pl + 1 : Nat) : Int) := by unfold behindV xBehind; rw [if_pos rfl, hdr]; simp [h1, h2]
        have e2 : wrap64 (x - 1) = x - 1 := wsmall (by omega) (by omega)
        have e3 : wrap64 (x - 1 + 1) = x := by rw [wsmall (by omega) (by omega)]; omega
        have e4 : wrap64 ((pl : Int) + (([x] : List Int).length : Int)) = ((pl + 1 : Nat) : Int) := by rw [wsmall (by simp; omega) (by simp; omega)]; simp
        have hL : impl_left.f (st : Int) 4 (wrap64 (x - 1)) = some [x] := by unfold impl_left.f; rw [e2, e3]; rfl
        obtain ⟨k1, hk⟩ := equal_eval [x] [x] (by simp)
        exact next_d (st : Int) (pl : Int) ((4 : Nat) : Int) x [x] [x] k1 (by decide) hP1 hx0 h1 (by rw [wst hst]; exact h2) hL (by rw [e4]; exact hP2) (by rw [e4, Int.toNat_natCast, Int.toNat_natCast]; exact hmid) (by rw [hk]; simp) _ (by rw [e4, hb]) w hE hl hc
    · have hb : behindV l st pl 4 = -1 := by unfold behindV xBehind; rw [if_pos rfl, List.drop_of_length_le (by omega)]
      rw [hb]
      exact next_a (st : Int) (pl : Int) ((4 : Nat) : Int) (by decide) (by omega) w hE hl hc
  · have hL := left_eval hst h4
    have hle := leftL_le st kd
    have h4' : ¬ (kd : Int) = 4 := by omega
    have hP1 : 0 ≤ (pl : Int) ∧ (pl : Int) ≤ (l.length : Int) := by omega
    have hP3 : ¬ pl + (leftL st kd).length ≤ l.length → ((pl + (leftL st kd).length : Nat) : Int) > (l.length : Int) := by omega
    have hP2 : pl + (leftL st kd).length ≤ l.length → (pl : Int) ≤ ((pl + (leftL st kd).length : Nat) : Int) ∧ ((pl + (leftL st kd).length : Nat) : Int) ≤ (l.length : Int) := by omega
    have hl10 : (leftL st kd).length ≤ 1000 := by omega
    have e4 : wrap64 ((pl : Int) + ((leftL st kd).length : Int)) = ((pl + (leftL st kd).length : Nat) : Int) := by rw [wsmall (by omega) (by omega)]; omega
    by_cases hp : pl + (leftL st kd).length ≤ l.length
    · obtain ⟨k1, hk⟩ := equal_eval (leftL st kd) ((l.take (pl + (leftL st kd).length)).drop pl) hl10
      by_cases hq : (l.take (pl + (leftL st kd).length)).drop pl = leftL st kd
      · have hb : behindV l st pl kd = ((pl + (leftL st kd).length : Nat) : Int) := by unfold behindV xBehind; rw [if_neg h4, if_pos ⟨hp, hq⟩]
        exact next_g (st : Int) (pl : Int) (kd : Int) (leftL st kd) _ k1 h4' hL hP1 (by rw [e4]; exact hP2 hp) (by rw [e4, Int.toNat_natCast, Int.toNat_natCast]) (by rw [hk]; simp [hq]) _ (by rw [e4, hb]) w hE hl hc
      · have hb : behindV l st pl kd = -1 := by unfold behindV xBehind; rw [if_neg h4, if_neg (fun h => hq h.2)]
        exact next_f (st : Int) (pl : Int) (kd : Int) (leftL st kd) _ k1 h4' hL hP1 (by rw [e4]; exact hP2 hp) (by rw [e4, Int.toNat_natCast, Int.toNat_natCast]) (by rw [hk, decide_eq_false (fun e => hq e.symm)]) _ hb.symm w hE hl hc
    · have hb : behindV l st pl kd = -1 := by unfold behindV xBehind; rw [if_neg h4, if_neg (fun h => hp h.1)]
      rw [hb]
      exact next_e (st : Int) (pl : Int) (kd : Int) (-1) (leftL st kd) h4' rfl hL (by rw [e4]; exact hP3 hp) w hE hl hc
def xOne (kd : Nat) : Int := if kd = 0 then 0 else 1
def xBetter (l : List Int) (f : Nat → Int) (st pl : Nat) (b : Int) (kd : Nat) : Int := match xBehind l st pl kd with
  | none => b
  | some e => mn b (f e + xOne kd)
def xFew (l : List Int) : Nat → Nat → Nat → Int
  | 0, _, pl => if pl = l.length then 0 else 1000000000
  | m + 1, st, pl => ([0, 1, 2, 3, 4] : List Nat).foldl (xBetter l (xFew l m (st + 1)) st pl) 1000000000
theorem mn_le (a b : Int) : mn a b ≤ a := by unfold mn; split <;> omega
theorem mn_ge {a b : Int} (ha : 0 ≤ a) (hb : 0 ≤ b) : 0 ≤ mn a b := by unfold mn; split <;> omega
theorem better_bound {l : List Int} {f : Nat → Int} {st pl : Nat} {b : Int} (kd : Nat) (hf : ∀ e, 0 ≤ f e) (hb : 0 ≤ b ∧ b ≤ 1000000000) : 0 ≤ xBetter l f st pl b kd ∧ xBetter l f st pl b kd ≤ 1000000000 := by
  unfold xBetter
  split
  · exact hb
  · rename_i e _
    have h1 := hf e
    have h2 : 0 ≤ xOne kd := by unfold xOne; split <;> omega
    have := mn_le b (f e + xOne kd)
    exact ⟨mn_ge hb.1 (by omega), by omega⟩
theorem fold_bound {l : List Int} {f : Nat → Int} {st pl : Nat} (hf : ∀ e, 0 ≤ f e) : ∀ (ks : List Nat) (b : Int), 0 ≤ b ∧ b ≤ 1000000000 → 0 ≤ ks.foldl (xBetter l f st pl) b ∧ ks.foldl (xBetter l f st pl) b ≤ 1000000000
  | [], b, hb => hb
  | k :: ks, b, hb => fold_bound hf ks _ (better_bound k hf hb)
theorem few_bound (l : List Int) : ∀ m st pl, 0 ≤ xFew l m st pl ∧ xFew l m st pl ≤ 1000000000
  | 0, st, pl => by unfold xFew; split <;> omega
  | m + 1, st, pl => by unfold xFew; exact fold_bound (fun e => (few_bound l m (st + 1) e).1) _ _ (by omega)
theorem behind_le {l : List Int} {st pl kd e : Nat} (h : xBehind l st pl kd = some e) : e ≤ l.length := by
  unfold xBehind at h
  split at h
  · split at h
    · cases h
    · rename_i x t hd
      split at h
      · cases h
      · have := Option.some.inj h
        have hlt : pl < l.length := by
          rcases Nat.lt_or_ge pl l.length with h1 | h1
          · exact h1
          · rw [List.drop_of_length_le h1] at hd; cases hd
        omega
  · split at h
    · rename_i hc
      have := Option.some.inj h
      omega
    · cases h
theorem laidOutT : laidOutB Tryd.prog = true := by kernel_rfl
theorem row50 : (67 : TypeId) < Tryd.prog.types.size := of_decide_eq_true (by kernel_rfl)
theorem wide50 : (match Tryd.prog.underlying 67 with | some (.array _ _) | some (.struct _) => true | _ => false) = true := by rw [Tryd.underlying67]
theorem law50 : Go.WideMaps.KeyLaw Tryd.prog 67 := deep_law_laid laidOutT (m := 2) (by omega) row50 (by kernel_rfl) wide50
theorem keyed50 : Keyed Tryd.prog 67 := Keyed.of_law law50
theorem zero2 (w : World) : (zeroValue 2).run Tryd.prog w = .ok (.int .i64 0) w := by kernel_rfl
abbrev keyV (s p : Nat) : Value := .agg #[.int .i64 (s : Int), .int .i64 (p : Int)]
theorem wf_small {x : Nat} (h : x ≤ 1000) : (Lit.int .i64 (x : Int)).wf = true := by
  show (decide (IntKind.i64.min ≤ (x : Int)) && decide ((x : Int) ≤ IntKind.i64.max)) = true
  rw [show IntKind.i64.min = -9223372036854775808 from rfl, show IntKind.i64.max = 9223372036854775807 from rfl, decide_eq_true (by omega), decide_eq_true (by omega)]
  rfl
abbrev klOf (s p : Nat) : Lit := .string (keyBytes [.int .i64 (s : Int), .int .i64 (p : Int)])
theorem key_of {s p : Nat} (hs : s ≤ 1000) (hp : p ≤ 1000) : keyOf Tryd.prog 67 (keyV s p) = some (klOf s p) := by
  have h2 : Tryd.prog.underlying 2 = some (.int .i64) := Tryd.underlying2
  have hc : Tryd.prog.cellsOf 67 = 2 := by kernel_rfl
  have hc2 : Tryd.prog.cellsOf 2 = 1 := by kernel_rfl
  have hk : Tryd.prog.keyType 67 = true := by kernel_rfl
  have w1 : (Lit.int .i64 (s : Int)).wf = true := wf_small (by omega)
  have w2 : (Lit.int .i64 (p : Int)).wf = true := wf_small (by omega)
  obtain ⟨D, hD⟩ : ∃ D, Tryd.prog.types.size + 1 = D + 1 + 1 := ⟨Tryd.prog.types.size - 1, by
    have : 0 < Tryd.prog.types.size := Nat.lt_of_le_of_lt (Nat.zero_le _) row50
    omega⟩
  have hl : Program.keyLits Tryd.prog (Tryd.prog.types.size + 1) 67 (keyV s p).cells.toList = some [.int .i64 (s : Int), .int .i64 (p : Int)] := by
    rw [hD]
    generalize D = D'
    unfold Program.keyLits
    rw [Tryd.underlying67]
    simp [Program.keyLits, h2, hc, hc2, Value.cells, List.range, List.range.loop, w1, w2]
  unfold keyOf
  rw [Tryd.underlying67]
  simp only [hk, Bool.true_and]
  rw [if_pos (by simp [Value.formed, Tryd.underlying67, hc]), hl]
  rfl
def Knows (l : List Int) (n : Nat) (D : DataW Unit) : Prop := ∀ s p m : Nat, s + m = n → s ≤ 1000 → p ≤ 1000 → Maps.has D (klOf s p) = true → D.atKey (klOf s p) (.lit (.int .i64 0)) = .lit (.int .i64 (xFew l m s p))
theorem kl_inj {s p s' p' : Nat} (hs : s ≤ 1000) (hp : p ≤ 1000) (hs' : s' ≤ 1000) (hp' : p' ≤ 1000) (h : klOf s p = klOf s' p') : s = s' ∧ p = p' := by
  have h1 := keyed50.inj (key_of hs hp) (by rw [h]; exact key_of hs' hp')
  simp only [keyV, Value.agg.injEq] at h1
  simp at h1
  omega
theorem knows_put {l : List Int} {n : Nat} {D : DataW Unit} (h : Knows l n D) (hD : Maps.IsMap D) {s p m : Nat} (hm : s + m = n) (hs : s ≤ 1000) (hp : p ≤ 1000) : Knows l n (D.put (klOf s p) (.lit (.int .i64 (xFew l m s p)))) := by
  intro s' p' m' hm' hs' hp' hh
  by_cases e : klOf s' p' = klOf s p
  · obtain ⟨rfl, rfl⟩ := kl_inj hs' hp' hs hp e
    obtain rfl : m' = m := by omega
    exact atKey_put_same hD (keyed50.key (key_of hs hp)) _ _
  · rw [atKey_put_other e]
    refine h s' p' m' hm' hs' hp' ?_
    rw [← hh, has_put_other e]
theorem xLook {l : List Int} {n : Nat} {D : DataW Unit} {w : World} {gm cnt : Nat} (ho : w.ownsMap Tryd.prog 67 (plainElem Tryd.prog 2) gm cnt D) (h : Knows l n D) {s p m : Nat} (hm : s + m = n) (hs : s ≤ 1000) (hp : p ≤ 1000) :
    ∃ v : Int, (Instr.lookup 50 (.map (some gm)) (keyV s p) true).run Tryd.prog w = .ok (.tuple #[.int .i64 v, .bool (Maps.has D (klOf s p))]) w ∧ (Maps.has D (klOf s p) = true → v = xFew l m s p) := by
  obtain ⟨v, ps, hrun, hv⟩ := ho.look_ok keyed50 Tryd.underlying50 (zero2 w) (plainElem_int Tryd.underlying2 (by decide)) (key_of hs hp)
  obtain ⟨c, rfl, hc, _⟩ := plainElem_int_inv Tryd.underlying2 hv
  refine ⟨c, hrun, fun hh => ?_⟩
  have h1 := h s p m hm hs hp hh
  simp only [Prod.mk.injEq] at hc
  rw [hc.1] at h1
  injection h1 with h2
  injection h2
theorem blk_setCell2 {w : World} {g i : Nat} {cs : Array Value} {t : TypeId} {fr : Nat × Nat} (h : w.heap[g]? = some (.cells cs t fr)) (v : Value) : (w.setCell ⟨g, i, none⟩ v).heap[g]? = some (.cells (cs.setIfInBounds i v) t fr) := by
  simp [World.setCell, Array.getElem?_modify, h]
theorem owns_move {w w' : World} {gm cnt : Nat} {D : DataW Unit} (h : w.ownsMap Tryd.prog 67 (plainElem Tryd.prog 2) gm cnt D) (hb : w'.heap[gm]? = w.heap[gm]?) : w'.ownsMap Tryd.prog 67 (plainElem Tryd.prog 2) gm cnt D := by
  obtain ⟨es, clock, h1, F, h2, h3⟩ := h
  exact ⟨es, clock, hb.trans h1, F, h2, h3⟩
set_option maxHeartbeats 8000000 in
set_option maxRecDepth 100000 in
theorem few_end {n : Int} {l : List Int} {A : Option Addr} {c ge gm : Nat} (pl : Int) (hp : pl = (l.length : Int)) (w : World) (hE : IsE w ge gm n A c l) (hl : Kd.C (Kd.int .i64) w A l.length l) (hc : l.length ≤ c) :
    Calls Tryd.prog 32 #[.pointer (some ⟨ge, 0, none⟩), .int .i64 n, .int .i64 pl] w fun e w' => e = .returned (.int .i64 0) ∧ Below w.heap.size w w' := by
  have HE := Aside0.mk hE
  have HR := Aside0.mk hl
  have HC := Aside0.mk hc
  have HB := Aside0.mk (Below.refl w.heap.size w)
  have he0 : w.cell? ⟨ge, 0, none⟩ = some (.int .i64 n) := (blk_cell hE 0).trans rfl
  have he1 : w.cell? ⟨ge, 1, none⟩ = some (.slice A l.length c) := (blk_cell hE 1).trans rfl
  have he2 : w.cell? ⟨ge, 2, none⟩ = some (.map (some gm)) := (blk_cell hE 2).trans rfl
  clear hE hl hc
  have b0 : ((n : Int) == n) = true := beq_self_eq_true n
  have b1 : ((pl : Int) == (l.length : Int)) = true := beq_iff_eq.mpr hp
  clear hp
  go_enter Tryd.func32, Tryd.ntmps32
  go_wp2_with (first | (go_at_call 39; (with_reducible refine (impl_length_int64.calls _ _ l _ _ ?side1 ?side2 rfl).mono ?_); (case side1 => repeat (first | exact HR.out | (with_reducible refine Kd.C_alloc ?_ _) | (with_reducible refine Kd.C_drewN ?_ _) | (with_reducible refine Kd.C_drew ?_))); (case side2 => exact HC.out); rintro e w' ⟨rfl, ⟨nd, rfl⟩⟩))
  go_ret
  exact ⟨rfl, (by repeat (first | (with_reducible first | exact HB.out | apply below_alloc | apply pw_below_drewN | apply below_drew1) | exact HB.out))⟩
set_option maxHeartbeats 8000000 in
set_option maxRecDepth 100000 in
theorem few_out {n : Int} {l : List Int} {A : Option Addr} {c ge gm : Nat} (pl : Int) (hp : ¬ pl = (l.length : Int)) (w : World) (hE : IsE w ge gm n A c l) (hl : Kd.C (Kd.int .i64) w A l.length l) (hc : l.length ≤ c) :
    Calls Tryd.prog 32 #[.pointer (some ⟨ge, 0, none⟩), .int .i64 n, .int .i64 pl] w fun e w' => e = .returned (.int .i64 1000000000) ∧ Below w.heap.size w w' := by
  have HE := Aside0.mk hE
  have HR := Aside0.mk hl
  have HC := Aside0.mk hc
  have HB := Aside0.mk (Below.refl w.heap.size w)
  have he0 : w.cell? ⟨ge, 0, none⟩ = some (.int .i64 n) := (blk_cell hE 0).trans rfl
  have he1 : w.cell? ⟨ge, 1, none⟩ = some (.slice A l.length c) := (blk_cell hE 1).trans rfl
  have he2 : w.cell? ⟨ge, 2, none⟩ = some (.map (some gm)) := (blk_cell hE 2).trans rfl
  clear hE hl hc
  have b0 : ((n : Int) == n) = true := beq_self_eq_true n
  have b1 : ((pl : Int) == (l.length : Int)) = false := beq_eq_false_iff_ne.mpr hp
  clear hp
  go_enter Tryd.func32, Tryd.ntmps32
  go_wp2_with (first | (go_at_call 39; (with_reducible refine (impl_length_int64.calls _ _ l _ _ ?side1 ?side2 rfl).mono ?_); (case side1 => repeat (first | exact HR.out | (with_reducible refine Kd.C_alloc ?_ _) | (with_reducible refine Kd.C_drewN ?_ _) | (with_reducible refine Kd.C_drew ?_))); (case side2 => exact HC.out); rintro e w' ⟨rfl, ⟨nd, rfl⟩⟩))
  go_ret
  exact ⟨rfl, (by repeat (first | (with_reducible first | exact HB.out | apply below_alloc | apply pw_below_drewN | apply below_drew1) | exact HB.out))⟩
set_option maxHeartbeats 8000000 in
set_option maxRecDepth 100000 in
theorem few_hit {n : Int} {l : List Int} {A : Option Addr} {c ge gm : Nat} {st pl m nn cnt : Nat} {D : DataW Unit} (hs : st ≤ 1000) (hp : pl ≤ 1000) (hne : ¬ (st : Int) = n) (hh : Maps.has D (klOf st pl) = true) (hsm : st + m = nn) (hk : Knows l nn D) (w : World) (hE : IsE w ge gm n A c l) (hl : Kd.C (Kd.int .i64) w A l.length l) (hc : l.length ≤ c) (hm : w.ownsMap Tryd.prog 67 (plainElem Tryd.prog 2) gm cnt D) (hge : ge < w.heap.size) (hgm : gm < w.heap.size) :
    Calls Tryd.prog 32 #[.pointer (some ⟨ge, 0, none⟩), .int .i64 (st : Int), .int .i64 (pl : Int)] w fun e w' => e = .returned (.int .i64 (xFew l m st pl)) ∧ Below w.heap.size w w' := by
  have HE := Aside0.mk hE
  have HR := Aside0.mk hl
  have HC := Aside0.mk hc
  have HB := Aside0.mk (Below.refl w.heap.size w)
  have he0 : w.cell? ⟨ge, 0, none⟩ = some (.int .i64 n) := (blk_cell hE 0).trans rfl
  have he1 : w.cell? ⟨ge, 1, none⟩ = some (.slice A l.length c) := (blk_cell hE 1).trans rfl
  have he2 : w.cell? ⟨ge, 2, none⟩ = some (.map (some gm)) := (blk_cell hE 2).trans rfl
  clear hE hl hc
  have HM := Aside0.mk hm
  have b0 : (((st : Int)) == n) = false := beq_eq_false_iff_ne.mpr hne
  clear hm hne
  go_enter Tryd.func32, Tryd.ntmps32
  go_wp2_with (first | ((with_reducible refine gate_dst (N := 7) rfl ?_); refine box_event ?hg (N := 7) ?hd (cs := #[.int .i64 0, .int .i64 0]) (t := 67) ?hr ?_; (case hd => rfl); (case hg => rfl); (case hr => first | (go_simp; done) | (go_simp; rfl)); intro gky hg w19 hbox hb; have HGK := Aside0.mk hg; have HBX := Aside0.mk hbox; have HB19 := Aside0.mk hb; have kc0 : w19.cell? ⟨gky, 0, none⟩ = some (.int .i64 0) := (blk_cell hbox 0).trans rfl; have kc1 : w19.cell? ⟨gky, 1, none⟩ = some (.int .i64 0) := (blk_cell hbox 1).trans rfl; have kf0 := blk_frozen hbox 0; have kf1 := blk_frozen hbox 1; clear hg hbox hb) | ((with_reducible refine gate_store (t := 67) (p := 7) rfl ?_); refine store_event (t := 67) (p := 7) (v := ?vo_w20) (w1 := (w19.setCell ⟨gky, 0, none⟩ (.int .i64 (st : Int))).setCell ⟨gky, 1, none⟩ (.int .i64 (pl : Int))) ?hg ?ho ?hn ?hr ?_; (case ho => rfl); (case hg => rfl); (case hn => rfl); (case hr => first | (go_simp; done) | (go_simp; rfl)); intro w20 hw; have HW20 := Aside0.mk hw; clear hw kc0 kc1 kf0 kf1))
  (try simp only [Act.put, List.setIfInBounds_toArray, List.set_cons_zero, List.set_cons_succ])
  have hgky := HGK.out
  have hE20 : IsE w20 ge gm n A c l := by
    rw [IsE, HW20.out, Below.heap_setCell _ _ _ ge (by show ge ≠ gky; omega), Below.heap_setCell _ _ _ ge (by show ge ≠ gky; omega)]
    exact blk_below HE.out HB19.out
  have hM20 : w20.heap[gm]? = w.heap[gm]? := by
    rw [HW20.out, Below.heap_setCell _ _ _ gm (by show gm ≠ gky; omega), Below.heap_setCell _ _ _ gm (by show gm ≠ gky; omega)]
    exact HB19.out.block gm hgm
  have hK20 : w20.heap[gky]? = some (.cells #[.int .i64 (st : Int), .int .i64 (pl : Int)] 67 (0, 0)) := by
    rw [HW20.out]
    have h1 := blk_setCell2 (i := 0) HBX.out (.int .i64 (st : Int))
    have h2 := blk_setCell2 (i := 1) h1 (.int .i64 (pl : Int))
    exact h2
  have ho20 := owns_move HM.out hM20
  obtain ⟨v, hlk, hv⟩ := xLook ho20 hk hsm hs hp
  have hlkd : ∀ q, (Instr.lookup 50 (.map (some gm)) (keyV st pl) true).run Tryd.prog (w20.drewN q) = .ok (.tuple #[.int .i64 v, .bool (Maps.has D (klOf st pl))]) (w20.drewN q) := fun q => by
    obtain ⟨v2, h1, h2⟩ := xLook (w := w20.drewN q) ho20 hk hsm hs hp
    rw [hh] at h1 hv h2 ⊢
    rw [hv rfl, ← h2 rfl]; exact h1
  rw [hh] at hlk hlkd hv
  have hv' := hv rfl
  have HB20 : Aside0 (Below w.heap.size w w20) := ⟨by rw [HW20.out]; exact below_set (below_set HB19.out (by omega)) (by omega)⟩
  have e0 : w20.cell? ⟨ge, 0, none⟩ = some (.int .i64 n) := (blk_cell hE20 0).trans rfl
  have e1 : w20.cell? ⟨ge, 1, none⟩ = some (.slice A l.length c) := (blk_cell hE20 1).trans rfl
  have e2 : w20.cell? ⟨ge, 2, none⟩ = some (.map (some gm)) := (blk_cell hE20 2).trans rfl
  have k0 : w20.cell? ⟨gky, 0, none⟩ = some (.int .i64 (st : Int)) := (blk_cell hK20 0).trans rfl
  have k1 : w20.cell? ⟨gky, 1, none⟩ = some (.int .i64 (pl : Int)) := (blk_cell hK20 1).trans rfl
  have HV := Aside0.mk hv'
  clear hE20 hM20 hK20 ho20 hgky hv hv' hk
  go_quiet (fail)
  go_wp2
  go_ret
  exact ⟨by rw [← HV.out]; rfl, pw_below_drewN HB20.out _⟩
theorem look_no {D : DataW Unit} {w : World} {gm cnt : Nat} (ho : w.ownsMap Tryd.prog 67 (plainElem Tryd.prog 2) gm cnt D) {s p : Nat} (hs : s ≤ 1000) (hp : p ≤ 1000) (hh : Maps.has D (klOf s p) = false) :
    (Instr.lookup 50 (.map (some gm)) (keyV s p) true).run Tryd.prog w = .ok (.tuple #[.int .i64 0, .bool false]) w := by
  obtain ⟨v, ps, hrun, hv⟩ := ho.look_ok keyed50 Tryd.underlying50 (zero2 w) (plainElem_int Tryd.underlying2 (by decide)) (key_of hs hp)
  obtain ⟨c, rfl, hc, _⟩ := plainElem_int_inv Tryd.underlying2 hv
  rw [atKey_of_not_has hh] at hc
  simp only [Prod.mk.injEq] at hc
  have h2 := hc.1
  injection h2 with h3
  injection h3 with h4 h5
  rw [hh, ← h5] at hrun
  exact hrun
theorem wf_bound {x : Int} (h0 : 0 ≤ x) (h1 : x ≤ 1000000000) : (Lit.int .i64 x).wf = true := by
  show (decide (IntKind.i64.min ≤ x) && decide (x ≤ IntKind.i64.max)) = true
  rw [show IntKind.i64.min = -9223372036854775808 from rfl, show IntKind.i64.max = 9223372036854775807 from rfl, decide_eq_true (by omega), decide_eq_true (by omega)]
  rfl
def pwr : Nat → Nat
  | 0 => 0
  | m + 1 => 1 + 5 * pwr m
def kindsTo (i : Nat) : List Nat := ([0, 1, 2, 3, 4] : List Nat).take i
theorem kinds_step {l : List Int} {f : Nat → Int} {st pl : Nat} (i : Nat) (hi : i < 5) : (kindsTo (i + 1)).foldl (xBetter l f st pl) 1000000000 = xBetter l f st pl ((kindsTo i).foldl (xBetter l f st pl) 1000000000) i := by
  have : i = 0 ∨ i = 1 ∨ i = 2 ∨ i = 3 ∨ i = 4 := by omega
  rcases this with rfl | rfl | rfl | rfl | rfl <;> rfl
theorem kinds_none {l : List Int} {f : Nat → Int} {st pl : Nat} {b : Int} {i : Nat} (h : xBehind l st pl i = none) : xBetter l f st pl b i = b := by unfold xBetter; rw [h]
theorem kinds_some {l : List Int} {f : Nat → Int} {st pl : Nat} {b : Int} {i e : Nat} (h : xBehind l st pl i = some e) : xBetter l f st pl b i = mn b (f e + xOne i) := by unfold xBetter; rw [h]
structure Works (l : List Int) (n : Nat) (A : Option Addr) (c ge gm : Nat) (w0 : World) (w : World) (cnt : Nat) (D : DataW Unit) : Prop where
  e : IsE w ge gm (n : Int) A c l
  m : w.ownsMap Tryd.prog 67 (plainElem Tryd.prog 2) gm cnt D
  k : Knows l n D
  b : Below w0.heap.size w0 w
theorem Works.below {l : List Int} {n : Nat} {A : Option Addr} {c ge gm : Nat} {w0 w w' : World} {cnt : Nat} {D : DataW Unit} (h : Works l n A c ge gm w0 w cnt D) (hge : ge < w.heap.size) (hgm : gm < w.heap.size) (hb : Below w.heap.size w w') : Works l n A c ge gm w0 w' cnt D :=
  ⟨(hb.block ge hge).trans h.e, owns_move h.m (hb.block gm hgm), h.k, h.b.trans (hb.mono h.b.size)⟩
set_option maxHeartbeats 8000000 in
set_option maxRecDepth 100000 in
theorem few_miss {l : List Int} {A : Option Addr} {c ge gm : Nat} {st pl m nn cnt : Nat} {D : DataW Unit} (w0 : World) (hs : st ≤ 900) (hpl : pl ≤ l.length) (hll : l.length ≤ 900) (hr : ∀ x ∈ l, -1000 ≤ x ∧ x ≤ 1000) (hh : Maps.has D (klOf st pl) = false) (hsm : st + (m + 1) = nn) (w : World) (hW : Works l nn A c ge gm w0 w cnt D) (hl0 : Kd.C (Kd.int .i64) w0 A l.length l) (hc : l.length ≤ c) (hge : ge < w.heap.size) (hgm : gm < w.heap.size) (hgm0 : w0.heap.size ≤ gm) (hne : ¬ ge = gm) (hcnt : cnt + pwr (m + 1) < maxLen) (ih : ∀ (e : Nat), e ≤ l.length → ∀ (w : World) (cnt : Nat) (D : DataW Unit), Works l nn A c ge gm w0 w cnt D → ge < w.heap.size → gm < w.heap.size → cnt + pwr m < maxLen → Calls Tryd.prog 32 #[.pointer (some ⟨ge, 0, none⟩), .int .i64 ((st : Int) + 1), .int .i64 (e : Int)] w fun r w' => r = .returned (.int .i64 (xFew l m (st + 1) e)) ∧ ∃ cnt' D', cnt' ≤ cnt + pwr m ∧ Works l nn A c ge gm w0 w' cnt' D' ∧ KeepBut w w' gm none) :
    Calls Tryd.prog 32 #[.pointer (some ⟨ge, 0, none⟩), .int .i64 (st : Int), .int .i64 (pl : Int)] w fun r w' => r = .returned (.int .i64 (xFew l (m + 1) st pl)) ∧ ∃ cnt' D', cnt' ≤ cnt + pwr (m + 1) ∧ Works l nn A c ge gm w0 w' cnt' D' ∧ KeepBut w w' gm none := by
  obtain ⟨hE, hm, hk, hb0⟩ := hW
  have hl := Kd.C_below hl0 hb0
  have hp : pl ≤ 1000 := by omega
  replace hs : st ≤ 1000 := by omega
  have hsn : ¬ (st : Int) = (nn : Int) := by omega
  have HE := Aside0.mk hE
  have HR := Aside0.mk hl
  have HC := Aside0.mk hc
  have HB := Aside0.mk (Below.refl w.heap.size w)
  have he0 : w.cell? ⟨ge, 0, none⟩ = some (.int .i64 (nn : Int)) := (blk_cell hE 0).trans rfl
  have he1 : w.cell? ⟨ge, 1, none⟩ = some (.slice A l.length c) := (blk_cell hE 1).trans rfl
  have he2 : w.cell? ⟨ge, 2, none⟩ = some (.map (some gm)) := (blk_cell hE 2).trans rfl
  clear hE hl hc
  have HM := Aside0.mk hm
  have b0 : (((st : Int)) == (nn : Int)) = false := beq_eq_false_iff_ne.mpr hsn
  have HB0 := Aside0.mk hb0
  have HIH := Aside0.mk ih
  have HLIM := Aside0.mk hcnt
  clear hm hsn ih hcnt
  go_enter Tryd.func32, Tryd.ntmps32
  go_wp2_with (first | ((with_reducible refine gate_dst (N := 7) rfl ?_); refine box_event ?hg (N := 7) ?hd (cs := #[.int .i64 0, .int .i64 0]) (t := 67) ?hr ?_; (case hd => rfl); (case hg => rfl); (case hr => first | (go_simp; done) | (go_simp; rfl)); intro gky hg w19 hbox hb; have HGK := Aside0.mk hg; have HBX := Aside0.mk hbox; have HB19 := Aside0.mk hb; have kc0 : w19.cell? ⟨gky, 0, none⟩ = some (.int .i64 0) := (blk_cell hbox 0).trans rfl; have kc1 : w19.cell? ⟨gky, 1, none⟩ = some (.int .i64 0) := (blk_cell hbox 1).trans rfl; have kf0 := blk_frozen hbox 0; have kf1 := blk_frozen hbox 1; clear hg hbox hb) | ((with_reducible refine gate_store (t := 67) (p := 7) rfl ?_); refine store_event (t := 67) (p := 7) (v := ?vo_w20) (w1 := (w19.setCell ⟨gky, 0, none⟩ (.int .i64 (st : Int))).setCell ⟨gky, 1, none⟩ (.int .i64 (pl : Int))) ?hg ?ho ?hn ?hr ?_; (case ho => rfl); (case hg => rfl); (case hn => rfl); (case hr => first | (go_simp; done) | (go_simp; rfl)); intro w20 hw; have HW20 := Aside0.mk hw; clear hw kc0 kc1 kf0 kf1))
  (try simp only [Act.put, List.setIfInBounds_toArray, List.set_cons_zero, List.set_cons_succ])
  have hgky := HGK.out
  have hE20 : IsE w20 ge gm (nn : Int) A c l := by
    rw [IsE, HW20.out, Below.heap_setCell _ _ _ ge (by show ge ≠ gky; omega), Below.heap_setCell _ _ _ ge (by show ge ≠ gky; omega)]
    exact blk_below HE.out HB19.out
  have hM20 : w20.heap[gm]? = w.heap[gm]? := by
    rw [HW20.out, Below.heap_setCell _ _ _ gm (by show gm ≠ gky; omega), Below.heap_setCell _ _ _ gm (by show gm ≠ gky; omega)]
    exact HB19.out.block gm hgm
  have hK20 : w20.heap[gky]? = some (.cells #[.int .i64 (st : Int), .int .i64 (pl : Int)] 67 (0, 0)) := by
    rw [HW20.out]
    have h1 := blk_setCell2 (i := 0) HBX.out (.int .i64 (st : Int))
    have h2 := blk_setCell2 (i := 1) h1 (.int .i64 (pl : Int))
    exact h2
  have ho20 := owns_move HM.out hM20
  have hlk := look_no ho20 hs hp hh
  have hlkd : ∀ q, (Instr.lookup 50 (.map (some gm)) (keyV st pl) true).run Tryd.prog (w20.drewN q) = .ok (.tuple #[.int .i64 0, .bool false]) (w20.drewN q) := fun q => look_no (w := w20.drewN q) ho20 hs hp hh
  have HB20 : Aside0 (Below w.heap.size w w20) := ⟨by rw [HW20.out]; exact below_set (below_set HB19.out (by omega)) (by omega)⟩
  have e0 : w20.cell? ⟨ge, 0, none⟩ = some (.int .i64 (nn : Int)) := (blk_cell hE20 0).trans rfl
  have e1 : w20.cell? ⟨ge, 1, none⟩ = some (.slice A l.length c) := (blk_cell hE20 1).trans rfl
  have e2 : w20.cell? ⟨ge, 2, none⟩ = some (.map (some gm)) := (blk_cell hE20 2).trans rfl
  have k0 : w20.cell? ⟨gky, 0, none⟩ = some (.int .i64 (st : Int)) := (blk_cell hK20 0).trans rfl
  have k1 : w20.cell? ⟨gky, 1, none⟩ = some (.int .i64 (pl : Int)) := (blk_cell hK20 1).trans rfl
  have HE20 := Aside0.mk hE20
  have HK20 := Aside0.mk hK20
  have HM20 := Aside0.mk ho20
  have HKE := Aside0.mk hM20
  clear hE20 hM20 hK20 ho20 hgky
  have HKN := Aside0.mk hk
  have HSZ20 := Aside0.mk HB20.out.size
  clear hk
  go_quiet (fail)
  go_wp2
  go_loopg [10, 40] 5 (fun gg s10 s40 wr => ∃ (i : Nat) (B : Int) (cnt' : Nat) (D' : DataW Unit), s40 = .int .i64 (i : Int) ∧ s10 = .int .i64 B ∧ Aside0 (B = (kindsTo i).foldl (xBetter l (xFew l m (st + 1)) st pl) 1000000000) ∧ Aside0 (i ≤ 5 ∧ 5 - i ≤ gg) ∧ Aside0 (cnt' ≤ cnt + i * pwr m) ∧ Aside0 (Works l nn A c ge gm w0 wr cnt' D') ∧ Aside0 (KeepBut w20 wr gm none))
  case atStart => exact ⟨0, 1000000000, cnt, D, rfl, rfl, ⟨rfl⟩, ⟨by omega⟩, ⟨by omega⟩, ⟨⟨HE20.out, HM20.out, HKN.out, pw_below_drewN (HB0.out.trans (HB20.out.mono HB0.out.size)) _⟩⟩, ⟨KeepBut.of_below (pw_below_drewN (Below.refl _ _) _) gm none⟩⟩
  case round =>
    obtain ⟨i, B, cnt', D', rfl, rfl, HBV, HI, HN, HWK, HKP⟩ := hrel
    have hgr : ge < wr.heap.size := by have := HKP.out.1; have := HSZ20.out; omega
    have hgmr : gm < wr.heap.size := by have := HKP.out.1; have := HSZ20.out; omega
    clear hlk hlkd e0 e1 e2 k0 k1
    by_cases hlt : i < 5
    · have HNX := Aside0.mk (next_calls (st := st) (pl := pl) (kd := i) hs hpl (by omega) (by omega) hr wr HWK.out.e (Kd.C_below hl0 HWK.out.b) HC.out)
      have b1 : decide ((i : Int) < 5) = true := decide_eq_true (by omega)
      have HLT := Aside0.mk hlt
      have hi1 : IntKind.i64.wrap ((i : Int) + 1) = ((i + 1 : Nat) : Int) := (i64_w _).trans (by rw [wsmall (by omega) (by omega)]; omega)
      have hki := kinds_step (l := l) (f := xFew l m (st + 1)) (st := st) (pl := pl) i hlt
      have HKI := Aside0.mk hki
      have HGR := Aside0.mk hgr
      have HGMR := Aside0.mk hgmr
      clear hlt hki hgr hgmr
      unfold behindV at HNX
      cases hb : xBehind l st pl i with
      | none =>
        rw [hb] at HNX
        have HBN := Aside0.mk (kinds_none (f := xFew l m (st + 1)) (b := B) hb)
        clear hb
        go_wp2_with (go_at_call 33; (with_reducible refine HNX.out.mono ?_); rintro e w1 ⟨rfl, hb1⟩; have HB1 := Aside0.mk hb1; clear hb1)
        go_roundg (5 - (i + 1))
        case measure => have := HI.out; have := HLT.out; omega
        case rel => exact ⟨i + 1, B, cnt', D', rfl, rfl, ⟨by rw [HKI.out, ← HBV.out, HBN.out]⟩, ⟨by have := HLT.out; omega⟩, ⟨by have := HN.out; rw [Nat.add_mul]; omega⟩, ⟨HWK.out.below HGR.out HGMR.out HB1.out⟩, ⟨KeepBut.trans HKP.out (KeepBut.of_below HB1.out gm none) (.inl rfl)⟩⟩
      | some e =>
        rw [hb] at HNX
        have HBN := Aside0.mk (kinds_some (f := xFew l m (st + 1)) (b := B) hb)
        have HEL := Aside0.mk (behind_le hb)
        have hfb := few_bound l m (st + 1) e
        obtain ⟨F, hF⟩ : ∃ F, xFew l m (st + 1) e = F := ⟨_, rfl⟩
        have h1e : 0 ≤ xOne i ∧ xOne i ≤ 1 := by unfold xOne; split <;> omega
        have HT1 := Aside0.mk (show impl_toInt.f (decide (0 < i)) = some (xOne i) by unfold impl_toInt.f xOne; by_cases h : i = 0 <;> simp [h] <;> omega)
        obtain ⟨O, hO⟩ : ∃ O, xOne i = O := ⟨_, rfl⟩
        rw [hF] at hfb
        rw [hO] at h1e
        have hsw : IntKind.i64.wrap (F + O) = F + O := (i64_w _).trans (wsmall (by omega) (by omega))
        have hst1 : IntKind.i64.wrap ((st : Int) + 1) = (st : Int) + 1 := (i64_w _).trans (wsmall (by omega) (by omega))
        have b2 : decide (0 ≤ (e : Int)) = true := decide_eq_true (by omega)
        have HPW := Aside0.mk (show cnt' + pwr m < maxLen by
          have h1 := HN.out
          have h2 := HLIM.out
          have h3 := HLT.out
          have h4 : i * pwr m ≤ 4 * pwr m := Nat.mul_le_mul_right _ (by omega)
          simp only [pwr] at h2
          omega)
        clear hb hfb h1e
        have HFF := Aside0.mk hF
        have HOO := Aside0.mk hO
        rw [hO] at HT1
        clear hF hO
        by_cases hmn : F + O < B
        · have HMN := Aside0.mk (show mn B (F + O) = F + O by unfold mn; rw [if_pos hmn])
          have hm5 := eq_true hmn
          clear hmn
          go_wp2_with (first | (go_at_call 33; (with_reducible refine HNX.out.mono ?_); rintro r1 w1 ⟨rfl, hb1⟩; have HB1 := Aside0.mk hb1; clear hb1) | (go_at_call 32; (with_reducible refine (HIH.out e HEL.out _ cnt' D' ?sideW ?sideG ?sideM HPW.out).mono ?_); (case sideW => exact HWK.out.below HGR.out HGMR.out HB1.out); (case sideG => have := HGR.out; have := HB1.out.size; omega); (case sideM => have := HGMR.out; have := HB1.out.size; omega); rintro r2 w2 ⟨rfl, cnt2, D2, hc2, hw2, hk2⟩; have HC2 := Aside0.mk hc2; have HW2 := Aside0.mk hw2; have HK2 := Aside0.mk hk2; clear hc2 hw2 hk2; rw [HFF.out]) | (go_at_call 34; (with_reducible refine (impl_toInt.calls (decide (0 < i)) O _ HT1.out).mono ?_); rintro r3 w3 ⟨rfl, ⟨nd, rfl⟩⟩))
          go_roundg (5 - (i + 1))
          case measure => have := HI.out; have := HLT.out; omega
          case rel => exact ⟨i + 1, F + O, cnt2, D2, rfl, rfl, ⟨by rw [HKI.out, ← HBV.out, HBN.out, HFF.out, HOO.out, HMN.out]⟩, ⟨by have := HLT.out; omega⟩, ⟨by have := HN.out; have := HC2.out; rw [Nat.add_mul]; omega⟩, ⟨⟨HW2.out.e, owns_move HW2.out.m rfl, HW2.out.k, pw_below_drewN HW2.out.b _⟩⟩, ⟨KeepBut.trans (KeepBut.trans (KeepBut.trans HKP.out (KeepBut.of_below HB1.out gm none) (.inl rfl)) HK2.out (.inl rfl)) (KeepBut.of_below (pw_below_drewN (Below.refl _ _) _) gm none) (.inl rfl)⟩⟩
        · have HMN := Aside0.mk (show mn B (F + O) = B by unfold mn; rw [if_neg hmn])
          have hm5 := eq_false hmn
          clear hmn
          go_wp2_with (first | (go_at_call 33; (with_reducible refine HNX.out.mono ?_); rintro r1 w1 ⟨rfl, hb1⟩; have HB1 := Aside0.mk hb1; clear hb1) | (go_at_call 32; (with_reducible refine (HIH.out e HEL.out _ cnt' D' ?sideW ?sideG ?sideM HPW.out).mono ?_); (case sideW => exact HWK.out.below HGR.out HGMR.out HB1.out); (case sideG => have := HGR.out; have := HB1.out.size; omega); (case sideM => have := HGMR.out; have := HB1.out.size; omega); rintro r2 w2 ⟨rfl, cnt2, D2, hc2, hw2, hk2⟩; have HC2 := Aside0.mk hc2; have HW2 := Aside0.mk hw2; have HK2 := Aside0.mk hk2; clear hc2 hw2 hk2; rw [HFF.out]) | (go_at_call 34; (with_reducible refine (impl_toInt.calls (decide (0 < i)) O _ HT1.out).mono ?_); rintro r3 w3 ⟨rfl, ⟨nd, rfl⟩⟩))
          go_roundg (5 - (i + 1))
          case measure => have := HI.out; have := HLT.out; omega
          case rel => exact ⟨i + 1, B, cnt2, D2, rfl, rfl, ⟨by rw [HKI.out, ← HBV.out, HBN.out, HFF.out, HOO.out, HMN.out]⟩, ⟨by have := HLT.out; omega⟩, ⟨by have := HN.out; have := HC2.out; rw [Nat.add_mul]; omega⟩, ⟨⟨HW2.out.e, owns_move HW2.out.m rfl, HW2.out.k, pw_below_drewN HW2.out.b _⟩⟩, ⟨KeepBut.trans (KeepBut.trans (KeepBut.trans HKP.out (KeepBut.of_below HB1.out gm none) (.inl rfl)) HK2.out (.inl rfl)) (KeepBut.of_below (pw_below_drewN (Below.refl _ _) _) gm none) (.inl rfl)⟩⟩
    · obtain rfl : i = 5 := by have := HI.out; omega
      have hgky : gm < gky ∧ ge < gky := ⟨by have := HGK.out; omega, by have := HGK.out; omega⟩
      have hgkl : gky < w20.heap.size := (Array.getElem?_eq_some_iff.1 HK20.out).1
      have hKr : wr.heap[gky]? = some (.cells #[.int .i64 (st : Int), .int .i64 (pl : Int)] 67 (0, 0)) := (HKP.out.2 gky hgkl (by omega) (by simp)).trans HK20.out
      have b1 : decide (((5 : Nat) : Int) < 5) = false := decide_eq_false (by omega)
      have e2 : wr.cell? ⟨ge, 2, none⟩ = some (.map (some gm)) := (blk_cell HWK.out.e 2).trans rfl
      have k0 : wr.cell? ⟨gky, 0, none⟩ = some (.int .i64 (st : Int)) := (blk_cell hKr 0).trans rfl
      have k1 : wr.cell? ⟨gky, 1, none⟩ = some (.int .i64 (pl : Int)) := (blk_cell hKr 1).trans rfl
      have HGG := Aside0.mk hgky
      have HGR := Aside0.mk hgr
      have HGMR := Aside0.mk hgmr
      clear hlt hgky hgkl hKr hgr hgmr
      go_wp2
      go_still_tail 6, (by kernel_rfl)
      change wpList _ _ _ _ _ wr.drew
      have hBF : B = xFew l (m + 1) st pl := HBV.out
      have hfb := few_bound l (m + 1) st pl
      have hn1 : cnt' < maxLen := by
        have h1 := HN.out
        have h2 := HLIM.out
        simp only [pwr] at h2
        omega
      have hval : plainElem (H := Unit) Tryd.prog 2 (.int .i64 B) = some (.lit (.int .i64 B), []) := plainElem_int Tryd.underlying2 (by rw [hBF]; exact wf_bound hfb.1 hfb.2)
      have HBF := Aside0.mk hBF
      clear hBF hfb e2 k0 k1
      refine wpList_mapUpdate_own _ rfl _ _ _ 50 rfl 67 2 keyed50 Tryd.underlying50 (plainElem Tryd.prog 2) gm cnt' D' rfl HWK.out.m hn1 (keyV st pl) (.int .i64 B) (klOf st pl) rfl rfl (key_of hs hp) (.lit (.int .i64 B)) [] hval ?_
      intro w1 hown1 hgrow1
      have HO1 := Aside0.mk hown1
      have HG1 := Aside0.mk hgrow1
      clear hown1 hgrow1 hval hn1
      go_wp2
      go_ret
      have hg := HG1.out
      have hkeep : KeepBut wr w1 gm none := ⟨hg.size, fun i hi hgi _ => hg.block i hi (fun e => hgi (Option.some.inj e))⟩
      refine ⟨by rw [← HBF.out]; rfl, cnt' + 1, _, ?_, ⟨?_, HO1.out, ?_, ?_⟩, ?_⟩
      · have := HN.out
        simp only [pwr]
        omega
      · exact (hkeep.2 ge HGR.out hne (by simp)).trans HWK.out.e
      · rw [HBF.out]
        exact knows_put HWK.out.k HWK.out.m.isMap hsm hs hp
      · exact (below_drew1 HWK.out.b).grown hg HWK.out.b.size (fun j ej => by cases ej; exact hgm0)
      · exact KeepBut.trans (KeepBut.trans (KeepBut.of_below HB20.out gm none) HKP.out (.inl rfl)) hkeep (.inl rfl)
theorem few_calls {l : List Int} {A : Option Addr} {c ge gm nn : Nat} (w0 : World) (hnn : nn ≤ 900) (hll : l.length ≤ 900) (hr : ∀ x ∈ l, -1000 ≤ x ∧ x ≤ 1000) (hl0 : Kd.C (Kd.int .i64) w0 A l.length l) (hc : l.length ≤ c) (hgm0 : w0.heap.size ≤ gm) (hne : ¬ ge = gm) : ∀ (m st pl : Nat), st + m = nn → pl ≤ l.length → ∀ (w : World) (cnt : Nat) (D : DataW Unit), Works l nn A c ge gm w0 w cnt D → ge < w.heap.size → gm < w.heap.size → cnt + pwr m < maxLen →
    Calls Tryd.prog 32 #[.pointer (some ⟨ge, 0, none⟩), .int .i64 (st : Int), .int .i64 (pl : Int)] w fun r w' => r = .returned (.int .i64 (xFew l m st pl)) ∧ ∃ cnt' D', cnt' ≤ cnt + pwr m ∧ Works l nn A c ge gm w0 w' cnt' D' ∧ KeepBut w w' gm none := by
  intro m
  induction m with
  | zero =>
    intro st pl hsm hpl w cnt D hW hge hgm hcnt
    obtain rfl : st = nn := by omega
    have hl := Kd.C_below hl0 hW.b
    have xKeep : ∀ w', Below w.heap.size w w' → ∃ cnt' D', cnt' ≤ cnt + pwr 0 ∧ Works l st A c ge gm w0 w' cnt' D' ∧ KeepBut w w' gm none := fun w' hb => ⟨cnt, D, by omega, hW.below hge hgm hb, KeepBut.of_below hb gm none⟩
    by_cases hp : pl = l.length
    · have hf : xFew l 0 st pl = 0 := by unfold xFew; rw [if_pos hp]
      rw [hf]
      refine (few_end (pl : Int) (by omega) w hW.e hl hc).mono ?_
      rintro r w' ⟨rfl, hb⟩
      exact ⟨rfl, xKeep w' hb⟩
    · have hf : xFew l 0 st pl = 1000000000 := by unfold xFew; rw [if_neg hp]
      rw [hf]
      refine (few_out (pl : Int) (by omega) w hW.e hl hc).mono ?_
      rintro r w' ⟨rfl, hb⟩
      exact ⟨rfl, xKeep w' hb⟩
  | succ m ih =>
    intro st pl hsm hpl w cnt D hW hge hgm hcnt
    have hl := Kd.C_below hl0 hW.b
    cases hh : Maps.has D (klOf st pl) with
    | true =>
      refine (few_hit (by omega) (by omega) (by omega) hh hsm hW.k w hW.e hl hc hW.m hge hgm).mono ?_
      rintro r w' ⟨rfl, hb⟩
      exact ⟨rfl, cnt, D, by omega, hW.below hge hgm hb, KeepBut.of_below hb gm none⟩
    | false =>
      exact few_miss w0 (by omega) hpl hll hr hh hsm w hW hl0 hc hge hgm hgm0 hne hcnt (fun e he w cnt D hW hge hgm hcnt => ih (st + 1) e (by omega) he w cnt D hW hge hgm hcnt)
def xPick (l : List Int) (f : Nat → Int) (st pl : Nat) (lf : Int) : List Nat → Option (Nat × Nat)
  | [] => none
  | k :: ks => match xBehind l st pl k with
    | some e => if f e + xOne k = lf then some (k, e) else xPick l f st pl lf ks
    | none => xPick l f st pl lf ks
def runE (l : List Int) : Nat → Nat → Nat → Int → List Int
  | 0, _, _, _ => []
  | m + 1, st, pl, lf => match xPick l (xFew l m (st + 1)) st pl lf [0, 1, 2, 3, 4] with
    | some (k, e) => (k : Int) :: runE l m (st + 1) e (lf - xOne k)
    | none => runE l m (st + 1) pl lf
def impl_ExplainBlock.f (k : Nat) (a0 : Int) (l : List Int) : Option (List Int × Int) := (impl_isBlock.f k a0 l).bind fun t => if t = true then (if 0 ≤ a0 ∧ a0 ≤ 12 ∧ l.length ≤ 900 ∧ (∀ x ∈ l, -1000 ≤ x ∧ x ≤ 1000) then (if xFew l a0.toNat 0 0 ≥ 1000000000 then some ([], 4) else some (runE l a0.toNat 0 0 (xFew l a0.toNat 0 0), 0)) else none) else some ([], 2)
theorem few_calls_00 {l : List Int} {A : Option Addr} {c ge gm nn : Nat} (w0 : World) (hnn : nn ≤ 900) (hll : l.length ≤ 900) (hr : ∀ x ∈ l, -1000 ≤ x ∧ x ≤ 1000) (hl0 : Kd.C (Kd.int .i64) w0 A l.length l) (hc : l.length ≤ c) (hgm0 : w0.heap.size ≤ gm) (hne : ¬ ge = gm) (w : World) (cnt : Nat) (D : DataW Unit) (hW : Works l nn A c ge gm w0 w cnt D) (hge : ge < w.heap.size) (hgm : gm < w.heap.size) (hcnt : cnt + pwr nn < maxLen) :
    Calls Tryd.prog 32 #[.pointer (some ⟨ge, 0, none⟩), .int .i64 0, .int .i64 0] w fun r w' => r = .returned (.int .i64 (xFew l nn 0 0)) ∧ ∃ cnt' D', cnt' ≤ cnt + pwr nn ∧ Works l nn A c ge gm w0 w' cnt' D' ∧ KeepBut w w' gm none :=
  few_calls w0 hnn hll hr hl0 hc hgm0 hne nn 0 0 (Nat.zero_add _) (Nat.zero_le _) w cnt D hW hge hgm hcnt
theorem works_new {l : List Int} {A : Option Addr} {c nn : Nat} (w w1 : World) (hb : Below w.heap.size w w1) : Works l nn A c (w1.heap.size + 1) w1.heap.size w ((w1.alloc (.map #[] 0)).alloc (.cells #[.int .i64 (nn : Int), .slice A l.length c, .map (some w1.heap.size)] 52)) 0 (.map []) := by
  refine ⟨?_, ?_, ?_, ?_⟩
  · have h := blk_new (w1.alloc (.map #[] 0)) (.cells #[.int .i64 (nn : Int), .slice A l.length c, .map (some w1.heap.size)] 52)
    have hs : (w1.alloc (.map #[] 0)).heap.size = w1.heap.size + 1 := by simp
    rw [hs] at h
    exact h
  · exact (World.ownsMap_made w1 Tryd.prog 67 (plainElem Tryd.prog 2)).alloc _
  · intro s p m _ _ _ hh
    cases hh
  · exact below_alloc (below_alloc hb _) _
set_option maxHeartbeats 8000000 in
set_option maxRecDepth 100000 in
theorem explain_no (k : Nat) (a0 : Int) (A : Option Addr) (c : Nat) (l : List Int) (w : World) (hl : Kd.C (Kd.int .i64) w A l.length l) (hc : l.length ≤ c) (hi : impl_isBlock.f k a0 l = some false) :
    Calls Tryd.prog 16 #[.int .i64 a0, .slice A l.length c] w fun e w' => e = .returned (.tuple #[.slice none 0 0, .int .i64 2]) ∧ Below w.heap.size w w' := by
  have HR := Aside0.mk hl
  have HC := Aside0.mk hc
  have HI := Aside0.mk hi
  clear hl hc hi
  go_enter Tryd.func16, Tryd.ntmps16
  go_wp2_with (go_at_call 31; (with_reducible refine (impl_isBlock.calls k a0 _ _ l false _ HR.out HC.out HI.out).mono ?_); rintro e w1 ⟨rfl, hb⟩; have HB := Aside0.mk hb; clear hb)
  go_ret2
  exact ⟨rfl, (by repeat (first | (with_reducible first | exact HB.out | apply below_alloc | apply pw_below_drewN | apply below_drew1) | exact HB.out))⟩
set_option maxHeartbeats 8000000 in
set_option maxRecDepth 100000 in
theorem explain_out (k nn : Nat) (A : Option Addr) (c : Nat) (l : List Int) (w : World) (hl : Kd.C (Kd.int .i64) w A l.length l) (hc : l.length ≤ c) (hi : impl_isBlock.f k (nn : Int) l = some true) (hnn : nn ≤ 12) (hll : l.length ≤ 900) (hr : ∀ x ∈ l, -1000 ≤ x ∧ x ≤ 1000) (hf : xFew l nn 0 0 ≥ 1000000000) :
    Calls Tryd.prog 16 #[.int .i64 (nn : Int), .slice A l.length c] w fun e w' => e = .returned (.tuple #[.slice none 0 0, .int .i64 4]) ∧ Below w.heap.size w w' := by
  have HR := Aside0.mk hl
  have HC := Aside0.mk hc
  have HI := Aside0.mk hi
  have HPW := Aside0.mk (show 0 + pwr nn < maxLen by
    have h : ∀ i : Fin 13, 0 + pwr i.val < maxLen := by decide
    exact h ⟨nn, by omega⟩)
  obtain ⟨F, hF⟩ : ∃ F, xFew l nn 0 0 = F := ⟨_, rfl⟩
  rw [hF] at hf
  have HF := Aside0.mk hF
  have b1 : decide (1000000000 ≤ F) = true := decide_eq_true hf
  clear hl hc hi hF hf
  have hmm := @run_makeMap Tryd.prog
  go_enter Tryd.func16, Tryd.ntmps16
  go_wp2_with (first | (go_at_call 31; (with_reducible refine (impl_isBlock.calls k (nn : Int) _ _ l true _ HR.out HC.out HI.out).mono ?_); rintro e w1 ⟨rfl, hb⟩; have HB := Aside0.mk hb; have HWK := Aside0.mk (works_new (l := l) (A := A) (c := c) (nn := nn) w w1 hb); clear hb) | (go_at_call 32; refine (few_calls_00 (nn := nn) w (by omega) hll hr HR.out HC.out ?sG0 ?sNe _ 0 (.map []) HWK.out ?sGe ?sGm ?sC).mono ?_; (case sG0 => have := HB.out.size; omega); (case sNe => omega); (case sGe => simp); (case sGm => simp; omega); (case sC => exact HPW.out); rintro r2 w2 ⟨rfl, cnt2, D2, hc2, hw2, hk2⟩; have HC2 := Aside0.mk hc2; have HW2 := Aside0.mk hw2; have HK2 := Aside0.mk hk2; clear hc2 hw2 hk2; rw [HF.out]))
  go_ret2
  exact ⟨rfl, HW2.out.b⟩
theorem Works.past {l : List Int} {n : Nat} {A : Option Addr} {c ge gm B : Nat} {w0 w w' : World} {cnt : Nat} {D : DataW Unit} (h : Works l n A c ge gm w0 w cnt D) (hge : ge < B) (hgm : gm < B) (hw : w0.heap.size ≤ B) (hb : Below B w w') : Works l n A c ge gm w0 w' cnt D :=
  ⟨(hb.block ge hge).trans h.e, owns_move h.m (hb.block gm hgm), h.k, h.b.trans (hb.mono hw)⟩
theorem pick_drop (l : List Int) (f : Nat → Int) (st pl : Nat) (lf : Int) (j : Nat) (hj : j < 5) : xPick l f st pl lf (([0, 1, 2, 3, 4] : List Nat).drop j) = (match xBehind l st pl j with | some e => if f e + xOne j = lf then some (j, e) else xPick l f st pl lf (([0, 1, 2, 3, 4] : List Nat).drop (j + 1)) | none => xPick l f st pl lf (([0, 1, 2, 3, 4] : List Nat).drop (j + 1))) := by
  have : j = 0 ∨ j = 1 ∨ j = 2 ∨ j = 3 ∨ j = 4 := by omega
  rcases this with rfl | rfl | rfl | rfl | rfl <;> rfl
theorem few_calls_1 {l : List Int} {A : Option Addr} {c ge gm nn : Nat} (w0 : World) (hnn : nn ≤ 900) (hll : l.length ≤ 900) (hr : ∀ x ∈ l, -1000 ≤ x ∧ x ≤ 1000) (hl0 : Kd.C (Kd.int .i64) w0 A l.length l) (hc : l.length ≤ c) (hgm0 : w0.heap.size ≤ gm) (hne : ¬ ge = gm) (i M e : Nat) (hM : i + 1 + M = nn) (he : e ≤ l.length) (w : World) (cnt : Nat) (D : DataW Unit) (hW : Works l nn A c ge gm w0 w cnt D) (hge : ge < w.heap.size) (hgm : gm < w.heap.size) (hcnt : cnt + pwr M < maxLen) :
    Calls Tryd.prog 32 #[.pointer (some ⟨ge, 0, none⟩), .int .i64 ((i : Int) + 1), .int .i64 (e : Int)] w fun r w' => r = .returned (.int .i64 (xFew l M (i + 1) e)) ∧ ∃ cnt' D', cnt' ≤ cnt + pwr M ∧ Works l nn A c ge gm w0 w' cnt' D' ∧ KeepBut w w' gm none := by
  rw [show ((i : Int) + 1) = ((i + 1 : Nat) : Int) from by omega]
  exact few_calls w0 hnn hll hr hl0 hc hgm0 hne M (i + 1) e hM he w cnt D hW hge hgm hcnt
theorem pwr_le (a b : Nat) (hb : b ≤ 12) (h : a ≤ b) : pwr a ≤ pwr b ∧ pwr b * 70 < maxLen := by
  have k : ∀ x y : Fin 13, x.val ≤ y.val → pwr x.val ≤ pwr y.val ∧ pwr y.val * 70 < maxLen := by decide
  exact k ⟨a, by omega⟩ ⟨b, by omega⟩ h
set_option maxHeartbeats 8000000 in
set_option maxRecDepth 100000 in
theorem explain_ok (k nn : Nat) (A : Option Addr) (c : Nat) (l : List Int) (w : World) (hl : Kd.C (Kd.int .i64) w A l.length l) (hc : l.length ≤ c) (hi : impl_isBlock.f k (nn : Int) l = some true) (hnn : nn ≤ 12) (hll : l.length ≤ 900) (hr : ∀ x ∈ l, -1000 ≤ x ∧ x ≤ 1000) (hf : ¬ xFew l nn 0 0 ≥ 1000000000) :
    Calls Tryd.prog 16 #[.int .i64 (nn : Int), .slice A l.length c] w fun e w' => ∃ v0_ : Value, e = .returned (.tuple #[v0_, .int .i64 0]) ∧ Kd.R (Kd.int .i64) 2 w' w.heap.size (fun _ => True) v0_ (runE l nn 0 0 (xFew l nn 0 0)) ∧ Below w.heap.size w w' := by
  have HR := Aside0.mk hl
  have HC := Aside0.mk hc
  have HI := Aside0.mk hi
  have HPW := Aside0.mk (show 0 + pwr nn < maxLen by
    have h : ∀ i : Fin 13, 0 + pwr i.val < maxLen := by decide
    exact h ⟨nn, by omega⟩)
  have hfb := few_bound l nn 0 0
  obtain ⟨F, hF⟩ : ∃ F, xFew l nn 0 0 = F := ⟨_, rfl⟩
  rw [hF] at hf hfb ⊢
  have HF := Aside0.mk hF
  have b1 : decide (1000000000 ≤ F) = false := decide_eq_false hf
  clear hl hc hi hF hf
  have hmm := @run_makeMap Tryd.prog
  go_enter Tryd.func16, Tryd.ntmps16
  go_wp2_with (first | (go_at_call 31; (with_reducible refine (impl_isBlock.calls k (nn : Int) _ _ l true _ HR.out HC.out HI.out).mono ?_); rintro e w1 ⟨rfl, hb⟩; have HB := Aside0.mk hb; have HWK := Aside0.mk (works_new (l := l) (A := A) (c := c) (nn := nn) w w1 hb); clear hb) | (go_at_call 32; refine (few_calls_00 (nn := nn) w (by omega) hll hr HR.out HC.out ?sG0 ?sNe _ 0 (.map []) HWK.out ?sGe ?sGm ?sC).mono ?_; (case sG0 => have := HB.out.size; omega); (case sNe => omega); (case sGe => simp); (case sGm => simp; omega); (case sC => exact HPW.out); rintro r2 w2 ⟨rfl, cnt2, D2, hc2, hw2, hk2⟩; have HC2 := Aside0.mk hc2; have HW2 := Aside0.mk hw2; have HK2 := Aside0.mk hk2; clear hc2 hw2 hk2; rw [HF.out]; have HGM2 := Aside0.mk (show w1.heap.size + 1 < w2.heap.size by have := HK2.out.1; simp at this; omega)) | ((with_reducible refine gate_dst (N := 26) rfl ?_); refine Kd.R_lit (Kd.int .i64) (w0 := w2) w2.heap.size 2 ?hg (N := 26) ?hd (xs := ([] : List Int)) (inner := []) (ok := fun k_ => k_ ≠ w1.heap.size) (okp := fun _ => False) ?hr ?hp ?hok ?hfr (Below.refl _ _) (Nat.le_refl _) (by simp) ?_; (case hd => rfl); (case hg => rfl); (case hr => first | (go_simp; done) | (go_simp; rfl)); (case hp => exact (Reps.none _ _)); (case hok => exact fun _ h => h.elim); (case hfr => have := HGM2.out; omega); intro v26 w26 ho hb hg_ hnew_; have HO := Aside0.mk ho; have HB26 := Aside0.mk hb; clear hg_ hnew_ ho hb))
  have hgm2 := HGM2.out
  have hws : w.heap.size ≤ w2.heap.size := HW2.out.b.size
  have hw26 := Works.past HW2.out (show w1.heap.size + 1 < w2.heap.size from hgm2) (show w1.heap.size < w2.heap.size by omega) hws HB26.out
  have HW26 := Aside0.mk hw26
  have HWS := Aside0.mk hws
  clear hw26 hws hgm2 hmm
  go_loopg [7, 8, 9, 28] nn (fun gg s7 s8 s9 s28 wr => ∃ (i pl : Nat) (lf : Int) (out : List Int) (cnt' : Nat) (D' : DataW Unit), s28 = .int .i64 (i : Int) ∧ s7 = .int .i64 lf ∧ s9 = .int .i64 (pl : Int) ∧ Aside0 (i ≤ nn ∧ nn - i ≤ gg) ∧ Aside0 (pl ≤ l.length ∧ F - (i : Int) ≤ lf ∧ lf ≤ F ∧ out.length ≤ i) ∧ Aside0 (out ++ runE l (nn - i) i pl lf = runE l nn 0 0 F) ∧ Aside0 (cnt' ≤ pwr nn * (1 + 5 * i)) ∧ Aside0 (Works l nn A c (w1.heap.size + 1) w1.heap.size w wr cnt' D') ∧ Aside0 (Kd.R (Kd.int .i64) 2 wr w2.heap.size (fun k_ => k_ ≠ w1.heap.size) s8 out) ∧ Aside0 (w2.heap.size ≤ wr.heap.size))
  case atStart => exact ⟨0, 0, F, [], cnt2, D2, rfl, rfl, rfl, ⟨by omega⟩, ⟨by simp⟩, ⟨by rw [List.nil_append]; rfl⟩, ⟨by have := HC2.out; omega⟩, HW26, HO, ⟨HB26.out.size⟩⟩
  case round =>
    obtain ⟨i, pl, lf, out, cnt', D', rfl, rfl, rfl, HI1, HP1, HRE, HN, HWK2, HO2, HS2⟩ := hrel
    have HWK := HWK2
    clear HWK2
    by_cases hlt : i < nn
    · have b2 : decide (i < nn) = true := decide_eq_true hlt
      have HLT := Aside0.mk hlt
      clear hlt
      go_wp2
      obtain ⟨M, hM⟩ : ∃ M, i + 1 + M = nn := ⟨nn - (i + 1), by have := HLT.out; omega⟩
      have HM := Aside0.mk hM
      have hMn := pwr_le M nn hnn (by omega)
      have HMN := Aside0.mk hMn
      clear hM hMn
      go_loopg [7, 8, 9, 31] 5 (fun gg s7 s8 s9 s31 wr2 => ∃ (j cnt3 : Nat) (D3 : DataW Unit), s31 = .int .i64 (j : Int) ∧ s7 = .int .i64 lf ∧ s9 = .int .i64 (pl : Int) ∧ Aside0 (j ≤ 5 ∧ 5 - j ≤ gg) ∧ Aside0 (xPick l (xFew l M (i + 1)) i pl lf [0, 1, 2, 3, 4] = xPick l (xFew l M (i + 1)) i pl lf (([0, 1, 2, 3, 4] : List Nat).drop j)) ∧ Aside0 (cnt3 ≤ cnt' + j * pwr nn) ∧ Aside0 (Works l nn A c (w1.heap.size + 1) w1.heap.size w wr2 cnt3 D3) ∧ Aside0 (Kd.R (Kd.int .i64) 2 wr2 w2.heap.size (fun k_ => k_ ≠ w1.heap.size) s8 out) ∧ Aside0 (w2.heap.size ≤ wr2.heap.size))
      case atStart => exact ⟨0, cnt', D', rfl, rfl, rfl, ⟨by omega⟩, ⟨rfl⟩, ⟨by omega⟩, HWK, HO2, HS2⟩
      case round =>
        obtain ⟨j, cnt3, D3, rfl, rfl, rfl, HJ, HPK, HN3, HWK3, HO3, HS3⟩ := hrel
        by_cases hj : j < 5
        · skip
          have hgm2 := HGM2.out
          have hs3 := HS3.out
          have HGE3 := Aside0.mk (show w1.heap.size + 1 < wr.heap.size by omega)
          have HGM3 := Aside0.mk (show w1.heap.size < wr.heap.size by omega)
          have HNN := Aside0.mk (show nn ≤ 900 by omega)
          have HG0 := Aside0.mk (show w.heap.size ≤ w1.heap.size from HB.out.size)
          have HNE := Aside0.mk (show ¬ w1.heap.size + 1 = w1.heap.size by omega)
          have hj1 : IntKind.i64.wrap ((j : Int) + 1) = ((j + 1 : Nat) : Int) := (i64_w _).trans (by rw [wsmall (by omega) (by omega)]; omega)
          have HNX := Aside0.mk (next_calls (st := i) (pl := pl) (kd := j) (by have := HLT.out; omega) HP1.out.1 (by omega) (by omega) hr wr HWK3.out.e (Kd.C_below HR.out HWK3.out.b) HC.out)
          have b3 : decide ((j : Int) < 5) = true := decide_eq_true (by omega)
          have HPD := Aside0.mk (pick_drop l (xFew l M (i + 1)) i pl lf j hj)
          have HJL := Aside0.mk hj
          clear hj hgm2 hs3
          unfold behindV at HNX
          cases hb : xBehind l i pl j with
          | none =>
            rw [hb] at HNX HPD
            have b4 : decide ((0 : Int) ≤ -1) = false := by decide
            clear hb
            go_wp2_with (first | (go_at_call 33; (with_reducible refine HNX.out.mono ?_); rintro r1 w4 ⟨rfl, hb1⟩; have HB4 := Aside0.mk hb1; clear hb1))
            go_roundg (5 - (j + 1))
            case measure => have := HJ.out; have := HJL.out; omega
            case rel => exact ⟨j + 1, cnt3, D3, rfl, rfl, rfl, ⟨by have := HJL.out; omega⟩, ⟨by rw [HPK.out, HPD.out]⟩, ⟨by have := HN3.out; rw [Nat.add_mul]; omega⟩, ⟨HWK3.out.below HGE3.out HGM3.out HB4.out⟩, ⟨Kd.R_below HO3.out HB4.out⟩, ⟨by have := HS3.out; have := HB4.out.size; omega⟩⟩
          | some e =>
            rw [hb] at HNX HPD
            have HEL := Aside0.mk (behind_le hb)
            have hfe := few_bound l M (i + 1) e
            obtain ⟨G, hG⟩ : ∃ G, xFew l M (i + 1) e = G := ⟨_, rfl⟩
            have h1e : 0 ≤ xOne j ∧ xOne j ≤ 1 := by unfold xOne; split <;> omega
            have HT1 := Aside0.mk (show impl_toInt.f (decide (0 < j)) = some (xOne j) by unfold impl_toInt.f xOne; by_cases h : j = 0 <;> simp [h] <;> omega)
            obtain ⟨O, hO⟩ : ∃ O, xOne j = O := ⟨_, rfl⟩
            rw [hG] at hfe
            rw [hO] at h1e HT1
            have hP1 := HP1.out
            have hLT := HLT.out
            have hlfb : -1000 ≤ lf - O ∧ lf - O ≤ 1000000000 ∧ F - ((i + 1 : Nat) : Int) ≤ lf - O ∧ lf - O ≤ F := by omega
            have hsw : IntKind.i64.wrap (G + O) = G + O := (i64_w _).trans (wsmall (by omega) (by omega))
            have hsb : IntKind.i64.wrap (lf - O) = lf - O := (i64_w _).trans (wsmall (by omega) (by omega))
            have hst1 : IntKind.i64.wrap ((i : Int) + 1) = (i : Int) + 1 := (i64_w _).trans (wsmall (by omega) (by omega))
            have b4 : decide (0 ≤ (e : Int)) = true := decide_eq_true (by omega)
            have HPW3 := Aside0.mk (show cnt3 + pwr M < maxLen by
              have h1 := HN3.out
              have h2 := HN.out
              have h3 := HMN.out
              have h4 : pwr nn * (1 + 5 * i) ≤ pwr nn * 56 := Nat.mul_le_mul_left _ (by omega)
              have h5 : j * pwr nn ≤ 5 * pwr nn := Nat.mul_le_mul_right _ (by have := HJL.out; omega)
              omega)
            have HFF := Aside0.mk hG
            have HOO := Aside0.mk hO
            have HLB := Aside0.mk hlfb
            clear hb hfe h1e hG hO hlfb hP1 hLT
            by_cases hq : G + O = lf
            · have b5 : (G + O == lf) = true := beq_iff_eq.mpr hq
              have HQ := Aside0.mk hq
              clear hq
              go_wp2_with (first | (go_at_call 33; (with_reducible refine HNX.out.mono ?_); rintro r1 w4 ⟨rfl, hb1⟩; have HB4 := Aside0.mk hb1; clear hb1) | (go_at_call 32; (with_reducible refine (few_calls_1 w HNN.out hll hr HR.out HC.out HG0.out HNE.out i M e HM.out HEL.out _ cnt3 D3 ?sW ?sGe ?sGm HPW3.out).mono ?_); (case sW => exact HWK3.out.below HGE3.out HGM3.out HB4.out); (case sGe => have := HGE3.out; have := HB4.out.size; omega); (case sGm => have := HGM3.out; have := HB4.out.size; omega); rintro r2 w5 ⟨rfl, cnt5, D5, hc5, hw5, hk5⟩; have HC5 := Aside0.mk hc5; have HW5 := Aside0.mk hw5; have HK5 := Aside0.mk hk5; clear hc5 hw5 hk5; rw [HFF.out]) | (go_at_call 34; (with_reducible refine (impl_toInt.calls (decide (0 < j)) O _ HT1.out).mono ?_); rintro r3 w6 ⟨rfl, ⟨nd, rfl⟩⟩) | ((with_reducible refine gate_builtin (b := .append) (xs := #[.tmp 54, .tmp 56]) rfl ?_); at_builtin; refine Kd.R_append (Kd.int .i64) w2.heap.size rfl (.tmp 54) (.tmp 56) 24 2 (.int .i64 0) 8 rfl Tryd.underlying24 info2 rfl (by decide) (by omega) _ out (j : Int) [.int .i64 (j : Int)] (fun k_ => k_ ≠ w1.heap.size) (fun _ => False) rfl rfl ?aP (fun _ hk => hk.elim) ?aF ?aO (Below.refl _ _) ?aS ?aL ?_; (case aP => exact rfl); (case aF => intro k_ hk_; have := HGM2.out; have := HS3.out; have := HB4.out.size; have := HK5.out.1; simp at hk_; omega); (case aO => exact Kd.R_drewN (Kd.R_keep (Kd.R_below HO3.out HB4.out) HK5.out (fun _ h => h)) _); (case aS => have := HS3.out; have := HB4.out.size; have := HK5.out.1; simp; omega); (case aL => have := HP1.out.2.2.2; have := HLT.out; omega); intro v7 w7 ho hb hg hat; have HO7 := Aside0.mk ho; have HB7 := Aside0.mk hb; clear ho hb hg hat))
              go_roundg (nn - (i + 1))
              case measure => have := HI1.out; have := HLT.out; omega
              case rel =>
                have hp : xPick l (xFew l M (i + 1)) i pl lf [0, 1, 2, 3, 4] = some (j, e) := by rw [HPK.out, HPD.out]; simp only [HFF.out, HOO.out, if_pos HQ.out]
                have hM1 : nn - i = M + 1 := by have := HM.out; omega
                have hM2 : nn - (i + 1) = M := by have := HM.out; omega
                have hRE := HRE.out
                rw [hM1, runE, hp] at hRE
                simp only [HOO.out] at hRE
                have hg2 := HGM2.out
                have hWd : ∀ q, Works l nn A c (w1.heap.size + 1) w1.heap.size w (w5.drewN q) cnt5 D5 := fun q => ⟨HW5.out.e, owns_move HW5.out.m rfl, HW5.out.k, pw_below_drewN HW5.out.b _⟩
                have hW7 := Works.past (hWd _) (show w1.heap.size + 1 < w2.heap.size from hg2) (show w1.heap.size < w2.heap.size by omega) HWS.out HB7.out
                exact ⟨i + 1, e, lf - O, out ++ [(j : Int)], cnt5, D5, rfl, rfl, rfl, ⟨by have := HLT.out; omega⟩, ⟨by have := HLB.out; have := HP1.out; have := HEL.out; rw [List.length_append, List.length_singleton]; omega⟩, ⟨by rw [hM2, ← hRE, List.append_assoc]; rfl⟩, ⟨by have h1 := HN.out; have h2 := HN3.out; have h3 := HC5.out; have h4 := HMN.out; have h5 : j * pwr nn ≤ 4 * pwr nn := Nat.mul_le_mul_right _ (by have := HJL.out; omega); rw [Nat.mul_add, Nat.mul_one] at h1 ⊢; rw [show pwr nn * (5 * (i + 1)) = pwr nn * (5 * i) + 5 * pwr nn from by rw [Nat.mul_add 5 i 1, Nat.mul_add]; omega]; omega⟩, ⟨⟨hW7.e, owns_move hW7.m rfl, hW7.k, pw_below_drewN hW7.b _⟩⟩, ⟨Kd.R_drewN HO7.out _⟩, ⟨by have h7 : w5.heap.size ≤ w7.heap.size := HB7.out.size; have := HS3.out; have := HB4.out.size; have := HK5.out.1; show w2.heap.size ≤ w7.heap.size; omega⟩⟩
            · have b5 : (G + O == lf) = false := beq_eq_false_iff_ne.mpr hq
              have HQ := Aside0.mk hq
              clear hq
              go_wp2_with (first | (go_at_call 33; (with_reducible refine HNX.out.mono ?_); rintro r1 w4 ⟨rfl, hb1⟩; have HB4 := Aside0.mk hb1; clear hb1) | (go_at_call 32; (with_reducible refine (few_calls_1 w HNN.out hll hr HR.out HC.out HG0.out HNE.out i M e HM.out HEL.out _ cnt3 D3 ?sW ?sGe ?sGm HPW3.out).mono ?_); (case sW => exact HWK3.out.below HGE3.out HGM3.out HB4.out); (case sGe => have := HGE3.out; have := HB4.out.size; omega); (case sGm => have := HGM3.out; have := HB4.out.size; omega); rintro r2 w5 ⟨rfl, cnt5, D5, hc5, hw5, hk5⟩; have HC5 := Aside0.mk hc5; have HW5 := Aside0.mk hw5; have HK5 := Aside0.mk hk5; clear hc5 hw5 hk5; rw [HFF.out]) | (go_at_call 34; (with_reducible refine (impl_toInt.calls (decide (0 < j)) O _ HT1.out).mono ?_); rintro r3 w6 ⟨rfl, ⟨nd, rfl⟩⟩))
              go_roundg (5 - (j + 1))
              case measure => have := HJ.out; have := HJL.out; omega
              case rel => exact ⟨j + 1, cnt5, D5, rfl, rfl, rfl, ⟨by have := HJL.out; omega⟩, ⟨by rw [HPK.out, HPD.out]; simp only [HFF.out, HOO.out, if_neg HQ.out]⟩, ⟨by have := HN3.out; have := HC5.out; have := HMN.out; rw [Nat.add_mul]; omega⟩, ⟨⟨HW5.out.e, owns_move HW5.out.m rfl, HW5.out.k, pw_below_drewN HW5.out.b _⟩⟩, ⟨Kd.R_drewN (Kd.R_keep (Kd.R_below HO3.out HB4.out) HK5.out (fun _ h => h)) _⟩, ⟨by have := HS3.out; have := HB4.out.size; have := HK5.out.1; simp; omega⟩⟩
        · obtain rfl : j = 5 := by have := HJ.out; omega
          have hst1 : IntKind.i64.wrap ((i : Int) + 1) = (i : Int) + 1 := (i64_w _).trans (wsmall (by have := HLT.out; omega) (by have := HLT.out; omega))
          clear hj
          go_wp2
          go_roundg (nn - (i + 1))
          case measure => have := HI1.out; have := HLT.out; omega
          case rel =>
            have hp : xPick l (xFew l M (i + 1)) i pl lf [0, 1, 2, 3, 4] = none := by rw [HPK.out]; rfl
            have hM1 : nn - i = M + 1 := by have := HM.out; omega
            have hM2 : nn - (i + 1) = M := by have := HM.out; omega
            have hRE := HRE.out
            rw [hM1, runE, hp] at hRE
            simp only at hRE
            exact ⟨i + 1, pl, lf, out, cnt3, D3, rfl, rfl, rfl, ⟨by have := HLT.out; omega⟩, ⟨by have := HP1.out; omega⟩, ⟨by rw [hM2, hRE]⟩, ⟨by have h1 := HN.out; have h2 := HN3.out; rw [Nat.mul_add, Nat.mul_one] at h1 ⊢; rw [show pwr nn * (5 * (i + 1)) = pwr nn * (5 * i) + 5 * pwr nn from by rw [Nat.mul_add 5 i 1, Nat.mul_add]; omega]; omega⟩, HWK3, HO3, HS3⟩
    · obtain rfl : i = nn := by have := HI1.out; omega
      have b2 : decide ((i : Int) < (i : Int)) = false := decide_eq_false (by omega)
      clear hlt
      go_wp2
      go_ret2
      refine ⟨_, rfl, ?_, HWK.out.b⟩
      have h := HRE.out
      rw [Nat.sub_self] at h
      simp only [runE, List.append_nil] at h
      rw [← h]
      exact Kd.R_mono (Kd.R_lower HO2.out HWS.out) (fun _ _ => trivial)
end
theorem impl_ExplainBlock.calls (k : Nat) (a0 : Int) (A1 : Option Addr) (c1 : Nat) (l1 : List Int) (r1 : List Int) (r2 : Int) (w : World) (hr1 : Kd.C (Kd.int .i64) w A1 l1.length l1) (hc1 : l1.length ≤ c1) (h : impl_ExplainBlock.f k a0 l1 = some (r1, r2)) :
    Calls Tryd.prog 16 #[.int .i64 a0, .slice A1 l1.length c1] w fun e w' => ∃ v0_ : Value, e = .returned (.tuple #[v0_, .int .i64 r2]) ∧ Kd.R (Kd.int .i64) 2 w' w.heap.size (fun _ => True) v0_ r1 ∧ Below w.heap.size w w' := by
  unfold impl_ExplainBlock.f at h
  obtain ⟨t, hi, h⟩ := Option.bind_eq_some_iff.mp h
  cases t with
  | false =>
    rw [if_neg (by simp)] at h
    obtain ⟨rfl, rfl⟩ := Prod.mk.inj (Option.some.inj h)
    refine (explain_no k a0 A1 c1 l1 w hr1 hc1 hi).mono ?_
    rintro e w' ⟨rfl, hb⟩
    exact ⟨_, rfl, Kd.R_nil _ _ _ _ _, hb⟩
  | true =>
    rw [if_pos rfl] at h
    split at h
    · rename_i hb
      obtain ⟨nn, rfl⟩ : ∃ nn : Nat, a0 = (nn : Int) := ⟨a0.toNat, by omega⟩
      rw [Int.toNat_natCast] at h
      split at h
      · rename_i hf
        obtain ⟨rfl, rfl⟩ := Prod.mk.inj (Option.some.inj h)
        refine (explain_out k nn A1 c1 l1 w hr1 hc1 hi (by omega) hb.2.2.1 hb.2.2.2 hf).mono ?_
        rintro e w' ⟨rfl, hb2⟩
        exact ⟨_, rfl, Kd.R_nil _ _ _ _ _, hb2⟩
      · rename_i hf
        obtain ⟨rfl, rfl⟩ := Prod.mk.inj (Option.some.inj h)
        exact explain_ok k nn A1 c1 l1 w hr1 hc1 hi (by omega) hb.2.2.1 hb.2.2.2 hf
    · cases h
end Go.Proofs.YtjnacjdpggpiiaaDoor.PU
end
