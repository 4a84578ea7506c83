-- Gathered by this session's program wip/tool/shake.py out of its own texts and of what the kit's print and the session's patches of it wrote for this claim.
import Derived.Test.YtanokgpnmbbajaaProg
import Derived.ArgAppend
import Derived.Below
import Derived.BigQuiet
import Derived.Deep.AppendLies
import Derived.Deep.CutBlock
import Derived.Deep.DeepCutAuto
import Derived.Deep.Draws
import Derived.Deep.LoopGhost
import Derived.Deep.OwnRows
import Derived.Deep.QuietTactic
import Derived.Deep.RegionHeld3
import Derived.KernelRfl
import Derived.Laws.BytesArg
import Derived.Laws.IdiomCopy
import Derived.Laws.MakeOwn
import Derived.Laws.OwnMore
import Derived.Laws.Rows
import Derived.Laws.Slices
import Derived.Lib.AppendStr
import Derived.Lib.ConvBytes
import Derived.Maps.AppendAt
import Derived.OwnWalk
import Derived.RowKit
import Derived.RowKit3
import Derived.Shelf.SlSortCmp.InsertionK
import Derived.Shelf.SlSortCmp.KitK
import Derived.Sort.LotA
import Derived.Sort.WalkB12
import Derived.Sort.WalkB2
import Derived.Tactics
import Derived.WalkKit
import Derived.WideLaws
import Derived.Test.YtanokgpnmbbajaaCFnLots19
section
namespace Go.Proofs.Ytanokgpnmbbajaa.SortLot
open Go Go.Proofs Go.Shelf Go.RowKit Go.Lib Go.Sort Go.Proofs.Ytanokgpnmbbajaa.Stab Go.Proofs.Ytanokgpnmbbajaa.RowKk
set_option linter.unusedVariables false
set_option linter.unusedSimpArgs false
variable {P : Program} {α : Type} [Inhabited α]
def ren : Ren := ⟨fun _ => 141, fun x => if x = 3 then 3 else if x = 4 then 4 else if x = 22 then 24 else if x = 24 then 43 else if x = 25 then 99 else 0, fun x => x⟩
theorem ins20 (L : Lays P) : SlLaysF0.n20 P ren where
  mixed := L.mixed
  f20 := ⟨Try.f141.name, by kernel_rfl, L.insertionSortCmpFunc.trans (by kernel_rfl)⟩
  t0 := L.t0
  a0 := L.a0
  z0 := L.z0
  v0 := L.v0
  t3 := L.tI
  a3 := L.aI
  z3 := L.zI
  v3 := L.vI
  t4 := L.tB
  a4 := L.aB
  z4 := L.zB
  v4 := L.vB
  t22 := L.tS
  a22 := L.aS
  z22 := L.zS
  v22 := L.vS
  t25 := L.tF
  a25 := L.aF
  z25 := L.zF
  v25 := L.vF
theorem lt_eq (key : α → Int) : ltOf (cmpK key) = ltK key := by funext x y; exact cmpK_neg key x y
set_option maxHeartbeats 8000000 in
set_option maxRecDepth 1000000 in
theorem insertion (L : Lays P) (k : Nat) (aE : ∀ w, (isAgg 43).run P w = .ok true w) (zE : ∀ w, (Go.sizeOf 43).run P w = .ok k w) (enc : α → List Value) (key : α → Int) (tg : α → Nat) (g : Nat) (cb : Array Value) (eg : ∀ args w, (callFunc g args).run P w = .ok (.enter g args) w) (hcmp : ∀ (W : World) (x y : α), Calls P g (#[.agg (enc x).toArray, .agg (enc y).toArray] ++ cb) W fun e w' => e = .returned (.int .i64 (cmpK key x y)) ∧ ∃ q os', w' = grow (W.drewN q) os') (blk off cap a b : Nat) (d0 d : Array α) (w0 w : World)
    (R : RowK enc k w0 blk off d0) (hs : d0.size = d.size) (S : SWK enc k w0 blk off d w) (hab : a ≤ b) (hb : b ≤ d.size) (hsz : d.size < 4611686018427387904) :
    Calls P 141 #[.slice (some ⟨blk, off, none⟩) d.size cap, .int .i64 a, .int .i64 b, .func (.func g) #[] cb] w fun e w' => e = .returned (.tuple #[]) ∧ (Sort.insertionSort (ltK key) d a b).size = d.size ∧ SWK enc k w0 blk off (Sort.insertionSort (ltK key) d a b) w' := by
  have hc := AnyQ.insertionSortCmpFunc (ins20 L) k aE zE enc R.hk R.h1 (cmpK key) g cb blk off cap a b d w eg (fun _ _ _ _ x y => hcmp _ x y) (S.holds R.hblk R.hH hs.symm) (S.lt R.hblk) hab hb hsz
  change Calls P 141 _ _ _ at hc
  rw [lt_eq] at hc
  refine hc.mono ?_
  rintro e w' ⟨rfl, n, os, rfl⟩
  have hsz2 : (Sort.insertionSort (ltK key) d a b).size = d.size := by
    have : SWO (ltK key) := ⟨fun x => by simp [ltK], fun x y z h1 h2 => by simp only [ltK, decide_eq_true_eq] at *; omega, fun x y z h1 h2 => by simp only [ltK, decide_eq_false_iff_not] at *; omega⟩
    exact (insertionSort_holds this d a b hab hb).1.1
  exact ⟨rfl, hsz2, S.on R.hblk n _ os hsz2⟩
set_option maxHeartbeats 8000000 in
set_option maxRecDepth 1000000 in
theorem stable (L : Lays P) (k : Nat) (aE : ∀ w, (isAgg 43).run P w = .ok true w) (zE : ∀ w, (Go.sizeOf 43).run P w = .ok k w) (enc : α → List Value) (key : α → Int) (tg : α → Nat) (g : Nat) (cb : Array Value) (eg : ∀ args w, (callFunc g args).run P w = .ok (.enter g args) w) (hcmp : ∀ (W : World) (x y : α), Calls P g (#[.agg (enc x).toArray, .agg (enc y).toArray] ++ cb) W fun e w' => e = .returned (.int .i64 (cmpK key x y)) ∧ ∃ q os', w' = grow (W.drewN q) os') (blk off cap : Nat) (d0 d : Array α) (w0 w : World)
    (R : RowK enc k w0 blk off d0) (hs : d0.size = d.size) (S : SWK enc k w0 blk off d w) (h50 : d.size ≤ 50) (h0 : ∀ x, x < d.size → tg d[x]! = x) :
    Calls P 131 #[.slice (some ⟨blk, off, none⟩) d.size cap, .int .i64 d.size, .func (.func g) #[] cb] w fun e w' => e = .returned (.tuple #[]) ∧ ∃ d', StD key tg d.size d d' ∧ SWK enc k w0 blk off d' w' := by
  have t0 := L.t0; have a0 := L.a0; have z0 := L.z0; have v0 := L.v0
  have tI := L.tI; have aI := L.aI; have zI := L.zI; have vI := L.vI
  have tB := L.tB; have aB := L.aB; have zB := L.zB; have vB := L.vB
  have tS := L.tS; have aS := L.aS; have zS := L.zS; have vS := L.vS
  have tF := L.tF; have aF := L.aF; have zF := L.zF; have vF := L.vF
  have tU := L.tU; have aU := L.aU; have zU := L.zU; have vU := L.vU
  have mixed := L.mixed
  have u0 := run_underlying L.t0; have uI := run_underlying L.tI; have uB := run_underlying L.tB; have uS := run_underlying L.tS; have uF := run_underlying L.tF; have uU := run_underlying L.tU
  have e141 : ∀ args w, (callFunc 141 args).run P w = .ok (.enter 141 args) w := enters_of L.insertionSortCmpFunc (by kernel_rfl) rfl
  have e142 : ∀ args w, (callFunc 142 args).run P w = .ok (.enter 142 args) w := enters_of L.symMergeCmpFunc (by kernel_rfl) rfl
  have HC : Aside _ := hcmp
  have S0 : Aside (SWK enc k w0 blk off d w) := S
  have H0 : Aside (∀ x, x < d.size → tg d[x]! = x) := h0
  clear S hcmp h0
  go_enter L.stableCmpFunc, Try.ntmps131
  go_wp2_with fail
  go_loopg [7, 8] (d.size + 20) (fun kx s7 s8 wr => ∃ (t x y : Nat) (dk : Array α), s7 = .int .i64 x ∧ s8 = .int .i64 y ∧ 20 * t ≤ x ∧ x ≤ 20 * t ∧ x + 20 ≤ y ∧ y ≤ x + 20 ∧ x ≤ d.size ∧ d.size + 20 - x ≤ kx ∧ dk.size = d.size ∧ Aside (SWK enc k w0 blk off dk wr) ∧ Aside (StA key tg t d.size d dk))
  case atStart => exact ⟨0, 0, 20, d, rfl, rfl, by omega, by omega, by omega, by omega, by omega, by omega, rfl, S0, StA.start _ _⟩
  case round =>
    clear S0
    obtain ⟨t, x, y, dk, rfl, rfl, hx1, hx2, hy1, hy2, hxd, hkx, hds, S1, E⟩ := hrel
    have EX : Aside (x = 20 * t) := (by omega : x = 20 * t)
    have EY : Aside (y = 20 * t + 20) := (by omega : y = 20 * t + 20)
    by_cases hy : y ≤ d.size
    · have hyz : (y : Int) ≤ (d.size : Int) := by omega
      have hcall := insertion (P := P) L k aE zE enc key tg g cb eg HC.out blk off cap x y d0 dk w0 wr R (by omega) S1.out (by omega) (by omega) (by omega)
      rw [hds] at hcall
      clear S1
      have E2 : Aside (StA key tg (t + 1) d.size d (Sort.insertionSort (ltK key) dk x y)) := by have := E.out.step rfl H0.out (by omega); rw [EX.out, EY.out]; exact this
      generalize Sort.insertionSort (ltK key) dk x y = d2 at hcall E2
      go_wp2_with (go_at_fn 141; (with_reducible refine hcall.mono ?_); clear hcall; rintro e w1 ⟨rfl, hd2, S2⟩)
      have S3 : Aside (SWK enc k w0 blk off d2 w1) := S2
      clear S2
      go_roundg (d.size + 20 - y)
      case measure => omega
      case rel => exact ⟨t + 1, y, y + 20, d2, rfl, by go_num, by omega, by omega, by omega, by omega, by omega, by omega, hd2, S3, E2⟩
    · have hyz : ¬ (y : Int) ≤ (d.size : Int) := by omega
      have hcall := insertion (P := P) L k aE zE enc key tg g cb eg HC.out blk off cap x d.size d0 dk w0 wr R (by omega) S1.out (by omega) (by omega) (by omega)
      rw [hds] at hcall
      clear S1
      have E2 : Aside (StB key tg d.size d (Sort.insertionSort (ltK key) dk x d.size)) := by have := E.out.last rfl H0.out (by omega) (by omega) (by omega); rw [EX.out]; exact this
      generalize Sort.insertionSort (ltK key) dk x d.size = d2 at hcall E2
      go_wp2_with (go_at_fn 141; (with_reducible refine hcall.mono ?_); clear hcall; rintro e w1 ⟨rfl, hd2, S2⟩)
      have S3 : Aside (SWK enc k w0 blk off d2 w1) := S2
      clear S2 EX EY hx1 hx2 hy1 hy2 hxd hkx hy hyz
      go_loopg [6, 7, 8, 9] 3 (fun kx s6 _ _ _ wr => ∃ (dk : Array α), dk.size = d.size ∧ Aside (SWK enc k w0 blk off dk wr) ∧ (s6 = .int .i64 20 ∧ 2 ≤ kx ∧ Aside (StB key tg d.size d dk) ∨ s6 = .int .i64 40 ∧ 1 ≤ kx ∧ Aside (StC key tg d.size d dk) ∨ s6 = .int .i64 80 ∧ Aside (StD key tg d.size d dk)))
      case atStart => exact ⟨d2, hd2, S3, .inl ⟨rfl, by omega, E2⟩⟩
      case round =>
        clear S3 E2 hds
        obtain ⟨dk, hdk, S1, HR⟩ := hrel
        rcases HR with ⟨rfl, hk2, E⟩ | ⟨rfl, hk1, E⟩ | ⟨rfl, E⟩
        · by_cases h20 : 20 < d.size
          · have h20z : (20 : Int) < (d.size : Int) := by omega
            go_wp2_with fail
            go_loopg [7, 8] 1 (fun kx s7 s8 wr2 => ∃ (dj : Array α), dj.size = d.size ∧ Aside (SWK enc k w0 blk off dj wr2) ∧ (s7 = .int .i64 0 ∧ s8 = .int .i64 40 ∧ 1 ≤ kx ∧ Aside (StB key tg d.size d dj) ∨ s7 = .int .i64 40 ∧ s8 = .int .i64 80 ∧ 40 ≤ d.size ∧ Aside (StC key tg d.size d dj)))
            case atStart => exact ⟨dk, hdk, S1, .inl ⟨rfl, rfl, by omega, E⟩⟩
            case round =>
              clear S1 E hdk
              obtain ⟨dj, hdj, S1, HR⟩ := hrel
              rcases HR with ⟨rfl, rfl, hk3, E⟩ | ⟨rfl, rfl, h40, E⟩
              · by_cases h40 : 40 ≤ d.size
                · have h40z : (40 : Int) ≤ (d.size : Int) := by omega
                  have hmin : min 20 d.size = 20 ∧ min 40 d.size = 40 := by omega
                  have PR : Pre key tg 0 20 40 dj := by have := E.out.pre; rw [hmin.1, hmin.2] at this; exact this
                  have hcall := symMerge (P := P) L k aE zE enc key tg g cb eg HC.out 60 blk off cap 0 20 40 d0 dj w0 wr R (by omega) S1.out (by omega) (by omega) (by omega) (by omega) (by omega) (PR)
                  rw [hdj, show ((0 : Nat) : Int) = 0 from rfl, show ((20 : Nat) : Int) = 20 from rfl, show ((40 : Nat) : Int) = 40 from rfl] at hcall
                  clear S1 PR hmin
                  go_wp2_with (go_at_fn 142; (with_reducible refine hcall.mono ?_); clear hcall; rintro e w2 ⟨rfl, d3, hm, S2⟩)
                  have S3 : Aside (SWK enc k w0 blk off d3 w2) := S2
                  have E3 : Aside (StC key tg d.size d d3) := E.out.next rfl (by rw [show min 40 d.size = 40 by omega]; exact hm)
                  have hd3 : d3.size = d.size := by rw [hm.perm.1]; exact hdj
                  clear S2 hm
                  go_roundg 0
                  case measure => omega
                  case rel => exact ⟨d3, hd3, S3, .inr ⟨rfl, rfl, h40, E3⟩⟩
                · have h40z : ¬ (40 : Int) ≤ (d.size : Int) := by omega
                  have hmin : min 20 d.size = 20 ∧ min 40 d.size = d.size := by omega
                  have PR : Pre key tg 0 20 d.size dj := by have := E.out.pre; rw [hmin.1, hmin.2] at this; exact this
                  have hcall := symMerge (P := P) L k aE zE enc key tg g cb eg HC.out 60 blk off cap 0 20 d.size d0 dj w0 wr R (by omega) S1.out (by omega) (by omega) (by omega) (by omega) (by omega) (PR)
                  rw [hdj, show ((0 : Nat) : Int) = 0 from rfl, show ((20 : Nat) : Int) = 20 from rfl] at hcall
                  clear S1 PR hmin
                  go_wp2_with (go_at_fn 142; (with_reducible refine hcall.mono ?_); clear hcall; rintro e w2 ⟨rfl, d3, hm, S2⟩)
                  have S3 : Aside (SWK enc k w0 blk off d3 w2) := S2
                  have E3 : Aside (StC key tg d.size d d3) := E.out.next rfl (by rw [show min 40 d.size = d.size by omega]; exact hm)
                  have hd3 : d3.size = d.size := by rw [hm.perm.1]; exact hdj
                  clear S2 hm
                  go_roundg 1
                  case measure => omega
                  case rel => exact ⟨d3, hd3, S3, .inr (.inl ⟨rfl, by omega, E3⟩)⟩
              · have h80z : ¬ (80 : Int) ≤ (d.size : Int) := by omega
                have h60z : ¬ (60 : Int) < (d.size : Int) := by omega
                go_wp2_with fail
                go_roundg 1
                case measure => omega
                case rel => exact ⟨dj, hdj, S1, .inr (.inl ⟨rfl, by omega, E⟩)⟩
          · have h20z : ¬ (20 : Int) < (d.size : Int) := by omega
            go_wp2_with fail
            go_end0
            exact ⟨rfl, dk, E.out.end (by omega), S1.out⟩
        · by_cases h40 : 40 < d.size
          · have h40z : (40 : Int) < (d.size : Int) := by omega
            go_wp2_with fail
            go_loopg [7, 8] 1 (fun kx s7 s8 wr2 => ∃ (dj : Array α), dj.size = d.size ∧ Aside (SWK enc k w0 blk off dj wr2) ∧ s7 = .int .i64 0 ∧ s8 = .int .i64 80 ∧ Aside (StC key tg d.size d dj))
            case atStart => exact ⟨dk, hdk, S1, rfl, rfl, E⟩
            case round =>
              clear S1 E hdk
              obtain ⟨dj, hdj, S1, rfl, rfl, E⟩ := hrel
              have h80z : ¬ (80 : Int) ≤ (d.size : Int) := by omega
              have hmin : min 40 d.size = 40 := by omega
              have PR : Pre key tg 0 40 d.size dj := by have := E.out.pre; rw [hmin] at this; exact this
              have hcall := symMerge (P := P) L k aE zE enc key tg g cb eg HC.out 60 blk off cap 0 40 d.size d0 dj w0 wr R (by omega) S1.out (by omega) (by omega) (by omega) (by omega) (by omega) (PR)
              rw [hdj, show ((0 : Nat) : Int) = 0 from rfl, show ((40 : Nat) : Int) = 40 from rfl] at hcall
              clear S1 PR hmin
              go_wp2_with (go_at_fn 142; (with_reducible refine hcall.mono ?_); clear hcall; rintro e w2 ⟨rfl, d3, hm, S2⟩)
              have S3 : Aside (SWK enc k w0 blk off d3 w2) := S2
              have E3 : Aside (StD key tg d.size d d3) := E.out.next rfl hm
              have hd3 : d3.size = d.size := by rw [hm.perm.1]; exact hdj
              clear S2 hm
              go_roundg 0
              case measure => omega
              case rel => exact ⟨d3, hd3, S3, .inr (.inr ⟨rfl, E3⟩)⟩
          · have h40z : ¬ (40 : Int) < (d.size : Int) := by omega
            go_wp2_with fail
            go_end0
            exact ⟨rfl, dk, E.out.end (by omega), S1.out⟩
        · have h80z : ¬ (80 : Int) < (d.size : Int) := by omega
          go_wp2_with fail
          go_end0
          exact ⟨rfl, dk, E.out, S1.out⟩
set_option maxHeartbeats 8000000 in
set_option maxRecDepth 1000000 in
theorem sortStable (L : Lays P) (k : Nat) (aE : ∀ w, (isAgg 43).run P w = .ok true w) (zE : ∀ w, (Go.sizeOf 43).run P w = .ok k w) (enc : α → List Value) (key : α → Int) (tg : α → Nat) (g : Nat) (cb : Array Value) (eg : ∀ args w, (callFunc g args).run P w = .ok (.enter g args) w) (hcmp : ∀ (W : World) (x y : α), Calls P g (#[.agg (enc x).toArray, .agg (enc y).toArray] ++ cb) W fun e w' => e = .returned (.int .i64 (cmpK key x y)) ∧ ∃ q os', w' = grow (W.drewN q) os') (blk off cap : Nat) (d : Array α) (w : World)
    (R : RowK enc k w blk off d) (h50 : d.size ≤ 50) (h0 : ∀ x, x < d.size → tg d[x]! = x) :
    Calls P 98 #[.slice (some ⟨blk, off, none⟩) d.size cap, .func (.func g) #[] cb] w fun e w' => e = .returned (.tuple #[]) ∧ ∃ d', StD key tg d.size d d' ∧ SWK enc k w blk off d' w' := by
  have t0 := L.t0; have a0 := L.a0; have z0 := L.z0; have v0 := L.v0
  have tI := L.tI; have aI := L.aI; have zI := L.zI; have vI := L.vI
  have tB := L.tB; have aB := L.aB; have zB := L.zB; have vB := L.vB
  have tS := L.tS; have aS := L.aS; have zS := L.zS; have vS := L.vS
  have tF := L.tF; have aF := L.aF; have zF := L.zF; have vF := L.vF
  have tU := L.tU; have aU := L.aU; have zU := L.zU; have vU := L.vU
  have mixed := L.mixed
  have u0 := run_underlying L.t0; have uI := run_underlying L.tI; have uB := run_underlying L.tB; have uS := run_underlying L.tS; have uF := run_underlying L.tF; have uU := run_underlying L.tU
  have e131 : ∀ args w, (callFunc 131 args).run P w = .ok (.enter 131 args) w := enters_of L.stableCmpFunc (by kernel_rfl) rfl
  have hcall := stable (P := P) L k aE zE enc key tg g cb eg hcmp blk off cap d d w w R rfl (SWK.start R.hH) h50 h0
  clear hcmp h0
  go_enter L.SortStableFunc, Try.ntmps98
  go_wp2_with (go_at_fn 131; (with_reducible refine hcall.mono ?_); clear hcall; rintro e w1 ⟨rfl, d2, h1, S2⟩)
  go_end0
  exact ⟨rfl, d2, h1, S2⟩
set_option maxHeartbeats 8000000 in
set_option maxRecDepth 1000000 in
theorem insertion_nil (L : Lays P) (p : Option Addr) (cap : Nat) (fv : Value) (w : World) : Calls P 141 #[.slice p 0 cap, .int .i64 0, .int .i64 0, fv] w fun e w' => e = .returned (.tuple #[]) ∧ w' = w := by
  have t0 := L.t0; have a0 := L.a0; have z0 := L.z0; have v0 := L.v0
  have tI := L.tI; have aI := L.aI; have zI := L.zI; have vI := L.vI
  have tB := L.tB; have aB := L.aB; have zB := L.zB; have vB := L.vB
  have tS := L.tS; have aS := L.aS; have zS := L.zS; have vS := L.vS
  have tF := L.tF; have aF := L.aF; have zF := L.zF; have vF := L.vF
  have tU := L.tU; have aU := L.aU; have zU := L.zU; have vU := L.vU
  have mixed := L.mixed
  have u0 := run_underlying L.t0; have uI := run_underlying L.tI; have uB := run_underlying L.tB; have uS := run_underlying L.tS; have uF := run_underlying L.tF; have uU := run_underlying L.tU
  go_enter L.insertionSortCmpFunc, Try.ntmps141
  go_wp2
  go_loopg [8] 0 (fun _ s8 wr => s8 = .int .i64 1 ∧ wr = w)
  case atStart => exact ⟨rfl, rfl⟩
  case round =>
    obtain ⟨rfl, rfl⟩ := hrel
    go_wp2
    go_end0
    exact ⟨rfl, rfl⟩
set_option maxHeartbeats 8000000 in
set_option maxRecDepth 1000000 in
theorem stable_nil (L : Lays P) (p : Option Addr) (cap : Nat) (fv : Value) (w : World) : Calls P 131 #[.slice p 0 cap, .int .i64 0, fv] w fun e w' => e = .returned (.tuple #[]) ∧ w' = w := by
  have t0 := L.t0; have a0 := L.a0; have z0 := L.z0; have v0 := L.v0
  have tI := L.tI; have aI := L.aI; have zI := L.zI; have vI := L.vI
  have tB := L.tB; have aB := L.aB; have zB := L.zB; have vB := L.vB
  have tS := L.tS; have aS := L.aS; have zS := L.zS; have vS := L.vS
  have tF := L.tF; have aF := L.aF; have zF := L.zF; have vF := L.vF
  have tU := L.tU; have aU := L.aU; have zU := L.zU; have vU := L.vU
  have mixed := L.mixed
  have u0 := run_underlying L.t0; have uI := run_underlying L.tI; have uB := run_underlying L.tB; have uS := run_underlying L.tS; have uF := run_underlying L.tF; have uU := run_underlying L.tU
  have e141 : ∀ args w, (callFunc 141 args).run P w = .ok (.enter 141 args) w := enters_of L.insertionSortCmpFunc (by kernel_rfl) rfl
  have hcall := fun W => insertion_nil L p cap fv W
  go_enter L.stableCmpFunc, Try.ntmps131
  go_wp2_with fail
  go_loopg [7, 8] 0 (fun _ s7 s8 wr => s7 = .int .i64 0 ∧ s8 = .int .i64 20 ∧ wr = w)
  case atStart => exact ⟨rfl, rfl, rfl⟩
  case round =>
    obtain ⟨rfl, rfl, rfl⟩ := hrel
    go_wp2_with (go_at_fn 141; refine (hcall _).mono ?_; rintro e w1 ⟨rfl, rfl⟩)
    go_loopg [6, 7, 8, 9] 0 (fun _ s6 _ _ _ wr => s6 = .int .i64 20 ∧ wr = w1)
    case atStart => exact ⟨rfl, rfl⟩
    case round =>
      obtain ⟨rfl, rfl⟩ := hrel
      go_wp2_with fail
      go_end0
      exact ⟨rfl, rfl⟩
set_option maxHeartbeats 8000000 in
set_option maxRecDepth 1000000 in
theorem sortStable_nil (L : Lays P) (p : Option Addr) (cap : Nat) (fv : Value) (w : World) : Calls P 98 #[.slice p 0 cap, fv] w fun e w' => e = .returned (.tuple #[]) ∧ w' = w := by
  have t0 := L.t0; have a0 := L.a0; have z0 := L.z0; have v0 := L.v0
  have tI := L.tI; have aI := L.aI; have zI := L.zI; have vI := L.vI
  have tB := L.tB; have aB := L.aB; have zB := L.zB; have vB := L.vB
  have tS := L.tS; have aS := L.aS; have zS := L.zS; have vS := L.vS
  have tF := L.tF; have aF := L.aF; have zF := L.zF; have vF := L.vF
  have tU := L.tU; have aU := L.aU; have zU := L.zU; have vU := L.vU
  have mixed := L.mixed
  have u0 := run_underlying L.t0; have uI := run_underlying L.tI; have uB := run_underlying L.tB; have uS := run_underlying L.tS; have uF := run_underlying L.tF; have uU := run_underlying L.tU
  have e131 : ∀ args w, (callFunc 131 args).run P w = .ok (.enter 131 args) w := enters_of L.stableCmpFunc (by kernel_rfl) rfl
  have hcall := fun W => stable_nil L p cap fv W
  go_enter L.SortStableFunc, Try.ntmps98
  go_wp2_with (go_at_fn 131; refine (hcall _).mono ?_; rintro e w1 ⟨rfl, rfl⟩)
  go_end0
  exact ⟨rfl, rfl⟩
end Go.Proofs.Ytanokgpnmbbajaa.SortLot
end
