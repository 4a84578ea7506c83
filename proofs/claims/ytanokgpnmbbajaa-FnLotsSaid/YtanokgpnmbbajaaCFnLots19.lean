-- Gathered by this session's program wip/tool/shake.py out of its own texts and of what the kit's print and the session's patches of it wrote for this claim.
import Derived.Test.YtanokgpnmbbajaaProg
import Derived.ArgAppend
import Derived.Below
import Derived.BigQuiet
import Derived.Deep.AppendLies
import Derived.Deep.CutBlock
import Derived.Deep.DeepCutAuto
import Derived.Deep.Draws
import Derived.Deep.LoopGhost
import Derived.Deep.OwnRows
import Derived.Deep.QuietTactic
import Derived.Deep.RegionHeld3
import Derived.KernelRfl
import Derived.Laws.BytesArg
import Derived.Laws.IdiomCopy
import Derived.Laws.MakeOwn
import Derived.Laws.OwnMore
import Derived.Laws.Rows
import Derived.Laws.Slices
import Derived.Lib.AppendStr
import Derived.Lib.ConvBytes
import Derived.Maps.AppendAt
import Derived.OwnWalk
import Derived.RowKit
import Derived.RowKit3
import Derived.Shelf.SlSortCmp.KitK
import Derived.Sort.LotA
import Derived.Sort.WalkB12
import Derived.Sort.WalkB2
import Derived.Tactics
import Derived.WalkKit
import Derived.WideLaws
import Derived.Test.YtanokgpnmbbajaaCFnLots13
import Derived.Test.YtanokgpnmbbajaaCFnLots18
section
namespace Go.Proofs.Ytanokgpnmbbajaa.SortLot
open Go Go.Proofs Go.Shelf Go.RowKit Go.Lib Go.Sort Go.Proofs.Ytanokgpnmbbajaa.Stab Go.Proofs.Ytanokgpnmbbajaa.RowKk
set_option linter.unusedVariables false
set_option linter.unusedSimpArgs false
/-- What these walks ask of the program. -/
structure Lays (P : Program) : Prop where
  mixed : P.follows .mixedOrders = true
  swapRangeCmpFunc : P.funcs[150]? = some Try.f150
  rotateCmpFunc : P.funcs[147]? = some Try.f147
  symMergeCmpFunc : P.funcs[142]? = some Try.f142
  insertionSortCmpFunc : P.funcs[141]? = some Try.f141
  stableCmpFunc : P.funcs[131]? = some Try.f131
  SortStableFunc : P.funcs[98]? = some Try.f98
  t0 : P.underlying 0 = some (TypeDesc.tuple #[])
  a0 : ∀ w, (isAgg 0).run P w = .ok false w
  z0 : ∀ w, (Go.sizeOf 0).run P w = .ok 1 w
  v0 : ∀ w, (zeroValue 0).run P w = .ok (Value.tuple #[]) w
  tI : P.underlying 3 = some (TypeDesc.int IntKind.i64)
  aI : ∀ w, (isAgg 3).run P w = .ok false w
  zI : ∀ w, (Go.sizeOf 3).run P w = .ok 1 w
  vI : ∀ w, (zeroValue 3).run P w = .ok (Value.int IntKind.i64 0) w
  tB : P.underlying 4 = some (TypeDesc.bool)
  aB : ∀ w, (isAgg 4).run P w = .ok false w
  zB : ∀ w, (Go.sizeOf 4).run P w = .ok 1 w
  vB : ∀ w, (zeroValue 4).run P w = .ok (Value.bool false) w
  tS : P.underlying 24 = some (TypeDesc.slice 43)
  aS : ∀ w, (isAgg 24).run P w = .ok false w
  zS : ∀ w, (Go.sizeOf 24).run P w = .ok 1 w
  vS : ∀ w, (zeroValue 24).run P w = .ok (Value.slice none 0 0) w
  tF : P.underlying 99 = some (TypeDesc.func #[43, 43] #[3] false)
  aF : ∀ w, (isAgg 99).run P w = .ok false w
  zF : ∀ w, (Go.sizeOf 99).run P w = .ok 1 w
  vF : ∀ w, (zeroValue 99).run P w = .ok (Value.nilFunc) w
  tU : P.underlying 137 = some (TypeDesc.int IntKind.u64)
  aU : ∀ w, (isAgg 137).run P w = .ok false w
  zU : ∀ w, (Go.sizeOf 137).run P w = .ok 1 w
  vU : ∀ w, (zeroValue 137).run P w = .ok (Value.int IntKind.u64 0) w
theorem lays : Lays Try.prog where
  mixed := by kernel_rfl
  swapRangeCmpFunc := Try.func150
  rotateCmpFunc := Try.func147
  symMergeCmpFunc := Try.func142
  insertionSortCmpFunc := Try.func141
  stableCmpFunc := Try.func131
  SortStableFunc := Try.func98
  t0 := Try.underlying0
  a0 := Try.isAgg0
  z0 := Try.sizeOf0
  v0 := Try.zeroValue0
  tI := Try.underlying3
  aI := Try.isAgg3
  zI := Try.sizeOf3
  vI := Try.zeroValue3
  tB := Try.underlying4
  aB := Try.isAgg4
  zB := Try.sizeOf4
  vB := Try.zeroValue4
  tS := Try.underlying24
  aS := Try.isAgg24
  zS := Try.sizeOf24
  vS := Try.zeroValue24
  tF := Try.underlying99
  aF := Try.isAgg99
  zF := Try.sizeOf99
  vF := Try.zeroValue99
  tU := Try.underlying137
  aU := Try.isAgg137
  zU := Try.sizeOf137
  vU := Try.zeroValue137
variable {P : Program} {α : Type} [Inhabited α]
set_option maxHeartbeats 8000000 in
set_option maxRecDepth 1000000 in
theorem swapRange (L : Lays P) (k : Nat) (aE : ∀ w, (isAgg 43).run P w = .ok true w) (zE : ∀ w, (Go.sizeOf 43).run P w = .ok k w) (enc : α → List Value) (g : Nat) (cb : Array Value) (blk off cap a b n : Nat) (d0 d : Array α) (w0 w : World)
    (R : RowK enc k w0 blk off d0) (hs : d0.size = d.size) (S : SWK enc k w0 blk off d w) (hab : a + n ≤ b) (hb : b + n ≤ d.size) (hsz : d.size < 4611686018427387904) :
    Calls P 150 #[.slice (some ⟨blk, off, none⟩) d.size cap, .int .i64 a, .int .i64 b, .int .i64 n, .func (.func g) #[] cb] w fun e w' => e = .returned (.tuple #[]) ∧ ∃ d', Swr a b n d d' ∧ SWK enc k w0 blk off d' w' := by
  have t0 := L.t0; have a0 := L.a0; have z0 := L.z0; have v0 := L.v0
  have tI := L.tI; have aI := L.aI; have zI := L.zI; have vI := L.vI
  have tB := L.tB; have aB := L.aB; have zB := L.zB; have vB := L.vB
  have tS := L.tS; have aS := L.aS; have zS := L.zS; have vS := L.vS
  have tF := L.tF; have aF := L.aF; have zF := L.zF; have vF := L.vF
  have tU := L.tU; have aU := L.aU; have zU := L.zU; have vU := L.vU
  have mixed := L.mixed
  have u0 := run_underlying L.t0; have uI := run_underlying L.tI; have uB := run_underlying L.tB; have uS := run_underlying L.tS; have uF := run_underlying L.tF; have uU := run_underlying L.tU
  have S0 : Aside (SWK enc k w0 blk off d w) := S
  clear S
  go_enter L.swapRangeCmpFunc, Try.ntmps150
  go_wp2
  go_loopg [10] n (fun kx s10 wr => ∃ (i : Nat) (dk : Array α), s10 = .int .i64 i ∧ i ≤ n ∧ n - i ≤ kx ∧ dk.size = d.size ∧ Aside (SWK enc k w0 blk off dk wr) ∧ Aside (Swr a b i d dk))
  case atStart => exact ⟨0, d, rfl, Nat.zero_le _, by omega, rfl, S0, Swr.start a b d (by omega)⟩
  case round =>
    clear S0
    obtain ⟨i, dk, rfl, hin, hkx, hds, S1, E⟩ := hrel
    by_cases hlt : i < n
    · have hltz : (i : Int) < (n : Int) := by omega
      go_wp2_with fail
      have ea31 : ((a : Int) + (i : Int)).toNat = a + i := by omega
      have pa31 : (0 : Int) ≤ (a : Int) + (i : Int) := by omega
      have ba31 : (a : Int) + (i : Int) < (d.size : Int) := by omega
      have ra31 : IntKind.i64.wrap ((a : Int) + (i : Int)) = (a : Int) + (i : Int) := by rw [IntKind.wrap_i64]; omega
      have ec31 : ((b : Int) + (i : Int)).toNat = b + i := by omega
      have pc31 : (0 : Int) ≤ (b : Int) + (i : Int) := by omega
      have bc31 : (b : Int) + (i : Int) < (d.size : Int) := by omega
      have rc31 : IntKind.i64.wrap ((b : Int) + (i : Int)) = (b : Int) + (i : Int) := by rw [IntKind.wrap_i64]; omega
      have S2 : Aside (SWK enc k w0 blk off (swp dk (a + i) (b + i)) ((wr.drew.setCells blk (off + (a + i) * k) (enc dk[b + i]!)).setCells blk (off + (b + i) * k) (enc dk[a + i]!))) := S1.out.swapped R (a + i) (b + i) (by omega) (by omega)
      have l31a := S1.out.ld1 R (by omega) P (a + i) (by omega)
      have l31b := S1.out.ld1 R (by omega) P (b + i) (by omega)
      have s31a := S1.out.st1 R (by omega) P (a + i) (by omega) dk[b + i]!
      have s31b := S1.out.st2 R (by omega) P (a + i) (b + i) (by omega) (by omega) dk[b + i]! dk[a + i]!
      have n31a : (enc dk[a + i]!).length = k := R.hk _
      have n31b : (enc dk[b + i]!).length = k := R.hk _
      generalize enc dk[a + i]! = cI31 at S2 l31a s31b n31a
      generalize enc dk[b + i]! = cJ31 at S2 l31b s31a s31b n31b
      clear S1
      go_wp2_with fail
      go_big_region_o
      clear l31a l31b s31a s31b
      generalize (wr.drew.setCells blk (off + (a + i) * k) cJ31).setCells blk (off + (b + i) * k) cI31 = w2 at S2 ⊢
      go_wp2
      go_roundg (n - (i + 1))
      case measure => omega
      case rel => exact ⟨i + 1, swp dk (a + i) (b + i), by go_num, by omega, Nat.le_refl _, by rw [size_swp]; exact hds, S2, E.out.step (by omega) (by omega)⟩
    · have hltz : ¬ (i : Int) < (n : Int) := by omega
      have hin' : i = n := by omega
      go_wp2
      go_end0
      subst hin'
      exact ⟨rfl, dk, E.out, S1.out⟩
set_option maxHeartbeats 8000000 in
set_option maxRecDepth 1000000 in
theorem rotate (L : Lays P) (k : Nat) (aE : ∀ w, (isAgg 43).run P w = .ok true w) (zE : ∀ w, (Go.sizeOf 43).run P w = .ok k w) (enc : α → List Value) (g : Nat) (cb : Array Value) (blk off cap a m b : Nat) (d0 d : Array α) (w0 w : World)
    (R : RowK enc k w0 blk off d0) (hs : d0.size = d.size) (S : SWK enc k w0 blk off d w) (ham : a < m) (hmb : m < b) (hb : b ≤ d.size) (hsz : d.size < 4611686018427387904) :
    Calls P 147 #[.slice (some ⟨blk, off, none⟩) d.size cap, .int .i64 a, .int .i64 m, .int .i64 b, .func (.func g) #[] cb] w fun e w' => e = .returned (.tuple #[]) ∧ ∃ d', Rot a m b d d' ∧ SWK enc k w0 blk off d' w' := by
  have t0 := L.t0; have a0 := L.a0; have z0 := L.z0; have v0 := L.v0
  have tI := L.tI; have aI := L.aI; have zI := L.zI; have vI := L.vI
  have tB := L.tB; have aB := L.aB; have zB := L.zB; have vB := L.vB
  have tS := L.tS; have aS := L.aS; have zS := L.zS; have vS := L.vS
  have tF := L.tF; have aF := L.aF; have zF := L.zF; have vF := L.vF
  have tU := L.tU; have aU := L.aU; have zU := L.zU; have vU := L.vU
  have mixed := L.mixed
  have u0 := run_underlying L.t0; have uI := run_underlying L.tI; have uB := run_underlying L.tB; have uS := run_underlying L.tS; have uF := run_underlying L.tF; have uU := run_underlying L.tU
  have e150 : ∀ args w, (callFunc 150 args).run P w = .ok (.enter 150 args) w := enters_of L.swapRangeCmpFunc (by kernel_rfl) rfl
  have S0 : Aside (SWK enc k w0 blk off d w) := S
  clear S
  have c1 : ((m - a : Nat) : Int) = (m : Int) - (a : Int) := by omega
  have c2 : ((b - m : Nat) : Int) = (b : Int) - (m : Int) := by omega
  go_enter L.rotateCmpFunc, Try.ntmps147
  go_wp2
  go_loopg [10, 11] (b - a) (fun kx s10 s11 wr => ∃ (i j : Nat) (dk : Array α), s10 = .int .i64 i ∧ s11 = .int .i64 j ∧ i + j ≤ kx ∧ i ≤ m ∧ m + j ≤ d.size ∧ 0 < i ∧ 0 < j ∧ dk.size = d.size ∧ Aside (SWK enc k w0 blk off dk wr) ∧ Aside (Rotting a m b i j d dk))
  case atStart => exact ⟨m - a, b - m, d, by rw [c1], by rw [c2], by omega, by omega, by omega, by omega, by omega, rfl, S0, Rotting.start d ham hmb⟩
  case round =>
    clear S0 c1 c2
    obtain ⟨i, j, dk, rfl, rfl, hkx, him, hjd, hi0, hj0, hds, S1, E⟩ := hrel
    have q1 : IntKind.i64.wrap ((m : Int) - (i : Int)) = (m : Int) - (i : Int) := by rw [IntKind.wrap_i64]; omega
    have q2 : ((m - i : Nat) : Int) = (m : Int) - (i : Int) := by omega
    rcases Nat.lt_trichotomy i j with hij | hij | hij
    · have hijz : ¬ (j : Int) < (i : Int) := by omega
      have hne : ((i : Int) == (j : Int)) = false := beq_eq_false_iff_ne.2 (by omega)
      have hne2 : ((i : Int) != (j : Int)) = true := by simp only [bne, hne]; rfl
      have q3 : IntKind.i64.wrap ((m : Int) + (j : Int)) = (m : Int) + (j : Int) := by rw [IntKind.wrap_i64]; omega
      have q4 : IntKind.i64.wrap ((m : Int) + (j : Int) - (i : Int)) = (m : Int) + (j : Int) - (i : Int) := by rw [IntKind.wrap_i64]; omega
      have q5 : ((m + j - i : Nat) : Int) = (m : Int) + (j : Int) - (i : Int) := by omega
      have hcall := swapRange (P := P) L k aE zE enc g cb blk off cap (m - i) (m + j - i) (i) d0 dk w0 wr R (by omega) S1.out (by omega) (by omega) (by omega)
      rw [q2, q5, hds] at hcall
      clear S1
      go_wp2_with (go_at_fn 150; refine hcall.mono ?_; rintro e w1 ⟨rfl, d2, hsw, S2⟩)
      have S3 : Aside (SWK enc k w0 blk off d2 w1) := S2
      have E2 : Aside (Rotting a m b i (j - i) d d2) := E.out.less hij (by omega) hsw
      have hd2 : d2.size = d.size := by rw [hsw.perm.1]; exact hds
      clear S2 hsw hcall q1 q2 q3 q4 q5
      go_roundg (j)
      case measure => omega
      case rel => exact ⟨i, j - i, d2, rfl, by congr 1; rw [show ((j - i : Nat) : Int) = (j : Int) - (i : Int) by omega], by omega, him, by omega, hi0, by omega, hd2, S3, E2⟩
    · subst hij
      have hcall := swapRange (P := P) L k aE zE enc g cb blk off cap (m - i) (m) (i) d0 dk w0 wr R (by omega) S1.out (by omega) (by omega) (by omega)
      rw [q2, hds] at hcall
      have E0 : Aside (Rotting a m b i i d dk) := E
      clear S1 E
      go_wp2_with (go_at_fn 150; refine hcall.mono ?_; rintro e w1 ⟨rfl, d2, hsw, S2⟩)
      go_end0
      exact ⟨rfl, d2, E0.out.stop (by omega) hsw, S2⟩
    · have hijz : (j : Int) < (i : Int) := by omega
      have hne : ((i : Int) == (j : Int)) = false := beq_eq_false_iff_ne.2 (by omega)
      have hne2 : ((i : Int) != (j : Int)) = true := by simp only [bne, hne]; rfl
      have hcall := swapRange (P := P) L k aE zE enc g cb blk off cap (m - i) (m) (j) d0 dk w0 wr R (by omega) S1.out (by omega) (by omega) (by omega)
      rw [q2, hds] at hcall
      clear S1
      go_wp2_with (go_at_fn 150; refine hcall.mono ?_; rintro e w1 ⟨rfl, d2, hsw, S2⟩)
      have S3 : Aside (SWK enc k w0 blk off d2 w1) := S2
      have E2 : Aside (Rotting a m b (i - j) j d d2) := E.out.more hij (by omega) hsw
      have hd2 : d2.size = d.size := by rw [hsw.perm.1]; exact hds
      clear S2 hsw hcall q1 q2
      go_roundg (i)
      case measure => omega
      case rel => exact ⟨i - j, j, d2, by congr 1; rw [show ((i - j : Nat) : Int) = (i : Int) - (j : Int) by omega], rfl, by omega, by omega, hjd, by omega, hj0, hd2, S3, E2⟩
set_option maxHeartbeats 8000000 in
set_option maxRecDepth 1000000 in
theorem symMerge (L : Lays P) (k : Nat) (aE : ∀ w, (isAgg 43).run P w = .ok true w) (zE : ∀ w, (Go.sizeOf 43).run P w = .ok k w) (enc : α → List Value) (key : α → Int) (tg : α → Nat) (g : Nat) (cb : Array Value) (eg : ∀ args w, (callFunc g args).run P w = .ok (.enter g args) w) (hcmp : ∀ (W : World) (x y : α), Calls P g (#[.agg (enc x).toArray, .agg (enc y).toArray] ++ cb) W fun e w' => e = .returned (.int .i64 (cmpK key x y)) ∧ ∃ q os', w' = grow (W.drewN q) os') : ∀ (N : Nat) (blk off cap a m b : Nat) (d0 d : Array α) (w0 w : World)
    (R : RowK enc k w0 blk off d0) (hs : d0.size = d.size) (S : SWK enc k w0 blk off d w) (ham : a < m) (hmb : m < b) (hb : b ≤ d.size) (hsz : d.size < 4611686018427387904) (hN : b - a ≤ N) (hpre : Pre key tg a m b d),
    Calls P 142 #[.slice (some ⟨blk, off, none⟩) d.size cap, .int .i64 a, .int .i64 m, .int .i64 b, .func (.func g) #[] cb] w fun e w' => e = .returned (.tuple #[]) ∧ ∃ d', Merged key tg a b d d' ∧ SWK enc k w0 blk off d' w' := by
  intro N
  induction N with
  | zero => intro blk off cap a m b d0 d w0 w R hs S ham hmb hb hsz hN hpre; omega
  | succ N ih =>
  intro blk off cap a m b d0 d w0 w R hs S ham hmb hb hsz hN hpre
  have t0 := L.t0; have a0 := L.a0; have z0 := L.z0; have v0 := L.v0
  have tI := L.tI; have aI := L.aI; have zI := L.zI; have vI := L.vI
  have tB := L.tB; have aB := L.aB; have zB := L.zB; have vB := L.vB
  have tS := L.tS; have aS := L.aS; have zS := L.zS; have vS := L.vS
  have tF := L.tF; have aF := L.aF; have zF := L.zF; have vF := L.vF
  have tU := L.tU; have aU := L.aU; have zU := L.zU; have vU := L.vU
  have mixed := L.mixed
  have u0 := run_underlying L.t0; have uI := run_underlying L.tI; have uB := run_underlying L.tB; have uS := run_underlying L.tS; have uF := run_underlying L.tF; have uU := run_underlying L.tU
  have e147 : ∀ args w, (callFunc 147 args).run P w = .ok (.enter 147 args) w := enters_of L.rotateCmpFunc (by kernel_rfl) rfl
  have e142 : ∀ args w, (callFunc 142 args).run P w = .ok (.enter 142 args) w := enters_of L.symMergeCmpFunc (by kernel_rfl) rfl
  have HC : Aside (CmpLays P g cb enc k (cmpK key) blk off d0.size w0) := fun m os dk _ x y => hcmp _ x y
  have IH : Aside _ := ih
  have PRE : Aside (Pre key tg a m b d) := hpre
  have S0 : Aside (SWK enc k w0 blk off d w) := S
  clear S hcmp ih hpre
  by_cases hA : m = a + 1
  · have hAz : (m : Int) - (a : Int) = 1 := by omega
    have PRE1 : Aside (Pre key tg a (a + 1) b d) := by have := PRE.out; rw [hA] at this; exact this
    have hA1 : m ≤ a + 1 := by omega
    have HA : Aside (m = a + 1) := hA
    clear hA
    go_enter L.symMergeCmpFunc, Try.ntmps142
    go_wp2_with fail
    go_loopg [10, 11, 12] (b - m) (fun kx s10 s11 _ wr => ∃ i j : Nat, s10 = .int .i64 i ∧ s11 = .int .i64 j ∧ m ≤ i ∧ i ≤ j ∧ j ≤ b ∧ j - i ≤ kx ∧ Aside (SWK enc k w0 blk off d wr) ∧ Aside (BS (fun x => ltK key d[x]! d[a]!) (a + 1) b i j))
    case atStart => exact ⟨m, b, rfl, rfl, Nat.le_refl _, by omega, Nat.le_refl _, Nat.le_refl _, S0, (by rw [HA.out]; exact BS.start _ (by have := HA.out; omega) : BS (fun x => ltK key d[x]! d[a]!) (a + 1) b m b)⟩
    case round =>
      clear S0
      obtain ⟨i, j, rfl, rfl, hmi, hij, hjb, hkx, S1, I⟩ := hrel
      by_cases hlt : i < j
      · have hltz : (i : Int) < (j : Int) := by omega
        go_wp2_with fail
        obtain ⟨h, hih, hhj, hz⟩ : ∃ h : Nat, i ≤ h ∧ h < j ∧ ((i : Int) + (j : Int)) / 2 = (h : Int) := ⟨(i + j) / 2, by omega, by omega, by omega⟩
        rw [hz]
        clear hz
        cases hL : ltK key d[h]! d[a]! with
        | true =>
          have ea41 : ((h : Int)).toNat = h := by omega
          have pa41 : (0 : Int) ≤ (h : Int) := by omega
          have ba41 : (h : Int) < (d.size : Int) := by omega
          have ra41 : IntKind.i64.wrap ((h : Int)) = (h : Int) := by rw [IntKind.wrap_i64]; omega
          have ec41 : ((a : Int)).toNat = a := by omega
          have pc41 : (0 : Int) ≤ (a : Int) := by omega
          have bc41 : (a : Int) < (d.size : Int) := by omega
          have rc41 : IntKind.i64.wrap ((a : Int)) = (a : Int) := by rw [IntKind.wrap_i64]; omega
          obtain ⟨x41, hx41⟩ : ∃ x, x = d[h]! := ⟨_, rfl⟩
          obtain ⟨y41, hy41⟩ : ∃ x, x = d[a]! := ⟨_, rfl⟩
          have l41a := S1.out.ld R (by omega) P (h) (by omega)
          have l41b := S1.out.ld R (by omega) P (a) (by omega)
          rw [← hx41] at l41a
          rw [← hy41] at l41b
          have hc41 := S1.out.cmp HC.out (by omega) x41 y41
          have hv41 : cmpK key x41 y41 < 0 := by rw [hx41, hy41]; exact of_decide_eq_true ((cmpK_neg key _ _).trans hL)
          have hd41 : decide (cmpK key x41 y41 < 0) = true := decide_eq_true hv41
          clear hx41 hy41
          generalize cmpK key x41 y41 = cv41 at hc41 hv41 hd41
          go_wp2_with fail
          go_quiet_grown (first | (go_at_fn g; refine Calls.grown_of (hc41 _ _)))
          have S2 : Aside (SWK enc k w0 blk off d (grow (wr.drewN nq) osq)) := S1.out.grown nq osq
          clear l41a l41b hc41 hv41 hd41 S1
          generalize grow (wr.drewN nq) osq = w2 at S2 ⊢
          clear nq osq
          have I2 : Aside (BS (fun x => ltK key d[x]! d[a]!) (a + 1) b (h + 1) j) := I.out.up PRE1.out.mono1 (by omega) (by omega) hL
          clear I hL
          go_wp2_with fail
          go_roundg (j - (h + 1))
          case measure => omega
          case rel => exact ⟨h + 1, j, by go_num, rfl, by omega, by omega, hjb, Nat.le_refl _, S2, I2⟩
        | false =>
          have ea42 : ((h : Int)).toNat = h := by omega
          have pa42 : (0 : Int) ≤ (h : Int) := by omega
          have ba42 : (h : Int) < (d.size : Int) := by omega
          have ra42 : IntKind.i64.wrap ((h : Int)) = (h : Int) := by rw [IntKind.wrap_i64]; omega
          have ec42 : ((a : Int)).toNat = a := by omega
          have pc42 : (0 : Int) ≤ (a : Int) := by omega
          have bc42 : (a : Int) < (d.size : Int) := by omega
          have rc42 : IntKind.i64.wrap ((a : Int)) = (a : Int) := by rw [IntKind.wrap_i64]; omega
          obtain ⟨x42, hx42⟩ : ∃ x, x = d[h]! := ⟨_, rfl⟩
          obtain ⟨y42, hy42⟩ : ∃ x, x = d[a]! := ⟨_, rfl⟩
          have l42a := S1.out.ld R (by omega) P (h) (by omega)
          have l42b := S1.out.ld R (by omega) P (a) (by omega)
          rw [← hx42] at l42a
          rw [← hy42] at l42b
          have hc42 := S1.out.cmp HC.out (by omega) x42 y42
          have hv42 : ¬ cmpK key x42 y42 < 0 := by rw [hx42, hy42]; exact of_decide_eq_false ((cmpK_neg key _ _).trans hL)
          have hd42 : decide (cmpK key x42 y42 < 0) = false := decide_eq_false hv42
          clear hx42 hy42
          generalize cmpK key x42 y42 = cv42 at hc42 hv42 hd42
          go_wp2_with fail
          go_quiet_grown (first | (go_at_fn g; refine Calls.grown_of (hc42 _ _)))
          have S2 : Aside (SWK enc k w0 blk off d (grow (wr.drewN nq) osq)) := S1.out.grown nq osq
          clear l42a l42b hc42 hv42 hd42 S1
          generalize grow (wr.drewN nq) osq = w2 at S2 ⊢
          clear nq osq
          have I2 : Aside (BS (fun x => ltK key d[x]! d[a]!) (a + 1) b i h) := I.out.down PRE1.out.mono1 (by omega) (by omega) hL
          clear I hL
          go_wp2_with fail
          go_roundg (h - i)
          case measure => omega
          case rel => exact ⟨i, h, rfl, rfl, hmi, by omega, by omega, Nat.le_refl _, S2, I2⟩
      · have hltz : ¬ (i : Int) < (j : Int) := by omega
        have hji : j = i := by omega
        subst hji
        go_wp2_with fail
        go_loopg [13] (j - 1 - a) (fun kx s13 wr => ∃ (q : Nat) (dk : Array α), s13 = .int .i64 q ∧ a ≤ q ∧ q + 1 ≤ j ∧ j - 1 - q ≤ kx ∧ dk.size = d.size ∧ Aside (SWK enc k w0 blk off dk wr) ∧ Aside (Rot a (a + 1) (q + 1) d dk))
        case atStart => exact ⟨a, d, rfl, Nat.le_refl _, by omega, by omega, rfl, S1, Rot.right0 a d⟩
        case round =>
          clear S1
          obtain ⟨q, dk, rfl, haq, hqj, hkq, hds, S1, E⟩ := hrel
          by_cases hq : q + 1 < j
          · have hqz : (q : Int) < (j : Int) - 1 := by omega
            have ea43 : ((q : Int)).toNat = q := by omega
            have pa43 : (0 : Int) ≤ (q : Int) := by omega
            have ba43 : (q : Int) < (d.size : Int) := by omega
            have ra43 : IntKind.i64.wrap ((q : Int)) = (q : Int) := by rw [IntKind.wrap_i64]; omega
            have ec43 : ((q : Int) + 1).toNat = q + 1 := by omega
            have pc43 : (0 : Int) ≤ (q : Int) + 1 := by omega
            have bc43 : (q : Int) + 1 < (d.size : Int) := by omega
            have rc43 : IntKind.i64.wrap ((q : Int) + 1) = (q : Int) + 1 := by rw [IntKind.wrap_i64]; omega
            have S2 : Aside (SWK enc k w0 blk off (swp dk (q) (q + 1)) ((wr.drew.setCells blk (off + (q) * k) (enc dk[q + 1]!)).setCells blk (off + (q + 1) * k) (enc dk[q]!))) := S1.out.swapped R (q) (q + 1) (by omega) (by omega)
            have l43a := S1.out.ld1 R (by omega) P (q) (by omega)
            have l43b := S1.out.ld1 R (by omega) P (q + 1) (by omega)
            have s43a := S1.out.st1 R (by omega) P (q) (by omega) dk[q + 1]!
            have s43b := S1.out.st2 R (by omega) P (q) (q + 1) (by omega) (by omega) dk[q + 1]! dk[q]!
            have n43a : (enc dk[q]!).length = k := R.hk _
            have n43b : (enc dk[q + 1]!).length = k := R.hk _
            generalize enc dk[q]! = cI43 at S2 l43a s43b n43a
            generalize enc dk[q + 1]! = cJ43 at S2 l43b s43a s43b n43b
            clear S1
            go_wp2_with fail
            go_big_region_o
            clear l43a l43b s43a s43b
            generalize (wr.drew.setCells blk (off + (q) * k) cJ43).setCells blk (off + (q + 1) * k) cI43 = w2 at S2 ⊢
            go_wp2
            go_roundg (j - 1 - (q + 1))
            case measure => omega
            case rel => exact ⟨q + 1, swp dk q (q + 1), by go_num, by omega, by omega, Nat.le_refl _, by rw [size_swp]; exact hds, S2, E.out.right (by omega) (by omega)⟩
          · have hqz : ¬ (q : Int) < (j : Int) - 1 := by omega
            have hqe : q + 1 = j := by omega
            have E2 : Aside (Rot a (a + 1) j d dk) := by have := E.out; rw [hqe] at this; exact this
            go_wp2_with fail
            first | go_end0 | ((try simp only [Exit.inBlock, Exit.then]); refine bodyPost_ret (results_none rfl _ _ _) rfl ?_)
            exact ⟨rfl, dk, fin1 PRE1.out I.out hb E2.out, S1.out⟩
  · have hAz : ((m : Int) - (a : Int) == 1) = false := beq_eq_false_iff_ne.2 (by omega)
    have hAz2 : ¬ (m : Int) - (a : Int) = 1 := by omega
    by_cases hB : b = m + 1
    · have hBz : (b : Int) - (m : Int) = 1 := by omega
      have PRE1 : Aside (Pre key tg a m (m + 1) d) := by have := PRE.out; rw [hB] at this; exact this
      have hB1 : b ≤ m + 1 := by omega
      have HB : Aside (b = m + 1) := hB
      clear hB
      go_enter L.symMergeCmpFunc, Try.ntmps142
      go_wp2_with fail
      go_loopg [14, 15, 16] (m - a) (fun kx s14 s15 _ wr => ∃ i j : Nat, s14 = .int .i64 i ∧ s15 = .int .i64 j ∧ a ≤ i ∧ i ≤ j ∧ j ≤ m ∧ j - i ≤ kx ∧ Aside (SWK enc k w0 blk off d wr) ∧ Aside (BS (fun x => !ltK key d[m]! d[x]!) a m i j))
      case atStart => exact ⟨a, m, rfl, rfl, Nat.le_refl _, by omega, Nat.le_refl _, Nat.le_refl _, S0, BS.start _ (by omega)⟩
      case round =>
        clear S0
        obtain ⟨i, j, rfl, rfl, hmi, hij, hjb, hkx, S1, I⟩ := hrel
        by_cases hlt : i < j
        · have hltz : (i : Int) < (j : Int) := by omega
          go_wp2_with fail
          obtain ⟨h, hih, hhj, hz⟩ : ∃ h : Nat, i ≤ h ∧ h < j ∧ ((i : Int) + (j : Int)) / 2 = (h : Int) := ⟨(i + j) / 2, by omega, by omega, by omega⟩
          rw [hz]
          clear hz
          cases hL : ltK key d[m]! d[h]! with
          | true =>
            have ea51 : ((m : Int)).toNat = m := by omega
            have pa51 : (0 : Int) ≤ (m : Int) := by omega
            have ba51 : (m : Int) < (d.size : Int) := by omega
            have ra51 : IntKind.i64.wrap ((m : Int)) = (m : Int) := by rw [IntKind.wrap_i64]; omega
            have ec51 : ((h : Int)).toNat = h := by omega
            have pc51 : (0 : Int) ≤ (h : Int) := by omega
            have bc51 : (h : Int) < (d.size : Int) := by omega
            have rc51 : IntKind.i64.wrap ((h : Int)) = (h : Int) := by rw [IntKind.wrap_i64]; omega
            obtain ⟨x51, hx51⟩ : ∃ x, x = d[m]! := ⟨_, rfl⟩
            obtain ⟨y51, hy51⟩ : ∃ x, x = d[h]! := ⟨_, rfl⟩
            have l51a := S1.out.ld R (by omega) P (m) (by omega)
            have l51b := S1.out.ld R (by omega) P (h) (by omega)
            rw [← hx51] at l51a
            rw [← hy51] at l51b
            have hc51 := S1.out.cmp HC.out (by omega) x51 y51
            have hv51 : cmpK key x51 y51 < 0 := by rw [hx51, hy51]; exact of_decide_eq_true ((cmpK_neg key _ _).trans hL)
            have hd51 : decide (cmpK key x51 y51 < 0) = true := decide_eq_true hv51
            clear hx51 hy51
            generalize cmpK key x51 y51 = cv51 at hc51 hv51 hd51
            go_wp2_with fail
            go_quiet_grown (first | (go_at_fn g; refine Calls.grown_of (hc51 _ _)))
            have S2 : Aside (SWK enc k w0 blk off d (grow (wr.drewN nq) osq)) := S1.out.grown nq osq
            clear l51a l51b hc51 hv51 hd51 S1
            generalize grow (wr.drewN nq) osq = w2 at S2 ⊢
            clear nq osq
            have I2 : Aside (BS (fun x => !ltK key d[m]! d[x]!) a m i h) := I.out.down PRE1.out.mono2 (by omega) (by omega) (by show (!ltK key d[m]! d[h]!) = false; rw [hL]; rfl)
            clear I hL
            go_wp2_with fail
            go_roundg (h - i)
            case measure => omega
            case rel => exact ⟨i, h, rfl, rfl, hmi, by omega, by omega, Nat.le_refl _, S2, I2⟩
          | false =>
            have ea52 : ((m : Int)).toNat = m := by omega
            have pa52 : (0 : Int) ≤ (m : Int) := by omega
            have ba52 : (m : Int) < (d.size : Int) := by omega
            have ra52 : IntKind.i64.wrap ((m : Int)) = (m : Int) := by rw [IntKind.wrap_i64]; omega
            have ec52 : ((h : Int)).toNat = h := by omega
            have pc52 : (0 : Int) ≤ (h : Int) := by omega
            have bc52 : (h : Int) < (d.size : Int) := by omega
            have rc52 : IntKind.i64.wrap ((h : Int)) = (h : Int) := by rw [IntKind.wrap_i64]; omega
            obtain ⟨x52, hx52⟩ : ∃ x, x = d[m]! := ⟨_, rfl⟩
            obtain ⟨y52, hy52⟩ : ∃ x, x = d[h]! := ⟨_, rfl⟩
            have l52a := S1.out.ld R (by omega) P (m) (by omega)
            have l52b := S1.out.ld R (by omega) P (h) (by omega)
            rw [← hx52] at l52a
            rw [← hy52] at l52b
            have hc52 := S1.out.cmp HC.out (by omega) x52 y52
            have hv52 : ¬ cmpK key x52 y52 < 0 := by rw [hx52, hy52]; exact of_decide_eq_false ((cmpK_neg key _ _).trans hL)
            have hd52 : decide (cmpK key x52 y52 < 0) = false := decide_eq_false hv52
            clear hx52 hy52
            generalize cmpK key x52 y52 = cv52 at hc52 hv52 hd52
            go_wp2_with fail
            go_quiet_grown (first | (go_at_fn g; refine Calls.grown_of (hc52 _ _)))
            have S2 : Aside (SWK enc k w0 blk off d (grow (wr.drewN nq) osq)) := S1.out.grown nq osq
            clear l52a l52b hc52 hv52 hd52 S1
            generalize grow (wr.drewN nq) osq = w2 at S2 ⊢
            clear nq osq
            have I2 : Aside (BS (fun x => !ltK key d[m]! d[x]!) a m (h + 1) j) := I.out.up PRE1.out.mono2 (by omega) (by omega) (by show (!ltK key d[m]! d[h]!) = true; rw [hL]; rfl)
            clear I hL
            go_wp2_with fail
            go_roundg (j - (h + 1))
            case measure => omega
            case rel => exact ⟨h + 1, j, by go_num, rfl, by omega, by omega, hjb, Nat.le_refl _, S2, I2⟩
        · have hltz : ¬ (i : Int) < (j : Int) := by omega
          have hji : j = i := by omega
          subst hji
          go_wp2_with fail
          go_loopg [17] (m - j) (fun kx s17 wr => ∃ (q : Nat) (dk : Array α), s17 = .int .i64 q ∧ j ≤ q ∧ q ≤ m ∧ q - j ≤ kx ∧ dk.size = d.size ∧ Aside (SWK enc k w0 blk off dk wr) ∧ Aside (Rot q m (m + 1) d dk))
          case atStart => exact ⟨m, d, rfl, by omega, Nat.le_refl _, Nat.le_refl _, rfl, S1, Rot.left0 m d⟩
          case round =>
            clear S1
            obtain ⟨q, dk, rfl, haq, hqj, hkq, hds, S1, E⟩ := hrel
            by_cases hq : j < q
            · obtain ⟨p, rfl⟩ : ∃ p, q = p + 1 := ⟨q - 1, by omega⟩
              have hqz : (j : Int) < (p : Int) + 1 := by omega
              have hwp : IntKind.i64.wrap (p : Int) = (p : Int) := by rw [IntKind.wrap_i64]; omega
              have ea53 : ((p : Int) + 1).toNat = p + 1 := by omega
              have pa53 : (0 : Int) ≤ (p : Int) + 1 := by omega
              have ba53 : (p : Int) + 1 < (d.size : Int) := by omega
              have ra53 : IntKind.i64.wrap ((p : Int) + 1) = (p : Int) + 1 := by rw [IntKind.wrap_i64]; omega
              have ec53 : ((p : Int)).toNat = p := by omega
              have pc53 : (0 : Int) ≤ (p : Int) := by omega
              have bc53 : (p : Int) < (d.size : Int) := by omega
              have rc53 : IntKind.i64.wrap ((p : Int)) = (p : Int) := by rw [IntKind.wrap_i64]; omega
              have S2 : Aside (SWK enc k w0 blk off (swp dk (p + 1) (p)) ((wr.drew.setCells blk (off + (p + 1) * k) (enc dk[p]!)).setCells blk (off + (p) * k) (enc dk[p + 1]!))) := S1.out.swapped R (p + 1) (p) (by omega) (by omega)
              have l53a := S1.out.ld1 R (by omega) P (p + 1) (by omega)
              have l53b := S1.out.ld1 R (by omega) P (p) (by omega)
              have s53a := S1.out.st1 R (by omega) P (p + 1) (by omega) dk[p]!
              have s53b := S1.out.st2 R (by omega) P (p + 1) (p) (by omega) (by omega) dk[p]! dk[p + 1]!
              have n53a : (enc dk[p + 1]!).length = k := R.hk _
              have n53b : (enc dk[p]!).length = k := R.hk _
              generalize enc dk[p + 1]! = cI53 at S2 l53a s53b n53a
              generalize enc dk[p]! = cJ53 at S2 l53b s53a s53b n53b
              clear S1
              go_wp2_with fail
              go_big_region_o
              clear l53a l53b s53a s53b
              generalize (wr.drew.setCells blk (off + (p + 1) * k) cJ53).setCells blk (off + (p) * k) cI53 = w2 at S2 ⊢
              go_wp2
              go_roundg (p - j)
              case measure => omega
              case rel => exact ⟨p, swp dk (p + 1) p, by go_num, by omega, by omega, Nat.le_refl _, by rw [size_swp]; exact hds, S2, E.out.left (by omega) (by omega)⟩
            · have hqz : ¬ (j : Int) < (q : Int) := by omega
              have hqe : q = j := by omega
              have E2 : Aside (Rot j m (m + 1) d dk) := by have := E.out; rw [hqe] at this; exact this
              go_wp2_with fail
              first | go_end0 | ((try simp only [Exit.inBlock, Exit.then]); refine bodyPost_ret (results_none rfl _ _ _) rfl ?_)
              exact ⟨rfl, dk, (by rw [HB.out]; exact fin2 PRE1.out I.out (by omega) E2.out), S1.out⟩
    · have hBz : ((b : Int) - (m : Int) == 1) = false := beq_eq_false_iff_ne.2 (by omega)
      have hBz2 : ¬ (b : Int) - (m : Int) = 1 := by omega
      obtain ⟨mid, hm1, hm2, hmz⟩ : ∃ h : Nat, 2 * h ≤ a + b ∧ a + b ≤ 2 * h + 1 ∧ ((a : Int) + (b : Int)) / 2 = (h : Int) := ⟨(a + b) / 2, by omega, by omega, by omega⟩
      have HMZ : Aside (((a : Int) + (b : Int)) / 2 = (mid : Int)) := hmz
      clear hmz
      by_cases hmm : mid < m
      · have hgt : ((a : Int) + (b : Int)) / 2 < (m : Int) := by rw [HMZ.out]; omega
        go_enter L.symMergeCmpFunc, Try.ntmps142
        go_wp2_with fail
        rw [HMZ.out]
        clear hgt HMZ
        go_loopg [20, 21, 23] (mid - (mid + m - b)) (fun kx s20 s21 _ wr => ∃ s r : Nat, s20 = .int .i64 s ∧ s21 = .int .i64 r ∧ (mid + m - b) ≤ s ∧ s ≤ r ∧ r ≤ mid ∧ r - s ≤ kx ∧ Aside (SWK enc k w0 blk off d wr) ∧ Aside (BS (fun c => !ltK key d[mid + m - 1 - c]! d[c]!) (mid + m - b) mid s r))
        case atStart => exact ⟨(mid + m - b), mid, by first | rfl | (congr 1; omega), by first | rfl | (congr 1; omega), Nat.le_refl _, by omega, Nat.le_refl _, Nat.le_refl _, S0, BS.start _ (by omega)⟩
        case round =>
          clear S0
          obtain ⟨s, r, rfl, rfl, hs0, hsr, hr0, hkx, S1, I⟩ := hrel
          have MON : Aside (Mono (fun c => !ltK key d[mid + m - 1 - c]! d[c]!) (mid + m - b) mid) := PRE.out.mono3 (by omega) (by omega) (by omega) (by omega) (by omega)
          by_cases hlt : s < r
          · have hltz : (s : Int) < (r : Int) := by omega
            go_wp2_with fail
            obtain ⟨c, hih, hhj, hz⟩ : ∃ h : Nat, s ≤ h ∧ h < r ∧ ((s : Int) + (r : Int)) / 2 = (h : Int) := ⟨(s + r) / 2, by omega, by omega, by omega⟩
            rw [hz]
            clear hz
            have hwq : IntKind.i64.wrap ((mid : Int) + (m : Int)) = (mid : Int) + (m : Int) := by rw [IntKind.wrap_i64]; omega
            obtain ⟨px, hx⟩ : ∃ px, px = mid + m - 1 - c := ⟨_, rfl⟩
            have hxz : (mid : Int) + (m : Int) - 1 - (c : Int) = (px : Int) := by omega
            have hxd : px < d.size := by omega
            have HX : Aside (px = mid + m - 1 - c) := hx
            clear hx
            cases hL : ltK key d[px]! d[c]! with
            | true =>
              have ea61 : ((px : Int)).toNat = px := by omega
              have pa61 : (0 : Int) ≤ (px : Int) := by omega
              have ba61 : (px : Int) < (d.size : Int) := by omega
              have ra61 : IntKind.i64.wrap ((px : Int)) = (px : Int) := by rw [IntKind.wrap_i64]; omega
              have ec61 : ((c : Int)).toNat = c := by omega
              have pc61 : (0 : Int) ≤ (c : Int) := by omega
              have bc61 : (c : Int) < (d.size : Int) := by omega
              have rc61 : IntKind.i64.wrap ((c : Int)) = (c : Int) := by rw [IntKind.wrap_i64]; omega
              obtain ⟨x61, hx61⟩ : ∃ x, x = d[px]! := ⟨_, rfl⟩
              obtain ⟨y61, hy61⟩ : ∃ x, x = d[c]! := ⟨_, rfl⟩
              have l61a := S1.out.ld R (by omega) P (px) (by omega)
              have l61b := S1.out.ld R (by omega) P (c) (by omega)
              rw [← hx61] at l61a
              rw [← hy61] at l61b
              have hc61 := S1.out.cmp HC.out (by omega) x61 y61
              have hv61 : cmpK key x61 y61 < 0 := by rw [hx61, hy61]; exact of_decide_eq_true ((cmpK_neg key _ _).trans hL)
              have hd61 : decide (cmpK key x61 y61 < 0) = true := decide_eq_true hv61
              clear hx61 hy61
              generalize cmpK key x61 y61 = cv61 at hc61 hv61 hd61
              go_wp2_with fail
              go_quiet_grown (first | (go_at_fn g; refine Calls.grown_of (hc61 _ _)))
              have S2 : Aside (SWK enc k w0 blk off d (grow (wr.drewN nq) osq)) := S1.out.grown nq osq
              clear l61a l61b hc61 hv61 hd61 S1
              generalize grow (wr.drewN nq) osq = w2 at S2 ⊢
              clear nq osq
              have I2 : Aside (BS (fun c => !ltK key d[mid + m - 1 - c]! d[c]!) (mid + m - b) mid s c) := I.out.down MON.out (by omega) (by omega) (by show (!ltK key d[mid + m - 1 - c]! d[c]!) = false; rw [← HX.out, hL]; rfl)
              clear I hL
              go_wp2_with fail
              go_roundg (c - s)
              case measure => omega
              case rel => exact ⟨s, c, rfl, rfl, hs0, by omega, by omega, Nat.le_refl _, S2, I2⟩
            | false =>
              have ea71 : ((px : Int)).toNat = px := by omega
              have pa71 : (0 : Int) ≤ (px : Int) := by omega
              have ba71 : (px : Int) < (d.size : Int) := by omega
              have ra71 : IntKind.i64.wrap ((px : Int)) = (px : Int) := by rw [IntKind.wrap_i64]; omega
              have ec71 : ((c : Int)).toNat = c := by omega
              have pc71 : (0 : Int) ≤ (c : Int) := by omega
              have bc71 : (c : Int) < (d.size : Int) := by omega
              have rc71 : IntKind.i64.wrap ((c : Int)) = (c : Int) := by rw [IntKind.wrap_i64]; omega
              obtain ⟨x71, hx71⟩ : ∃ x, x = d[px]! := ⟨_, rfl⟩
              obtain ⟨y71, hy71⟩ : ∃ x, x = d[c]! := ⟨_, rfl⟩
              have l71a := S1.out.ld R (by omega) P (px) (by omega)
              have l71b := S1.out.ld R (by omega) P (c) (by omega)
              rw [← hx71] at l71a
              rw [← hy71] at l71b
              have hc71 := S1.out.cmp HC.out (by omega) x71 y71
              have hv71 : ¬ cmpK key x71 y71 < 0 := by rw [hx71, hy71]; exact of_decide_eq_false ((cmpK_neg key _ _).trans hL)
              have hd71 : decide (cmpK key x71 y71 < 0) = false := decide_eq_false hv71
              clear hx71 hy71
              generalize cmpK key x71 y71 = cv71 at hc71 hv71 hd71
              go_wp2_with fail
              go_quiet_grown (first | (go_at_fn g; refine Calls.grown_of (hc71 _ _)))
              have S2 : Aside (SWK enc k w0 blk off d (grow (wr.drewN nq) osq)) := S1.out.grown nq osq
              clear l71a l71b hc71 hv71 hd71 S1
              generalize grow (wr.drewN nq) osq = w2 at S2 ⊢
              clear nq osq
              have I2 : Aside (BS (fun c => !ltK key d[mid + m - 1 - c]! d[c]!) (mid + m - b) mid (c + 1) r) := I.out.up MON.out (by omega) (by omega) (by show (!ltK key d[mid + m - 1 - c]! d[c]!) = true; rw [← HX.out, hL]; rfl)
              clear I hL
              go_wp2_with fail
              go_roundg (r - (c + 1))
              case measure => omega
              case rel => exact ⟨c + 1, r, by go_num, rfl, by omega, by omega, hr0, Nat.le_refl _, S2, I2⟩
          · have hltz : ¬ (s : Int) < (r : Int) := by omega
            have hji : r = s := by omega
            subst hji
            obtain ⟨e, he1, he2, hez, heq⟩ : ∃ h : Nat, h + r ≤ mid + m ∧ mid + m ≤ h + r ∧ (mid : Int) + (m : Int) - (r : Int) = (h : Int) ∧ h = mid + m - r := ⟨mid + m - r, by omega, by omega, by omega, rfl⟩
            have HE : Aside (e = mid + m - r) := heq
            clear heq
            have hwq : IntKind.i64.wrap ((mid : Int) + (m : Int)) = (mid : Int) + (m : Int) := by rw [IntKind.wrap_i64]; omega
            have hwe : IntKind.i64.wrap (e : Int) = (e : Int) := by rw [IntKind.wrap_i64]; omega
            have CUT : Aside (Cut key tg a m b r e d) := by have := cut3 (n := mid + m) PRE.out (s := r) (s0 := (mid + m - b)) (r0 := mid) I.out (by omega) (by omega) (by omega) (by omega) (by omega) (by omega) (by omega); rw [HE.out]; exact this
            have hrm : r ≤ m := by omega
            have hme : m ≤ e := by omega
            have heb : e ≤ b := by omega
            have har : a ≤ r := by omega
            have hmx : r + (e - m) = mid := by omega
            clear MON
            by_cases hr2 : mid < e ∧ e < b
            · have z1 : (mid : Int) < (e : Int) := by omega
              have z2 : (e : Int) < (b : Int) := by omega
              by_cases hr1 : a < r ∧ r < mid
              · have y1 : (a : Int) < (r : Int) := by omega
                have y2 : (r : Int) < (mid : Int) := by omega
                by_cases hrot : r < m ∧ m < e
                · have x1 : (r : Int) < (m : Int) := by omega
                  have x2 : (m : Int) < (e : Int) := by omega
                  first
                    | (exfalso; omega)
                    | (have hcall := rotate (P := P) L k aE zE enc g cb blk off cap r m e d0 d w0 wr R (by omega) S1.out hrot.1 hrot.2 (by omega) (by omega)
                       clear S1
                       go_wp2_with (go_at_fn 147; (with_reducible refine hcall.mono ?_); clear hcall; rintro e1 w1 ⟨rfl, d1, hr1, S2⟩)
                       have RT : Aside (Rot r m e d d1) := hr1
                       have S3 : Aside (SWK enc k w0 blk off d1 w1) := S2
                       have hd1 : d1.size = d.size := hr1.perm.1
                       clear hr1 S2
                       have SP : Aside (Split key tg a r mid e b d1) := by have := CUT.out.split hb RT.out; rw [hmx] at this; exact this
                       have hcall := IH.out blk off cap a r mid d0 d1 w0 w1 R (by omega) S3.out hr1.1 hr1.2 (by omega) (by omega) (by omega) SP.out.one
                       rw [hd1] at hcall
                       clear S3
                       go_wp2_with (go_at_fn 142; (with_reducible refine hcall.mono ?_); clear hcall; rintro e2 w2 ⟨rfl, d2, hm1, S4⟩)
                       have M1 : Aside (Merged key tg a mid d1 d2) := hm1
                       have S5 : Aside (SWK enc k w0 blk off d2 w2) := S4
                       have hd2 : d2.size = d.size := by rw [hm1.perm.1]; exact hd1
                       clear hm1 S4
                       have hcall := IH.out blk off cap mid e b d0 d2 w0 w2 R (by omega) S5.out hr2.1 hr2.2 (by omega) (by omega) (by omega) (SP.out.two' M1.out (by omega) heb)
                       rw [hd2] at hcall
                       clear S5
                       go_wp2_with (go_at_fn 142; (with_reducible refine hcall.mono ?_); clear hcall; rintro e3 w3 ⟨rfl, d3, hm2, S6⟩)
                       first | go_end0 | ((try simp only [Exit.inBlock, Exit.then]); refine bodyPost_ret (results_none rfl _ _ _) rfl ?_)
                       exact ⟨rfl, d3, (SP.out.join (by omega) (by omega) (by omega) M1.out hm2).of_rot RT.out har heb hb, S6⟩)
                · have x1 : (decide ((r : Int) < (m : Int)) && decide ((m : Int) < (e : Int))) = false := by rw [Bool.and_eq_false_iff, decide_eq_false_iff_not, decide_eq_false_iff_not]; omega
                  have x2 : ¬ ((r : Int) < (m : Int) ∧ (m : Int) < (e : Int)) := by omega
                  first
                    | (exfalso; omega)
                    | (have RT : Aside (Rot r m e d d) := Rot.none hrot hrm hme
                       have S3 : Aside (SWK enc k w0 blk off d wr) := S1
                       have hd1 : d.size = d.size := rfl
                       clear S1
                       have SP : Aside (Split key tg a r mid e b d) := by have := CUT.out.split hb RT.out; rw [hmx] at this; exact this
                       have hcall := IH.out blk off cap a r mid d0 d w0 wr R (by omega) S3.out hr1.1 hr1.2 (by omega) (by omega) (by omega) SP.out.one
                       skip
                       clear S3
                       go_wp2_with (go_at_fn 142; (with_reducible refine hcall.mono ?_); clear hcall; rintro e2 w2 ⟨rfl, d2, hm1, S4⟩)
                       have M1 : Aside (Merged key tg a mid d d2) := hm1
                       have S5 : Aside (SWK enc k w0 blk off d2 w2) := S4
                       have hd2 : d2.size = d.size := by rw [hm1.perm.1]
                       clear hm1 S4
                       have hcall := IH.out blk off cap mid e b d0 d2 w0 w2 R (by omega) S5.out hr2.1 hr2.2 (by omega) (by omega) (by omega) (SP.out.two' M1.out (by omega) heb)
                       rw [hd2] at hcall
                       clear S5
                       go_wp2_with (go_at_fn 142; (with_reducible refine hcall.mono ?_); clear hcall; rintro e3 w3 ⟨rfl, d3, hm2, S6⟩)
                       first | go_end0 | ((try simp only [Exit.inBlock, Exit.then]); refine bodyPost_ret (results_none rfl _ _ _) rfl ?_)
                       exact ⟨rfl, d3, (SP.out.join (by omega) (by omega) (by omega) M1.out hm2).of_rot RT.out har heb hb, S6⟩)
              · have y1 : (decide ((a : Int) < (r : Int)) && decide ((r : Int) < (mid : Int))) = false := by rw [Bool.and_eq_false_iff, decide_eq_false_iff_not, decide_eq_false_iff_not]; omega
                have y2 : ¬ ((a : Int) < (r : Int) ∧ (r : Int) < (mid : Int)) := by omega
                by_cases hrot : r < m ∧ m < e
                · have x1 : (r : Int) < (m : Int) := by omega
                  have x2 : (m : Int) < (e : Int) := by omega
                  first
                    | (exfalso; omega)
                    | (have hcall := rotate (P := P) L k aE zE enc g cb blk off cap r m e d0 d w0 wr R (by omega) S1.out hrot.1 hrot.2 (by omega) (by omega)
                       clear S1
                       go_wp2_with (go_at_fn 147; (with_reducible refine hcall.mono ?_); clear hcall; rintro e1 w1 ⟨rfl, d1, hr1, S2⟩)
                       have RT : Aside (Rot r m e d d1) := hr1
                       have S3 : Aside (SWK enc k w0 blk off d1 w1) := S2
                       have hd1 : d1.size = d.size := hr1.perm.1
                       clear hr1 S2
                       have SP : Aside (Split key tg a r mid e b d1) := by have := CUT.out.split hb RT.out; rw [hmx] at this; exact this
                       have M1 : Aside (Merged key tg a mid d1 d1) := SP.out.one.done hr1 har (by omega)
                       have S5 : Aside (SWK enc k w0 blk off d1 w1) := S3
                       have hd2 : d1.size = d.size := hd1
                       clear S3
                       have hcall := IH.out blk off cap mid e b d0 d1 w0 w1 R (by omega) S5.out hr2.1 hr2.2 (by omega) (by omega) (by omega) (SP.out.two' M1.out (by omega) heb)
                       rw [hd2] at hcall
                       clear S5
                       go_wp2_with (go_at_fn 142; (with_reducible refine hcall.mono ?_); clear hcall; rintro e3 w3 ⟨rfl, d3, hm2, S6⟩)
                       first | go_end0 | ((try simp only [Exit.inBlock, Exit.then]); refine bodyPost_ret (results_none rfl _ _ _) rfl ?_)
                       exact ⟨rfl, d3, (SP.out.join (by omega) (by omega) (by omega) M1.out hm2).of_rot RT.out har heb hb, S6⟩)
                · have x1 : (decide ((r : Int) < (m : Int)) && decide ((m : Int) < (e : Int))) = false := by rw [Bool.and_eq_false_iff, decide_eq_false_iff_not, decide_eq_false_iff_not]; omega
                  have x2 : ¬ ((r : Int) < (m : Int) ∧ (m : Int) < (e : Int)) := by omega
                  first
                    | (exfalso; omega)
                    | (have RT : Aside (Rot r m e d d) := Rot.none hrot hrm hme
                       have S3 : Aside (SWK enc k w0 blk off d wr) := S1
                       have hd1 : d.size = d.size := rfl
                       clear S1
                       have SP : Aside (Split key tg a r mid e b d) := by have := CUT.out.split hb RT.out; rw [hmx] at this; exact this
                       have M1 : Aside (Merged key tg a mid d d) := SP.out.one.done hr1 har (by omega)
                       have S5 : Aside (SWK enc k w0 blk off d wr) := S3
                       have hd2 : d.size = d.size := hd1
                       clear S3
                       have hcall := IH.out blk off cap mid e b d0 d w0 wr R (by omega) S5.out hr2.1 hr2.2 (by omega) (by omega) (by omega) (SP.out.two' M1.out (by omega) heb)
                       skip
                       clear S5
                       go_wp2_with (go_at_fn 142; (with_reducible refine hcall.mono ?_); clear hcall; rintro e3 w3 ⟨rfl, d3, hm2, S6⟩)
                       first | go_end0 | ((try simp only [Exit.inBlock, Exit.then]); refine bodyPost_ret (results_none rfl _ _ _) rfl ?_)
                       exact ⟨rfl, d3, (SP.out.join (by omega) (by omega) (by omega) M1.out hm2).of_rot RT.out har heb hb, S6⟩)
            · have z1 : (decide ((mid : Int) < (e : Int)) && decide ((e : Int) < (b : Int))) = false := by rw [Bool.and_eq_false_iff, decide_eq_false_iff_not, decide_eq_false_iff_not]; omega
              have z2 : ¬ ((mid : Int) < (e : Int) ∧ (e : Int) < (b : Int)) := by omega
              by_cases hr1 : a < r ∧ r < mid
              · have y1 : (a : Int) < (r : Int) := by omega
                have y2 : (r : Int) < (mid : Int) := by omega
                by_cases hrot : r < m ∧ m < e
                · have x1 : (r : Int) < (m : Int) := by omega
                  have x2 : (m : Int) < (e : Int) := by omega
                  first
                    | (exfalso; omega)
                    | (have hcall := rotate (P := P) L k aE zE enc g cb blk off cap r m e d0 d w0 wr R (by omega) S1.out hrot.1 hrot.2 (by omega) (by omega)
                       clear S1
                       go_wp2_with (go_at_fn 147; (with_reducible refine hcall.mono ?_); clear hcall; rintro e1 w1 ⟨rfl, d1, hr1, S2⟩)
                       have RT : Aside (Rot r m e d d1) := hr1
                       have S3 : Aside (SWK enc k w0 blk off d1 w1) := S2
                       have hd1 : d1.size = d.size := hr1.perm.1
                       clear hr1 S2
                       have SP : Aside (Split key tg a r mid e b d1) := by have := CUT.out.split hb RT.out; rw [hmx] at this; exact this
                       have hcall := IH.out blk off cap a r mid d0 d1 w0 w1 R (by omega) S3.out hr1.1 hr1.2 (by omega) (by omega) (by omega) SP.out.one
                       rw [hd1] at hcall
                       clear S3
                       go_wp2_with (go_at_fn 142; (with_reducible refine hcall.mono ?_); clear hcall; rintro e2 w2 ⟨rfl, d2, hm1, S4⟩)
                       have M1 : Aside (Merged key tg a mid d1 d2) := hm1
                       have S5 : Aside (SWK enc k w0 blk off d2 w2) := S4
                       have hd2 : d2.size = d.size := by rw [hm1.perm.1]; exact hd1
                       clear hm1 S4
                       have M2 : Merged key tg mid b d2 d2 := (SP.out.two' M1.out (by omega) heb).done hr2 (by omega) heb
                       have M3 : Aside (Merged key tg a b d d2) := (SP.out.join (by omega) (by omega) (by omega) M1.out M2).of_rot RT.out har heb hb
                       clear M2
                       go_wp2_with fail
                       first | go_end0 | ((try simp only [Exit.inBlock, Exit.then]); refine bodyPost_ret (results_none rfl _ _ _) rfl ?_)
                       exact ⟨rfl, d2, M3.out, S5.out⟩)
                · have x1 : (decide ((r : Int) < (m : Int)) && decide ((m : Int) < (e : Int))) = false := by rw [Bool.and_eq_false_iff, decide_eq_false_iff_not, decide_eq_false_iff_not]; omega
                  have x2 : ¬ ((r : Int) < (m : Int) ∧ (m : Int) < (e : Int)) := by omega
                  first
                    | (exfalso; omega)
                    | (have RT : Aside (Rot r m e d d) := Rot.none hrot hrm hme
                       have S3 : Aside (SWK enc k w0 blk off d wr) := S1
                       have hd1 : d.size = d.size := rfl
                       clear S1
                       have SP : Aside (Split key tg a r mid e b d) := by have := CUT.out.split hb RT.out; rw [hmx] at this; exact this
                       have hcall := IH.out blk off cap a r mid d0 d w0 wr R (by omega) S3.out hr1.1 hr1.2 (by omega) (by omega) (by omega) SP.out.one
                       skip
                       clear S3
                       go_wp2_with (go_at_fn 142; (with_reducible refine hcall.mono ?_); clear hcall; rintro e2 w2 ⟨rfl, d2, hm1, S4⟩)
                       have M1 : Aside (Merged key tg a mid d d2) := hm1
                       have S5 : Aside (SWK enc k w0 blk off d2 w2) := S4
                       have hd2 : d2.size = d.size := by rw [hm1.perm.1]
                       clear hm1 S4
                       have M2 : Merged key tg mid b d2 d2 := (SP.out.two' M1.out (by omega) heb).done hr2 (by omega) heb
                       have M3 : Aside (Merged key tg a b d d2) := (SP.out.join (by omega) (by omega) (by omega) M1.out M2).of_rot RT.out har heb hb
                       clear M2
                       go_wp2_with fail
                       first | go_end0 | ((try simp only [Exit.inBlock, Exit.then]); refine bodyPost_ret (results_none rfl _ _ _) rfl ?_)
                       exact ⟨rfl, d2, M3.out, S5.out⟩)
              · have y1 : (decide ((a : Int) < (r : Int)) && decide ((r : Int) < (mid : Int))) = false := by rw [Bool.and_eq_false_iff, decide_eq_false_iff_not, decide_eq_false_iff_not]; omega
                have y2 : ¬ ((a : Int) < (r : Int) ∧ (r : Int) < (mid : Int)) := by omega
                by_cases hrot : r < m ∧ m < e
                · have x1 : (r : Int) < (m : Int) := by omega
                  have x2 : (m : Int) < (e : Int) := by omega
                  first
                    | (exfalso; omega)
                    | (have hcall := rotate (P := P) L k aE zE enc g cb blk off cap r m e d0 d w0 wr R (by omega) S1.out hrot.1 hrot.2 (by omega) (by omega)
                       clear S1
                       go_wp2_with (go_at_fn 147; (with_reducible refine hcall.mono ?_); clear hcall; rintro e1 w1 ⟨rfl, d1, hr1, S2⟩)
                       have RT : Aside (Rot r m e d d1) := hr1
                       have S3 : Aside (SWK enc k w0 blk off d1 w1) := S2
                       have hd1 : d1.size = d.size := hr1.perm.1
                       clear hr1 S2
                       have SP : Aside (Split key tg a r mid e b d1) := by have := CUT.out.split hb RT.out; rw [hmx] at this; exact this
                       have M1 : Aside (Merged key tg a mid d1 d1) := SP.out.one.done hr1 har (by omega)
                       have S5 : Aside (SWK enc k w0 blk off d1 w1) := S3
                       have hd2 : d1.size = d.size := hd1
                       clear S3
                       have M2 : Merged key tg mid b d1 d1 := (SP.out.two' M1.out (by omega) heb).done hr2 (by omega) heb
                       have M3 : Aside (Merged key tg a b d d1) := (SP.out.join (by omega) (by omega) (by omega) M1.out M2).of_rot RT.out har heb hb
                       clear M2
                       go_wp2_with fail
                       first | go_end0 | ((try simp only [Exit.inBlock, Exit.then]); refine bodyPost_ret (results_none rfl _ _ _) rfl ?_)
                       exact ⟨rfl, d1, M3.out, S5.out⟩)
                · have x1 : (decide ((r : Int) < (m : Int)) && decide ((m : Int) < (e : Int))) = false := by rw [Bool.and_eq_false_iff, decide_eq_false_iff_not, decide_eq_false_iff_not]; omega
                  have x2 : ¬ ((r : Int) < (m : Int) ∧ (m : Int) < (e : Int)) := by omega
                  first
                    | (exfalso; omega)
                    | (have RT : Aside (Rot r m e d d) := Rot.none hrot hrm hme
                       have S3 : Aside (SWK enc k w0 blk off d wr) := S1
                       have hd1 : d.size = d.size := rfl
                       clear S1
                       have SP : Aside (Split key tg a r mid e b d) := by have := CUT.out.split hb RT.out; rw [hmx] at this; exact this
                       have M1 : Aside (Merged key tg a mid d d) := SP.out.one.done hr1 har (by omega)
                       have S5 : Aside (SWK enc k w0 blk off d wr) := S3
                       have hd2 : d.size = d.size := hd1
                       clear S3
                       have M2 : Merged key tg mid b d d := (SP.out.two' M1.out (by omega) heb).done hr2 (by omega) heb
                       have M3 : Aside (Merged key tg a b d d) := (SP.out.join (by omega) (by omega) (by omega) M1.out M2).of_rot RT.out har heb hb
                       clear M2
                       go_wp2_with fail
                       first | go_end0 | ((try simp only [Exit.inBlock, Exit.then]); refine bodyPost_ret (results_none rfl _ _ _) rfl ?_)
                       exact ⟨rfl, d, M3.out, S5.out⟩)
      · have hgt : ¬ ((a : Int) + (b : Int)) / 2 < (m : Int) := by rw [HMZ.out]; omega
        go_enter L.symMergeCmpFunc, Try.ntmps142
        go_wp2_with fail
        rw [HMZ.out]
        clear hgt HMZ
        go_loopg [20, 21, 23] (m - a) (fun kx s20 s21 _ wr => ∃ s r : Nat, s20 = .int .i64 s ∧ s21 = .int .i64 r ∧ a ≤ s ∧ s ≤ r ∧ r ≤ m ∧ r - s ≤ kx ∧ Aside (SWK enc k w0 blk off d wr) ∧ Aside (BS (fun c => !ltK key d[mid + m - 1 - c]! d[c]!) a m s r))
        case atStart => exact ⟨a, m, by first | rfl | (congr 1; omega), by first | rfl | (congr 1; omega), Nat.le_refl _, by omega, Nat.le_refl _, Nat.le_refl _, S0, BS.start _ (by omega)⟩
        case round =>
          clear S0
          obtain ⟨s, r, rfl, rfl, hs0, hsr, hr0, hkx, S1, I⟩ := hrel
          have MON : Aside (Mono (fun c => !ltK key d[mid + m - 1 - c]! d[c]!) a m) := PRE.out.mono3 (by omega) (by omega) (by omega) (by omega) (by omega)
          by_cases hlt : s < r
          · have hltz : (s : Int) < (r : Int) := by omega
            go_wp2_with fail
            obtain ⟨c, hih, hhj, hz⟩ : ∃ h : Nat, s ≤ h ∧ h < r ∧ ((s : Int) + (r : Int)) / 2 = (h : Int) := ⟨(s + r) / 2, by omega, by omega, by omega⟩
            rw [hz]
            clear hz
            have hwq : IntKind.i64.wrap ((mid : Int) + (m : Int)) = (mid : Int) + (m : Int) := by rw [IntKind.wrap_i64]; omega
            obtain ⟨px, hx⟩ : ∃ px, px = mid + m - 1 - c := ⟨_, rfl⟩
            have hxz : (mid : Int) + (m : Int) - 1 - (c : Int) = (px : Int) := by omega
            have hxd : px < d.size := by omega
            have HX : Aside (px = mid + m - 1 - c) := hx
            clear hx
            cases hL : ltK key d[px]! d[c]! with
            | true =>
              have ea62 : ((px : Int)).toNat = px := by omega
              have pa62 : (0 : Int) ≤ (px : Int) := by omega
              have ba62 : (px : Int) < (d.size : Int) := by omega
              have ra62 : IntKind.i64.wrap ((px : Int)) = (px : Int) := by rw [IntKind.wrap_i64]; omega
              have ec62 : ((c : Int)).toNat = c := by omega
              have pc62 : (0 : Int) ≤ (c : Int) := by omega
              have bc62 : (c : Int) < (d.size : Int) := by omega
              have rc62 : IntKind.i64.wrap ((c : Int)) = (c : Int) := by rw [IntKind.wrap_i64]; omega
              obtain ⟨x62, hx62⟩ : ∃ x, x = d[px]! := ⟨_, rfl⟩
              obtain ⟨y62, hy62⟩ : ∃ x, x = d[c]! := ⟨_, rfl⟩
              have l62a := S1.out.ld R (by omega) P (px) (by omega)
              have l62b := S1.out.ld R (by omega) P (c) (by omega)
              rw [← hx62] at l62a
              rw [← hy62] at l62b
              have hc62 := S1.out.cmp HC.out (by omega) x62 y62
              have hv62 : cmpK key x62 y62 < 0 := by rw [hx62, hy62]; exact of_decide_eq_true ((cmpK_neg key _ _).trans hL)
              have hd62 : decide (cmpK key x62 y62 < 0) = true := decide_eq_true hv62
              clear hx62 hy62
              generalize cmpK key x62 y62 = cv62 at hc62 hv62 hd62
              go_wp2_with fail
              go_quiet_grown (first | (go_at_fn g; refine Calls.grown_of (hc62 _ _)))
              have S2 : Aside (SWK enc k w0 blk off d (grow (wr.drewN nq) osq)) := S1.out.grown nq osq
              clear l62a l62b hc62 hv62 hd62 S1
              generalize grow (wr.drewN nq) osq = w2 at S2 ⊢
              clear nq osq
              have I2 : Aside (BS (fun c => !ltK key d[mid + m - 1 - c]! d[c]!) a m s c) := I.out.down MON.out (by omega) (by omega) (by show (!ltK key d[mid + m - 1 - c]! d[c]!) = false; rw [← HX.out, hL]; rfl)
              clear I hL
              go_wp2_with fail
              go_roundg (c - s)
              case measure => omega
              case rel => exact ⟨s, c, rfl, rfl, hs0, by omega, by omega, Nat.le_refl _, S2, I2⟩
            | false =>
              have ea72 : ((px : Int)).toNat = px := by omega
              have pa72 : (0 : Int) ≤ (px : Int) := by omega
              have ba72 : (px : Int) < (d.size : Int) := by omega
              have ra72 : IntKind.i64.wrap ((px : Int)) = (px : Int) := by rw [IntKind.wrap_i64]; omega
              have ec72 : ((c : Int)).toNat = c := by omega
              have pc72 : (0 : Int) ≤ (c : Int) := by omega
              have bc72 : (c : Int) < (d.size : Int) := by omega
              have rc72 : IntKind.i64.wrap ((c : Int)) = (c : Int) := by rw [IntKind.wrap_i64]; omega
              obtain ⟨x72, hx72⟩ : ∃ x, x = d[px]! := ⟨_, rfl⟩
              obtain ⟨y72, hy72⟩ : ∃ x, x = d[c]! := ⟨_, rfl⟩
              have l72a := S1.out.ld R (by omega) P (px) (by omega)
              have l72b := S1.out.ld R (by omega) P (c) (by omega)
              rw [← hx72] at l72a
              rw [← hy72] at l72b
              have hc72 := S1.out.cmp HC.out (by omega) x72 y72
              have hv72 : ¬ cmpK key x72 y72 < 0 := by rw [hx72, hy72]; exact of_decide_eq_false ((cmpK_neg key _ _).trans hL)
              have hd72 : decide (cmpK key x72 y72 < 0) = false := decide_eq_false hv72
              clear hx72 hy72
              generalize cmpK key x72 y72 = cv72 at hc72 hv72 hd72
              go_wp2_with fail
              go_quiet_grown (first | (go_at_fn g; refine Calls.grown_of (hc72 _ _)))
              have S2 : Aside (SWK enc k w0 blk off d (grow (wr.drewN nq) osq)) := S1.out.grown nq osq
              clear l72a l72b hc72 hv72 hd72 S1
              generalize grow (wr.drewN nq) osq = w2 at S2 ⊢
              clear nq osq
              have I2 : Aside (BS (fun c => !ltK key d[mid + m - 1 - c]! d[c]!) a m (c + 1) r) := I.out.up MON.out (by omega) (by omega) (by show (!ltK key d[mid + m - 1 - c]! d[c]!) = true; rw [← HX.out, hL]; rfl)
              clear I hL
              go_wp2_with fail
              go_roundg (r - (c + 1))
              case measure => omega
              case rel => exact ⟨c + 1, r, by go_num, rfl, by omega, by omega, hr0, Nat.le_refl _, S2, I2⟩
          · have hltz : ¬ (s : Int) < (r : Int) := by omega
            have hji : r = s := by omega
            subst hji
            obtain ⟨e, he1, he2, hez, heq⟩ : ∃ h : Nat, h + r ≤ mid + m ∧ mid + m ≤ h + r ∧ (mid : Int) + (m : Int) - (r : Int) = (h : Int) ∧ h = mid + m - r := ⟨mid + m - r, by omega, by omega, by omega, rfl⟩
            have HE : Aside (e = mid + m - r) := heq
            clear heq
            have hwq : IntKind.i64.wrap ((mid : Int) + (m : Int)) = (mid : Int) + (m : Int) := by rw [IntKind.wrap_i64]; omega
            have hwe : IntKind.i64.wrap (e : Int) = (e : Int) := by rw [IntKind.wrap_i64]; omega
            have CUT : Aside (Cut key tg a m b r e d) := by have := cut3 (n := mid + m) PRE.out (s := r) (s0 := a) (r0 := m) I.out (by omega) (by omega) (by omega) (by omega) (by omega) (by omega) (by omega); rw [HE.out]; exact this
            have hrm : r ≤ m := by omega
            have hme : m ≤ e := by omega
            have heb : e ≤ b := by omega
            have har : a ≤ r := by omega
            have hmx : r + (e - m) = mid := by omega
            clear MON
            by_cases hr2 : mid < e ∧ e < b
            · have z1 : (mid : Int) < (e : Int) := by omega
              have z2 : (e : Int) < (b : Int) := by omega
              by_cases hr1 : a < r ∧ r < mid
              · have y1 : (a : Int) < (r : Int) := by omega
                have y2 : (r : Int) < (mid : Int) := by omega
                by_cases hrot : r < m ∧ m < e
                · have x1 : (r : Int) < (m : Int) := by omega
                  have x2 : (m : Int) < (e : Int) := by omega
                  first
                    | (exfalso; omega)
                    | (have hcall := rotate (P := P) L k aE zE enc g cb blk off cap r m e d0 d w0 wr R (by omega) S1.out hrot.1 hrot.2 (by omega) (by omega)
                       clear S1
                       go_wp2_with (go_at_fn 147; (with_reducible refine hcall.mono ?_); clear hcall; rintro e1 w1 ⟨rfl, d1, hr1, S2⟩)
                       have RT : Aside (Rot r m e d d1) := hr1
                       have S3 : Aside (SWK enc k w0 blk off d1 w1) := S2
                       have hd1 : d1.size = d.size := hr1.perm.1
                       clear hr1 S2
                       have SP : Aside (Split key tg a r mid e b d1) := by have := CUT.out.split hb RT.out; rw [hmx] at this; exact this
                       have hcall := IH.out blk off cap a r mid d0 d1 w0 w1 R (by omega) S3.out hr1.1 hr1.2 (by omega) (by omega) (by omega) SP.out.one
                       rw [hd1] at hcall
                       clear S3
                       go_wp2_with (go_at_fn 142; (with_reducible refine hcall.mono ?_); clear hcall; rintro e2 w2 ⟨rfl, d2, hm1, S4⟩)
                       have M1 : Aside (Merged key tg a mid d1 d2) := hm1
                       have S5 : Aside (SWK enc k w0 blk off d2 w2) := S4
                       have hd2 : d2.size = d.size := by rw [hm1.perm.1]; exact hd1
                       clear hm1 S4
                       have hcall := IH.out blk off cap mid e b d0 d2 w0 w2 R (by omega) S5.out hr2.1 hr2.2 (by omega) (by omega) (by omega) (SP.out.two' M1.out (by omega) heb)
                       rw [hd2] at hcall
                       clear S5
                       go_wp2_with (go_at_fn 142; (with_reducible refine hcall.mono ?_); clear hcall; rintro e3 w3 ⟨rfl, d3, hm2, S6⟩)
                       first | go_end0 | ((try simp only [Exit.inBlock, Exit.then]); refine bodyPost_ret (results_none rfl _ _ _) rfl ?_)
                       exact ⟨rfl, d3, (SP.out.join (by omega) (by omega) (by omega) M1.out hm2).of_rot RT.out har heb hb, S6⟩)
                · have x1 : (decide ((r : Int) < (m : Int)) && decide ((m : Int) < (e : Int))) = false := by rw [Bool.and_eq_false_iff, decide_eq_false_iff_not, decide_eq_false_iff_not]; omega
                  have x2 : ¬ ((r : Int) < (m : Int) ∧ (m : Int) < (e : Int)) := by omega
                  first
                    | (exfalso; omega)
                    | (have RT : Aside (Rot r m e d d) := Rot.none hrot hrm hme
                       have S3 : Aside (SWK enc k w0 blk off d wr) := S1
                       have hd1 : d.size = d.size := rfl
                       clear S1
                       have SP : Aside (Split key tg a r mid e b d) := by have := CUT.out.split hb RT.out; rw [hmx] at this; exact this
                       have hcall := IH.out blk off cap a r mid d0 d w0 wr R (by omega) S3.out hr1.1 hr1.2 (by omega) (by omega) (by omega) SP.out.one
                       skip
                       clear S3
                       go_wp2_with (go_at_fn 142; (with_reducible refine hcall.mono ?_); clear hcall; rintro e2 w2 ⟨rfl, d2, hm1, S4⟩)
                       have M1 : Aside (Merged key tg a mid d d2) := hm1
                       have S5 : Aside (SWK enc k w0 blk off d2 w2) := S4
                       have hd2 : d2.size = d.size := by rw [hm1.perm.1]
                       clear hm1 S4
                       have hcall := IH.out blk off cap mid e b d0 d2 w0 w2 R (by omega) S5.out hr2.1 hr2.2 (by omega) (by omega) (by omega) (SP.out.two' M1.out (by omega) heb)
                       rw [hd2] at hcall
                       clear S5
                       go_wp2_with (go_at_fn 142; (with_reducible refine hcall.mono ?_); clear hcall; rintro e3 w3 ⟨rfl, d3, hm2, S6⟩)
                       first | go_end0 | ((try simp only [Exit.inBlock, Exit.then]); refine bodyPost_ret (results_none rfl _ _ _) rfl ?_)
                       exact ⟨rfl, d3, (SP.out.join (by omega) (by omega) (by omega) M1.out hm2).of_rot RT.out har heb hb, S6⟩)
              · have y1 : (decide ((a : Int) < (r : Int)) && decide ((r : Int) < (mid : Int))) = false := by rw [Bool.and_eq_false_iff, decide_eq_false_iff_not, decide_eq_false_iff_not]; omega
                have y2 : ¬ ((a : Int) < (r : Int) ∧ (r : Int) < (mid : Int)) := by omega
                by_cases hrot : r < m ∧ m < e
                · have x1 : (r : Int) < (m : Int) := by omega
                  have x2 : (m : Int) < (e : Int) := by omega
                  first
                    | (exfalso; omega)
                    | (have hcall := rotate (P := P) L k aE zE enc g cb blk off cap r m e d0 d w0 wr R (by omega) S1.out hrot.1 hrot.2 (by omega) (by omega)
                       clear S1
                       go_wp2_with (go_at_fn 147; (with_reducible refine hcall.mono ?_); clear hcall; rintro e1 w1 ⟨rfl, d1, hr1, S2⟩)
                       have RT : Aside (Rot r m e d d1) := hr1
                       have S3 : Aside (SWK enc k w0 blk off d1 w1) := S2
                       have hd1 : d1.size = d.size := hr1.perm.1
                       clear hr1 S2
                       have SP : Aside (Split key tg a r mid e b d1) := by have := CUT.out.split hb RT.out; rw [hmx] at this; exact this
                       have M1 : Aside (Merged key tg a mid d1 d1) := SP.out.one.done hr1 har (by omega)
                       have S5 : Aside (SWK enc k w0 blk off d1 w1) := S3
                       have hd2 : d1.size = d.size := hd1
                       clear S3
                       have hcall := IH.out blk off cap mid e b d0 d1 w0 w1 R (by omega) S5.out hr2.1 hr2.2 (by omega) (by omega) (by omega) (SP.out.two' M1.out (by omega) heb)
                       rw [hd2] at hcall
                       clear S5
                       go_wp2_with (go_at_fn 142; (with_reducible refine hcall.mono ?_); clear hcall; rintro e3 w3 ⟨rfl, d3, hm2, S6⟩)
                       first | go_end0 | ((try simp only [Exit.inBlock, Exit.then]); refine bodyPost_ret (results_none rfl _ _ _) rfl ?_)
                       exact ⟨rfl, d3, (SP.out.join (by omega) (by omega) (by omega) M1.out hm2).of_rot RT.out har heb hb, S6⟩)
                · have x1 : (decide ((r : Int) < (m : Int)) && decide ((m : Int) < (e : Int))) = false := by rw [Bool.and_eq_false_iff, decide_eq_false_iff_not, decide_eq_false_iff_not]; omega
                  have x2 : ¬ ((r : Int) < (m : Int) ∧ (m : Int) < (e : Int)) := by omega
                  first
                    | (exfalso; omega)
                    | (have RT : Aside (Rot r m e d d) := Rot.none hrot hrm hme
                       have S3 : Aside (SWK enc k w0 blk off d wr) := S1
                       have hd1 : d.size = d.size := rfl
                       clear S1
                       have SP : Aside (Split key tg a r mid e b d) := by have := CUT.out.split hb RT.out; rw [hmx] at this; exact this
                       have M1 : Aside (Merged key tg a mid d d) := SP.out.one.done hr1 har (by omega)
                       have S5 : Aside (SWK enc k w0 blk off d wr) := S3
                       have hd2 : d.size = d.size := hd1
                       clear S3
                       have hcall := IH.out blk off cap mid e b d0 d w0 wr R (by omega) S5.out hr2.1 hr2.2 (by omega) (by omega) (by omega) (SP.out.two' M1.out (by omega) heb)
                       skip
                       clear S5
                       go_wp2_with (go_at_fn 142; (with_reducible refine hcall.mono ?_); clear hcall; rintro e3 w3 ⟨rfl, d3, hm2, S6⟩)
                       first | go_end0 | ((try simp only [Exit.inBlock, Exit.then]); refine bodyPost_ret (results_none rfl _ _ _) rfl ?_)
                       exact ⟨rfl, d3, (SP.out.join (by omega) (by omega) (by omega) M1.out hm2).of_rot RT.out har heb hb, S6⟩)
            · have z1 : (decide ((mid : Int) < (e : Int)) && decide ((e : Int) < (b : Int))) = false := by rw [Bool.and_eq_false_iff, decide_eq_false_iff_not, decide_eq_false_iff_not]; omega
              have z2 : ¬ ((mid : Int) < (e : Int) ∧ (e : Int) < (b : Int)) := by omega
              by_cases hr1 : a < r ∧ r < mid
              · have y1 : (a : Int) < (r : Int) := by omega
                have y2 : (r : Int) < (mid : Int) := by omega
                by_cases hrot : r < m ∧ m < e
                · have x1 : (r : Int) < (m : Int) := by omega
                  have x2 : (m : Int) < (e : Int) := by omega
                  first
                    | (exfalso; omega)
                    | (have hcall := rotate (P := P) L k aE zE enc g cb blk off cap r m e d0 d w0 wr R (by omega) S1.out hrot.1 hrot.2 (by omega) (by omega)
                       clear S1
                       go_wp2_with (go_at_fn 147; (with_reducible refine hcall.mono ?_); clear hcall; rintro e1 w1 ⟨rfl, d1, hr1, S2⟩)
                       have RT : Aside (Rot r m e d d1) := hr1
                       have S3 : Aside (SWK enc k w0 blk off d1 w1) := S2
                       have hd1 : d1.size = d.size := hr1.perm.1
                       clear hr1 S2
                       have SP : Aside (Split key tg a r mid e b d1) := by have := CUT.out.split hb RT.out; rw [hmx] at this; exact this
                       have hcall := IH.out blk off cap a r mid d0 d1 w0 w1 R (by omega) S3.out hr1.1 hr1.2 (by omega) (by omega) (by omega) SP.out.one
                       rw [hd1] at hcall
                       clear S3
                       go_wp2_with (go_at_fn 142; (with_reducible refine hcall.mono ?_); clear hcall; rintro e2 w2 ⟨rfl, d2, hm1, S4⟩)
                       have M1 : Aside (Merged key tg a mid d1 d2) := hm1
                       have S5 : Aside (SWK enc k w0 blk off d2 w2) := S4
                       have hd2 : d2.size = d.size := by rw [hm1.perm.1]; exact hd1
                       clear hm1 S4
                       have M2 : Merged key tg mid b d2 d2 := (SP.out.two' M1.out (by omega) heb).done hr2 (by omega) heb
                       have M3 : Aside (Merged key tg a b d d2) := (SP.out.join (by omega) (by omega) (by omega) M1.out M2).of_rot RT.out har heb hb
                       clear M2
                       go_wp2_with fail
                       first | go_end0 | ((try simp only [Exit.inBlock, Exit.then]); refine bodyPost_ret (results_none rfl _ _ _) rfl ?_)
                       exact ⟨rfl, d2, M3.out, S5.out⟩)
                · have x1 : (decide ((r : Int) < (m : Int)) && decide ((m : Int) < (e : Int))) = false := by rw [Bool.and_eq_false_iff, decide_eq_false_iff_not, decide_eq_false_iff_not]; omega
                  have x2 : ¬ ((r : Int) < (m : Int) ∧ (m : Int) < (e : Int)) := by omega
                  first
                    | (exfalso; omega)
                    | (have RT : Aside (Rot r m e d d) := Rot.none hrot hrm hme
                       have S3 : Aside (SWK enc k w0 blk off d wr) := S1
                       have hd1 : d.size = d.size := rfl
                       clear S1
                       have SP : Aside (Split key tg a r mid e b d) := by have := CUT.out.split hb RT.out; rw [hmx] at this; exact this
                       have hcall := IH.out blk off cap a r mid d0 d w0 wr R (by omega) S3.out hr1.1 hr1.2 (by omega) (by omega) (by omega) SP.out.one
                       skip
                       clear S3
                       go_wp2_with (go_at_fn 142; (with_reducible refine hcall.mono ?_); clear hcall; rintro e2 w2 ⟨rfl, d2, hm1, S4⟩)
                       have M1 : Aside (Merged key tg a mid d d2) := hm1
                       have S5 : Aside (SWK enc k w0 blk off d2 w2) := S4
                       have hd2 : d2.size = d.size := by rw [hm1.perm.1]
                       clear hm1 S4
                       have M2 : Merged key tg mid b d2 d2 := (SP.out.two' M1.out (by omega) heb).done hr2 (by omega) heb
                       have M3 : Aside (Merged key tg a b d d2) := (SP.out.join (by omega) (by omega) (by omega) M1.out M2).of_rot RT.out har heb hb
                       clear M2
                       go_wp2_with fail
                       first | go_end0 | ((try simp only [Exit.inBlock, Exit.then]); refine bodyPost_ret (results_none rfl _ _ _) rfl ?_)
                       exact ⟨rfl, d2, M3.out, S5.out⟩)
              · have y1 : (decide ((a : Int) < (r : Int)) && decide ((r : Int) < (mid : Int))) = false := by rw [Bool.and_eq_false_iff, decide_eq_false_iff_not, decide_eq_false_iff_not]; omega
                have y2 : ¬ ((a : Int) < (r : Int) ∧ (r : Int) < (mid : Int)) := by omega
                by_cases hrot : r < m ∧ m < e
                · have x1 : (r : Int) < (m : Int) := by omega
                  have x2 : (m : Int) < (e : Int) := by omega
                  first
                    | (exfalso; omega)
                    | (have hcall := rotate (P := P) L k aE zE enc g cb blk off cap r m e d0 d w0 wr R (by omega) S1.out hrot.1 hrot.2 (by omega) (by omega)
                       clear S1
                       go_wp2_with (go_at_fn 147; (with_reducible refine hcall.mono ?_); clear hcall; rintro e1 w1 ⟨rfl, d1, hr1, S2⟩)
                       have RT : Aside (Rot r m e d d1) := hr1
                       have S3 : Aside (SWK enc k w0 blk off d1 w1) := S2
                       have hd1 : d1.size = d.size := hr1.perm.1
                       clear hr1 S2
                       have SP : Aside (Split key tg a r mid e b d1) := by have := CUT.out.split hb RT.out; rw [hmx] at this; exact this
                       have M1 : Aside (Merged key tg a mid d1 d1) := SP.out.one.done hr1 har (by omega)
                       have S5 : Aside (SWK enc k w0 blk off d1 w1) := S3
                       have hd2 : d1.size = d.size := hd1
                       clear S3
                       have M2 : Merged key tg mid b d1 d1 := (SP.out.two' M1.out (by omega) heb).done hr2 (by omega) heb
                       have M3 : Aside (Merged key tg a b d d1) := (SP.out.join (by omega) (by omega) (by omega) M1.out M2).of_rot RT.out har heb hb
                       clear M2
                       go_wp2_with fail
                       first | go_end0 | ((try simp only [Exit.inBlock, Exit.then]); refine bodyPost_ret (results_none rfl _ _ _) rfl ?_)
                       exact ⟨rfl, d1, M3.out, S5.out⟩)
                · have x1 : (decide ((r : Int) < (m : Int)) && decide ((m : Int) < (e : Int))) = false := by rw [Bool.and_eq_false_iff, decide_eq_false_iff_not, decide_eq_false_iff_not]; omega
                  have x2 : ¬ ((r : Int) < (m : Int) ∧ (m : Int) < (e : Int)) := by omega
                  first
                    | (exfalso; omega)
                    | (have RT : Aside (Rot r m e d d) := Rot.none hrot hrm hme
                       have S3 : Aside (SWK enc k w0 blk off d wr) := S1
                       have hd1 : d.size = d.size := rfl
                       clear S1
                       have SP : Aside (Split key tg a r mid e b d) := by have := CUT.out.split hb RT.out; rw [hmx] at this; exact this
                       have M1 : Aside (Merged key tg a mid d d) := SP.out.one.done hr1 har (by omega)
                       have S5 : Aside (SWK enc k w0 blk off d wr) := S3
                       have hd2 : d.size = d.size := hd1
                       clear S3
                       have M2 : Merged key tg mid b d d := (SP.out.two' M1.out (by omega) heb).done hr2 (by omega) heb
                       have M3 : Aside (Merged key tg a b d d) := (SP.out.join (by omega) (by omega) (by omega) M1.out M2).of_rot RT.out har heb hb
                       clear M2
                       go_wp2_with fail
                       first | go_end0 | ((try simp only [Exit.inBlock, Exit.then]); refine bodyPost_ret (results_none rfl _ _ _) rfl ?_)
                       exact ⟨rfl, d, M3.out, S5.out⟩)
end Go.Proofs.Ytanokgpnmbbajaa.SortLot
end
