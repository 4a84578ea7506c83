-- Gathered by this session's program wip/tool/shake.py out of its own texts and of what the kit's print and the session's patches of it wrote for this claim.
import Derived.Test.YtoiioapkebglgaaDoorProg
import Derived.ArgAppend
import Derived.Below
import Derived.BigQuiet
import Derived.ChangeArms
import Derived.Deep.AppendLies
import Derived.Deep.CutBlock
import Derived.Deep.DeepCutAuto
import Derived.Deep.Draws
import Derived.Deep.LoopGhost
import Derived.Deep.OwnRows
import Derived.Deep.QuietTactic
import Derived.Deep.RegionHeld3
import Derived.Deep.Slices
import Derived.KernelRfl
import Derived.Laws.BitsLemmas
import Derived.Laws.BytesArg
import Derived.Laws.IdiomCopy
import Derived.Laws.MakeOwn
import Derived.Laws.OwnMore
import Derived.Laws.Rows
import Derived.Laws.Slices
import Derived.Laws.StructEq
import Derived.Lib.AppendStr
import Derived.Lib.ConvBytes
import Derived.Maps.AppendAt
import Derived.OpenShut
import Derived.OrdersHeld
import Derived.OwnWalk
import Derived.ProofKit
import Derived.RowKit
import Derived.RowKit3
import Derived.Tactics
import Derived.WalkKit
import Derived.WideLaws
import Derived.Test.YtoiioapkebglgaaDoorCIsDesk6
import Derived.Test.YtoiioapkebglgaaDoorCIsDesk15
section
namespace Go.Proofs.YtoiioapkebglgaaDoor.PK
open Go.RowKit Go.Proofs.YtoiioapkebglgaaDoorW.PrintWords Go.Proofs.YtoiioapkebglgaaDoorW.PrintLast Go.Proofs.YtoiioapkebglgaaDoorW.PrintMore
attribute [local go_sem] max2_int min2_int max_two min_two max_three min_three max_four min_four   -- for this text's walks alone
set_option linter.unusedVariables false
set_option linter.unusedSimpArgs false
open Go.Proofs.YtoiioapkebglgaaDoorW.Opens
theorem opens_48 : Opens Tryd.prog 48 k48 goodS48 :=
  Opens.imp (Opens.iso (fun p => ⟨p.1, p.2.1, p.2.2⟩) (fun _ => rfl) (Opens.struct Tryd.underlying48 [2, 31, 4] (by kernel_rfl) (by kernel_rfl) (OpensL.cons (Opens.i64 Tryd.underlying2) (OpensL.cons (Opens.slice Tryd.underlying31 (by kernel_rfl) (Opens.i64 Tryd.underlying2)) (OpensL.one (Opens.bool Tryd.underlying4)))))) (fun _ h => h)
theorem opens_187 : Opens Tryd.prog 187 k187 goodS187 :=
  Opens.imp (Opens.iso (fun p => ⟨p.1, p.2.1, p.2.2.1, p.2.2.2⟩) (fun _ => rfl) (Opens.struct Tryd.underlying187 [2, 2, 2, 2] (by kernel_rfl) (by kernel_rfl) (OpensL.cons (Opens.i64 Tryd.underlying2) (OpensL.cons (Opens.i64 Tryd.underlying2) (OpensL.cons (Opens.i64 Tryd.underlying2) (OpensL.one (Opens.i64 Tryd.underlying2))))))) (fun _ h => h)
theorem opens_189 : Opens Tryd.prog 189 k189 goodS189 :=
  Opens.imp (Opens.iso (fun p => ⟨p.1, p.2.1, p.2.2⟩) (fun _ => rfl) (Opens.struct Tryd.underlying189 [2, 2, 2] (by kernel_rfl) (by kernel_rfl) (OpensL.cons (Opens.i64 Tryd.underlying2) (OpensL.cons (Opens.i64 Tryd.underlying2) (OpensL.one (Opens.i64 Tryd.underlying2)))))) (fun _ h => h)
theorem opens_52 : Opens Tryd.prog 52 k52 goodS52 :=
  Opens.imp (Opens.iso (fun p => ⟨p.1, p.2.1, p.2.2.1, p.2.2.2.1, p.2.2.2.2.1, p.2.2.2.2.2⟩) (fun _ => rfl) (Opens.struct Tryd.underlying52 [2, 2, 9, 48, 49, 50] (by kernel_rfl) (by kernel_rfl) (OpensL.cons (Opens.i64 Tryd.underlying2) (OpensL.cons (Opens.i64 Tryd.underlying2) (OpensL.cons (Opens.string Tryd.underlying9) (OpensL.cons opens_48 (OpensL.cons (Opens.slice Tryd.underlying49 (by kernel_rfl) opens_187) (OpensL.one (Opens.slice Tryd.underlying50 (by kernel_rfl) opens_189))))))))) (fun _ h => h)
end Go.Proofs.YtoiioapkebglgaaDoor.PK
end
