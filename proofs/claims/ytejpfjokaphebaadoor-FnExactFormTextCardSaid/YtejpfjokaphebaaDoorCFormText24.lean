-- Gathered by this session's program wip/tool/shake.py out of its own texts and of what the kit's print and the session's patches of it wrote for this claim.
import Derived.Test.YtejpfjokaphebaaDoorProg
import Derived.ArgAppend
import Derived.Below
import Derived.BigQuiet
import Derived.ChangeArms
import Derived.Deep.AppendLies
import Derived.Deep.CutBlock
import Derived.Deep.DeepCutAuto
import Derived.Deep.Draws
import Derived.Deep.LoopGhost
import Derived.Deep.OwnRows
import Derived.Deep.QuietTactic
import Derived.Deep.RegionHeld3
import Derived.Deep.Slices
import Derived.KernelRfl
import Derived.Laws.BitsLemmas
import Derived.Laws.BytesArg
import Derived.Laws.IdiomCopy
import Derived.Laws.MakeOwn
import Derived.Laws.OwnMore
import Derived.Laws.Rows
import Derived.Laws.Slices
import Derived.Laws.StructEq
import Derived.Lib.AppendStr
import Derived.Lib.ConvBytes
import Derived.Maps.AppendAt
import Derived.OpenShut
import Derived.OrdersHeld
import Derived.OwnWalk
import Derived.ProofKit
import Derived.RowKit
import Derived.RowKit3
import Derived.Tactics
import Derived.WalkKit
import Derived.WideLaws
import Derived.Test.YtejpfjokaphebaaDoorCFormText8
import Derived.Test.YtejpfjokaphebaaDoorCFormText23
section
namespace Go.Proofs.YtejpfjokaphebaaDoor.PC
open Go.RowKit Go.Proofs.YtejpfjokaphebaaDoorW.PrintWords Go.Proofs.YtejpfjokaphebaaDoorW.PrintLast Go.Proofs.YtejpfjokaphebaaDoorW.PrintMore
attribute [local go_sem] max2_int min2_int max_two min_two max_three min_three max_four min_four   -- for this text's walks alone
set_option linter.unusedVariables false
set_option linter.unusedSimpArgs false
open Go.Proofs.YtejpfjokaphebaaDoorW.Opens
theorem opens_69 : Opens Tryd.prog 69 k69 goodS69 :=
  Opens.imp (Opens.iso (fun p => ⟨p.1, p.2.1, p.2.2.1, p.2.2.2.1, p.2.2.2.2⟩) (fun _ => rfl) (Opens.struct Tryd.underlying69 [2, 2, 22, 22, 22] (by kernel_rfl) (by kernel_rfl) (OpensL.cons (Opens.i64 Tryd.underlying2) (OpensL.cons (Opens.i64 Tryd.underlying2) (OpensL.cons (Opens.slice Tryd.underlying22 (by kernel_rfl) (Opens.i64 Tryd.underlying2)) (OpensL.cons (Opens.slice Tryd.underlying22 (by kernel_rfl) (Opens.i64 Tryd.underlying2)) (OpensL.one (Opens.slice Tryd.underlying22 (by kernel_rfl) (Opens.i64 Tryd.underlying2))))))))) (fun _ h => h)
end Go.Proofs.YtejpfjokaphebaaDoor.PC
end
