-- Gathered by this session's program wip/tool/shake.py out of its own texts and of what the kit's print and the session's patches of it wrote for this claim.
import Derived.Test.YtejpfjokaphebaaDoorProg
import Derived.ArgAppend
import Derived.Below
import Derived.BigQuiet
import Derived.ChangeArms
import Derived.Deep.AppendLies
import Derived.Deep.CutBlock
import Derived.Deep.DeepCutAuto
import Derived.Deep.Draws
import Derived.Deep.LoopGhost
import Derived.Deep.OwnRows
import Derived.Deep.QuietTactic
import Derived.Deep.RegionHeld3
import Derived.Deep.Slices
import Derived.KernelRfl
import Derived.Laws.BitsLemmas
import Derived.Laws.BytesArg
import Derived.Laws.IdiomCopy
import Derived.Laws.MakeOwn
import Derived.Laws.OwnMore
import Derived.Laws.Rows
import Derived.Laws.Slices
import Derived.Laws.StructEq
import Derived.Lib.AppendStr
import Derived.Lib.ConvBytes
import Derived.Maps.AppendAt
import Derived.OpenShut
import Derived.OrdersHeld
import Derived.OwnWalk
import Derived.ProofKit
import Derived.RowKit
import Derived.RowKit3
import Derived.Tactics
import Derived.WalkKit
import Derived.WideLaws
import Derived.Test.YtejpfjokaphebaaDoorCJobText6
import Derived.Test.YtejpfjokaphebaaDoorCJobText15
section
namespace Go.Proofs.YtejpfjokaphebaaDoor.PB
open Go.RowKit Go.Proofs.YtejpfjokaphebaaDoorW.PrintWords Go.Proofs.YtejpfjokaphebaaDoorW.PrintLast Go.Proofs.YtejpfjokaphebaaDoorW.PrintMore
attribute [local go_sem] max2_int min2_int max_two min_two max_three min_three max_four min_four   -- for this text's walks alone
set_option linter.unusedVariables false
set_option linter.unusedSimpArgs false
open Go.Proofs.YtejpfjokaphebaaDoorW.Opens
theorem opens_44 : Opens Tryd.prog 44 k44 goodS44 :=
  Opens.imp (Opens.iso (fun p => ⟨p.1, p.2.1, p.2.2.1, p.2.2.2⟩) (fun _ => rfl) (Opens.struct Tryd.underlying44 [2, 2, 2, 2] (by kernel_rfl) (by kernel_rfl) (OpensL.cons (Opens.i64 Tryd.underlying2) (OpensL.cons (Opens.i64 Tryd.underlying2) (OpensL.cons (Opens.i64 Tryd.underlying2) (OpensL.one (Opens.i64 Tryd.underlying2))))))) (fun _ h => h)
theorem opens_46 : Opens Tryd.prog 46 k46 goodS46 :=
  Opens.imp (Opens.iso (fun p => ⟨p.1, p.2⟩) (fun _ => rfl) (Opens.struct Tryd.underlying46 [2, 2] (by kernel_rfl) (by kernel_rfl) (OpensL.cons (Opens.i64 Tryd.underlying2) (OpensL.one (Opens.i64 Tryd.underlying2))))) (fun _ h => h)
theorem opens_48 : Opens Tryd.prog 48 k48 goodS48 :=
  Opens.imp (Opens.iso (fun p => ⟨p.1, p.2.1, p.2.2.1, p.2.2.2.1, p.2.2.2.2.1, p.2.2.2.2.2⟩) (fun _ => rfl) (Opens.struct Tryd.underlying48 [9, 2, 44, 46, 2, 2] (by kernel_rfl) (by kernel_rfl) (OpensL.cons (Opens.string Tryd.underlying9) (OpensL.cons (Opens.i64 Tryd.underlying2) (OpensL.cons opens_44 (OpensL.cons opens_46 (OpensL.cons (Opens.i64 Tryd.underlying2) (OpensL.one (Opens.i64 Tryd.underlying2))))))))) (fun _ h => h)
end Go.Proofs.YtejpfjokaphebaaDoor.PB
end
