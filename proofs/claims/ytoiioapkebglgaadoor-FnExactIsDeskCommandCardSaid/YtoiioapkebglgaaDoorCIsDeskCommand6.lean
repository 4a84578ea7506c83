-- Gathered by this session's program wip/tool/shake.py out of its own texts and of what the kit's print and the session's patches of it wrote for this claim.
import Derived.Test.YtoiioapkebglgaaDoorProg
import Derived.Laws.StructEq
import Derived.Test.YtoiioapkebglgaaDoorCIsDeskCommand1
import Derived.Test.YtoiioapkebglgaaDoorCIsDeskCommand2
import Derived.Test.YtoiioapkebglgaaDoorCIsDeskCommand3
import Derived.Test.YtoiioapkebglgaaDoorCIsDeskCommand4
import Derived.Test.YtoiioapkebglgaaDoorCIsDeskCommand5
section
namespace Go.Proofs.YtoiioapkebglgaaDoor.PC
open Go.RowKit Go.Proofs.YtoiioapkebglgaaDoorW.PrintWords Go.Proofs.YtoiioapkebglgaaDoorW.PrintLast Go.Proofs.YtoiioapkebglgaaDoorW.PrintMore
attribute [local go_sem] max2_int min2_int max_two min_two max_three min_three max_four min_four   -- for this text's walks alone
set_option linter.unusedVariables false
set_option linter.unusedSimpArgs false
def errW : Option Int → Value
  | none => .nilIface
  | some c => .iface 0 (.int .i64 c)
theorem errW_none : errW none = .nilIface := rfl
theorem errW_some (c : Int) : errW (some c) = .iface 0 (.int .i64 c) := rfl
theorem info2 : (Tryd.prog.info? 2).map (fun i => (i.zero, i.size, i.bytes)) = some (some (.int .i64 0), 1, 8) := by kernel_rfl
theorem info9 : (Tryd.prog.info? 9).map (fun i => (i.zero, i.size, i.bytes)) = some (some (.string ⟨#[]⟩), 1, 16) := by kernel_rfl
end Go.Proofs.YtoiioapkebglgaaDoor.PC
end
