-- Gathered by this session's program wip/tool/shake.py out of its own texts and of what the kit's print and the session's patches of it wrote for this claim.
import Derived.Test.YtoiioapkebglgaaDoorCFnJournals17
import Derived.Test.YtoiioapkebglgaaDoorCFnJournals30
section
namespace Go.Proofs.YtoiioapkebglgaaDoor.PG
open Go.RowKit Go.Proofs.YtoiioapkebglgaaDoorW.PrintWords Go.Proofs.YtoiioapkebglgaaDoorB
set_option linter.unusedVariables false
set_option linter.unusedSimpArgs false
theorem rd_Entry (l : List S70) (i : Nat) : rd_T70 l (i : Int) = l.getD i z70 := by simp [rd_T70]
end Go.Proofs.YtoiioapkebglgaaDoor.PG
end
