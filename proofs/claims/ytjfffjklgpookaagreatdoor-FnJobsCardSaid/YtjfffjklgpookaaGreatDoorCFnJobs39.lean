import Derived.Lib.JoinLaws
import Derived.Test.YtjfffjklgpookaaGreatDoorCFnJobs24
import Derived.Test.YtjfffjklgpookaaGreatDoorCFnJobs38
set_option linter.unusedVariables false
set_option linter.unusedSimpArgs false
section
namespace Go.Proofs.YtjfffjklgpookaaGreatDoor.PJ
open Go.RowKit Go.Proofs.YtjfffjklgpookaaGreatDoorW.PrintWords Go.Proofs.YtjfffjklgpookaaGreatDoorB
theorem joinB_one (x s : ByteArray) : joinB [x] s = x := by
 refine ba_ext ?_
 simp [joinB, Lib.join_one]
theorem joinB_two (x y s : ByteArray) (r : List ByteArray) : joinB (x :: y :: r) s = x ++ (s ++ joinB (y :: r) s) := by
 refine ba_ext ?_
 simp only [joinB, List.map_cons, Lib.join_cons, Lib.joinTail, List.flatten_cons, ByteArray.data_append, Array.toList_append, List.append_assoc]
theorem strings_Join_eq {l : List ByteArray} {s : ByteArray} (h1 : l.length ≤ 1000000) (h2 : (joinB l s).size ≤ 1000000000) : strings_Join.f l s = some (joinB l s) := by
 unfold strings_Join.f
 rw [if_pos ⟨h1, h2⟩]
end Go.Proofs.YtjfffjklgpookaaGreatDoor.PJ
end
