-- Gathered by this session's program wip/tool/shake.py out of its own texts and of what the kit's print and the session's patches of it wrote for this claim.
import Derived.Lib.AppendIntMem
import Derived.Lib.ItoaNum
import Derived.Test.YtoiioapkebglgaaDoorCCompileJob5
import Derived.Test.YtoiioapkebglgaaDoorCCompileJob8
section
namespace Go.Proofs.YtoiioapkebglgaaDoor.PH
open Go.RowKit Go.Proofs.YtoiioapkebglgaaDoorW.PrintWords
/-- An error, or none. -/
def IsErr (ev : Value) : Prop := ev = .nilIface ∨ ∃ te pe, ev = .iface te pe
/-- The table of powers of ten reads as the program's text lays it; the greatest length is a number; the two errors are errors. -/
def TabW (w : World) : Prop := Lib.TabIs Tryd.prog w "internal/strconv.uint64pow10" .u64 Lib.pow10Tab ∧ (∃ m, w.cell? ⟨0, 0, none⟩ = some (.int .i64 m)) ∧ (∃ ev, w.cell? ⟨1, 0, none⟩ = some ev ∧ IsErr ev) ∧ (∃ ev, w.cell? ⟨2, 0, none⟩ = some ev ∧ IsErr ev)
theorem tabw_below {w w' : World} (h : TabW w) (hb : Below w.heap.size w w') : TabW w' := by
  obtain ⟨h1, ⟨m, h2⟩, ⟨e1, h3, h4⟩, ⟨e2, h5, h6⟩⟩ := h
  exact ⟨Lib.tabBelow_of_tabIs h1 w' hb, ⟨m, pw_cell_below hb h2⟩, ⟨e1, pw_cell_below hb h3, h4⟩, ⟨e2, pw_cell_below hb h5, h6⟩⟩
/-- The decimal text of a number. -/
def itoaB (n : Int) : ByteArray := ⟨(Lib.itoa n).toArray⟩
end Go.Proofs.YtoiioapkebglgaaDoor.PH
end
