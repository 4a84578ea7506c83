import Derived.Lib.AppendIntMem
import Derived.Lib.ItoaNum
import Derived.Test.YtokpepaoneiepaaGreatDoorCFnSides5
import Derived.Test.YtokpepaoneiepaaGreatDoorCFnSides12
set_option linter.unusedVariables false
set_option linter.unusedSimpArgs false
section
namespace Go.Proofs.YtokpepaoneiepaaGreatDoor.PL
open Go.RowKit Go.Proofs.YtokpepaoneiepaaGreatDoorW.PrintWords
def IsErr (ev : Value) : Prop := ev = .nilIface ∨ ∃ te pe, ev = .iface te pe
def TabW (w : World) : Prop := Lib.TabIs Tryz.prog w "internal/strconv.uint64pow10" .u64 Lib.pow10Tab ∧ (∃ m, w.cell? ⟨0, 0, none⟩ = some (.int .i64 m)) ∧ (∃ ev, w.cell? ⟨1, 0, none⟩ = some ev ∧ IsErr ev) ∧ (∃ ev, w.cell? ⟨2, 0, none⟩ = some ev ∧ IsErr ev)
theorem tabw_below {w w' : World} (h : TabW w) (hb : Below w.heap.size w w') : TabW w' := by
 obtain ⟨h1, ⟨m, h2⟩, ⟨e1, h3, h4⟩, ⟨e2, h5, h6⟩⟩ := h
 exact ⟨Lib.tabBelow_of_tabIs h1 w' hb, ⟨m, pw_cell_below hb h2⟩, ⟨e1, pw_cell_below hb h3, h4⟩, ⟨e2, pw_cell_below hb h5, h6⟩⟩
def itoaB (n : Int) : ByteArray := ⟨(Lib.itoa n).toArray⟩
end Go.Proofs.YtokpepaoneiepaaGreatDoor.PL
end
