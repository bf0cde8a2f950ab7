/-
  The three tables that the rows list: what the list gives, and a world for the witness in which they lie as their initialisers lay them.
-/
import Derived.Test.YtflpdapalfgodaaDoorCards
import Derived.Test.YtflpdapalfgodaaDoorTie
import Derived.Test.YtflpdapalfgodaaDoorBase
import Derived.Deep.DeepHandedRow
import Derived.Lib.LaidTab
import Derived.Lib.SmallJoins
import Derived.Stop.LaidErr
import Derived.Shelf.Strconv.Itoa3
namespace Go.Proofs.YtflpdapalfgodaaDoor
open Go.ChangeShapes Go.WideShapes Go.ChangeAt Go.RowKit

theorem own : ownKnob Tryd.prog.godebug = none := by kernel_rfl
theorem laidOut : laidOutB Tryd.prog = true := by kernel_rfl
theorem gTab : Tryd.prog.globalNamed "internal/strconv.uint64pow10" = some 1 := by kernel_rfl
theorem gTabType : (Tryd.prog.globals[1]?).map (·.type) = some 77 := by kernel_rfl
theorem cellsTab : Tryd.prog.cellsOf 77 = 20 := by kernel_rfl
theorem cellsElem : Tryd.prog.cellsOf 69 = 1 := by kernel_rfl
/-- The table of powers lies as it should. -/
def Tab (w : World) : Prop := Lib.TabIs Tryd.prog w "internal/strconv.uint64pow10" .u64 Lib.pow10Tab
theorem Tab.below {w w' : World} (h : Tab w) (hb : Below w.heap.size w w') : Tab w' := Joins.tab_stays gTab h hb (Nat.le_refl _)
theorem table {W : World} (h : laidMetH Tryd.prog [("math/bits.deBruijn32tab", Rows.laid_math_bits_deBruijn32tab), ("math/bits.deBruijn64tab", Rows.laid_math_bits_deBruijn64tab), ("internal/strconv.uint64pow10", Rows.laid_internal_strconv_uint64pow10)] W) : Tab W :=
  Lib.tabIs_of_head (rest := []) gTab gTabType Tryd.underlying77 Tryd.underlying69 cellsElem cellsTab (laidMet.tail (laidMet.tail h))

def tabCells : DataW Unit → Array Value
  | .agg l => (l.map fun | .lit (.int k z) => Value.int k z | _ => Value.nilIface).toArray
  | _ => #[]
def setTab (cs : Array Value) : Obj → Obj
  | .cells _ t frozen => .cells cs t frozen
  | o => o
noncomputable def laidWorld (os : Os) : World :=
  { World.holding Tryd.prog os ⟨#[], #[], []⟩ with heap := (((World.holding Tryd.prog os ⟨#[], #[], []⟩).heap.modify 1 (setTab (tabCells Rows.laid_internal_strconv_uint64pow10))).modify 2 (setTab (tabCells Rows.laid_math_bits_deBruijn32tab))).modify 3 (setTab (tabCells Rows.laid_math_bits_deBruijn64tab)) }
end Go.Proofs.YtflpdapalfgodaaDoor
