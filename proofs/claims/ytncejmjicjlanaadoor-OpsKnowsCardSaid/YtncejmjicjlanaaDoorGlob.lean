/- What the package variables vector.greater and vector.lesser hold, as facts on memory; each stays when nothing that was there changes. -/
import Derived.Test.YtncejmjicjlanaaDoorProg
import Derived.Below
namespace Go.Proofs.YtncejmjicjlanaaDoor.Q
open Go.RowKit
/-- The variable vector.greater holds its function. -/
def GlobG (w : World) : Prop := w.cell? ⟨0, 0, none⟩ = some (.func (.func 132) #[] #[])
/-- The variable vector.lesser holds its function. -/
def GlobL (w : World) : Prop := w.cell? ⟨1, 0, none⟩ = some (.func (.func 133) #[] #[])
theorem GlobG_below {w w' : World} (h : GlobG w) (hb : Below w.heap.size w w') : GlobG w' := (hb.cell (World.block_lt_of_cell? w _ h)).trans h
theorem GlobL_below {w w' : World} (h : GlobL w) (hb : Below w.heap.size w w') : GlobL w' := (hb.cell (World.block_lt_of_cell? w _ h)).trans h
end Go.Proofs.YtncejmjicjlanaaDoor.Q
