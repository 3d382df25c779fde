/- The one cell of Go's table deBruijn64tab that digits in base 16 ask for. -/
import Derived.Below
import Derived.RowKit
namespace Go.Proofs.YtjgbidklkhohfaaGreatDoor
open Go Go.RowKit
def GT (w : World) : Prop := w.cell? ⟨5, 15, none⟩ = some (.int .u8 4)
theorem GT_on {w w' : World} (hb : Below w.heap.size w w') (h : GT w) : GT w' := (hb.cell (World.block_lt_of_cell? w _ h)).trans h
end Go.Proofs.YtjgbidklkhohfaaGreatDoor
