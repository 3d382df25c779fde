/- Slices of Piece: the guard on sizes, the copy, equality, as the statements use them. -/
import Derived.Test.YtjgbidklkhohfaaPx0
import Derived.Test.YtjgbidklkhohfaaEv
namespace Go.Proofs.Ytjgbidklkhohfaa.Mod
open Go.RowKit Go.Proofs.Ytjgbidklkhohfaa.P Go.Proofs.Ytjgbidklkhohfaa.EvK Go.Proofs.YtjgbidklkhohfaaW.PrintWords Go.Proofs.YtjgbidklkhohfaaW.PrintLast
set_option linter.all false
theorem rdPiece (xs : List S45) (i : Nat) : rd_T45 xs (i : Int) = xs.getD i z45 := by simp [rd_T45]
end Go.Proofs.Ytjgbidklkhohfaa.Mod
