/- Slices of Piece: the guard on sizes, the copy, equality, as the statements use them. -/
import Derived.Test.YtcbmkonigclceaaPx0
import Derived.Test.YtcbmkonigclceaaEv
namespace Go.Proofs.Ytcbmkonigclceaa.Mod
open Go.RowKit Go.Proofs.Ytcbmkonigclceaa.P Go.Proofs.Ytcbmkonigclceaa.EvK Go.Proofs.YtcbmkonigclceaaW.PrintWords Go.Proofs.YtcbmkonigclceaaW.PrintLast
set_option linter.all false
theorem rdPiece (xs : List S65) (i : Nat) : rd_T65 xs (i : Int) = xs.getD i z65 := by simp [rd_T65]
end Go.Proofs.Ytcbmkonigclceaa.Mod
