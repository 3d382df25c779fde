/- Slices of Entry. -/
import Derived.Test.YtcbmkonigclceaaPx0
import Derived.Test.YtcbmkonigclceaaBase
namespace Go.Proofs.Ytcbmkonigclceaa.Mod
open Go.RowKit Go.Proofs.Ytcbmkonigclceaa.P Go.Proofs.Ytcbmkonigclceaa.EvK Go.Proofs.YtcbmkonigclceaaW.PrintWords Go.Proofs.YtcbmkonigclceaaW.PrintLast
theorem rdEntry (xs : List S109) (i : Nat) : rd_T109 xs (i : Int) = xs.getD i z109 := by simp [rd_T109]
end Go.Proofs.Ytcbmkonigclceaa.Mod
