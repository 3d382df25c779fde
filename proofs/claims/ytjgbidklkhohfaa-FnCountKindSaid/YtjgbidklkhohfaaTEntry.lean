/- Slices of Entry. -/
import Derived.Test.YtjgbidklkhohfaaPx0
import Derived.Test.YtjgbidklkhohfaaBase
namespace Go.Proofs.Ytjgbidklkhohfaa.Mod
open Go.RowKit Go.Proofs.Ytjgbidklkhohfaa.P Go.Proofs.Ytjgbidklkhohfaa.EvK Go.Proofs.YtjgbidklkhohfaaW.PrintWords Go.Proofs.YtjgbidklkhohfaaW.PrintLast
theorem rdEntry (xs : List S79) (i : Nat) : rd_T79 xs (i : Int) = xs.getD i z79 := by simp [rd_T79]
end Go.Proofs.Ytjgbidklkhohfaa.Mod
