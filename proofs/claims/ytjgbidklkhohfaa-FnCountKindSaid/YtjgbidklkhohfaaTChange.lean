/- Slices of Change: the guard on sizes, the copy, equality, as the statements use them. -/
import Derived.Test.YtjgbidklkhohfaaPx0
import Derived.Test.YtjgbidklkhohfaaEv
namespace Go.Proofs.Ytjgbidklkhohfaa.Mod
open Go.RowKit Go.Proofs.Ytjgbidklkhohfaa.P Go.Proofs.Ytjgbidklkhohfaa.EvK Go.Proofs.YtjgbidklkhohfaaW.PrintWords Go.Proofs.YtjgbidklkhohfaaW.PrintLast
set_option linter.all false
theorem rdChange (xs : List S37) (i : Nat) : rd_T37 xs (i : Int) = xs.getD i z37 := by simp [rd_T37]
end Go.Proofs.Ytjgbidklkhohfaa.Mod
