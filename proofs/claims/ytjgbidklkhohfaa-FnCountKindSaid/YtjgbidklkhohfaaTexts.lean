/- What the laws' functions on slices of texts come to. -/

import Derived.Test.YtjgbidklkhohfaaMark
namespace Go.Proofs.Ytjgbidklkhohfaa.Mod
open Go.RowKit Go.Proofs.Ytjgbidklkhohfaa.P Go.Proofs.Ytjgbidklkhohfaa.EvK Go.Proofs.YtjgbidklkhohfaaW.PrintWords Go.Proofs.YtjgbidklkhohfaaW.PrintLast
set_option linter.all false
theorem rdT_nat (ts : List ByteArray) (i : Nat) : rdOf ByteArray.empty ts (i : Int) = ts.getD i ByteArray.empty := by simp [rdOf]
end Go.Proofs.Ytjgbidklkhohfaa.Mod
