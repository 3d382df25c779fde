/- Slices of Entry. -/
import Derived.Test.YtjgbidklkhohfaaDoorPx0
import Derived.Test.YtjgbidklkhohfaaDoorPx2
import Derived.Test.YtjgbidklkhohfaaDoorBase
namespace Go.Proofs.YtjgbidklkhohfaaDoor.Mod
open Go.RowKit Go.Proofs.YtjgbidklkhohfaaDoor.P Go.Proofs.YtjgbidklkhohfaaDoor.EvK Go.Proofs.YtjgbidklkhohfaaDoorW.PrintWords Go.Proofs.YtjgbidklkhohfaaDoorW.PrintLast
theorem rdEntry (xs : List S63) (i : Nat) : rd_T63 xs (i : Int) = xs.getD i z63 := by simp [rd_T63]
theorem printValid_eq (n : Int) : impl_printValid.f n = some (inB n 0 16777212) := by
  unfold impl_printValid.f inB
  by_cases h1 : n ≥ 0 <;> by_cases h2 : n ≤ 16777212 <;> simp [h1, h2] <;> omega
end Go.Proofs.YtjgbidklkhohfaaDoor.Mod
