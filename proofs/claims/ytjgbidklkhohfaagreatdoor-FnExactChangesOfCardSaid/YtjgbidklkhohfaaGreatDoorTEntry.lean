/- Slices of Entry. -/
import Derived.Test.YtjgbidklkhohfaaGreatDoorPx0
import Derived.Test.YtjgbidklkhohfaaGreatDoorPx4
import Derived.Test.YtjgbidklkhohfaaGreatDoorBase
namespace Go.Proofs.YtjgbidklkhohfaaGreatDoor.Mod
open Go.RowKit Go.Proofs.YtjgbidklkhohfaaGreatDoor.P Go.Proofs.YtjgbidklkhohfaaGreatDoor.EvK Go.Proofs.YtjgbidklkhohfaaGreatDoorW.PrintWords Go.Proofs.YtjgbidklkhohfaaGreatDoorW.PrintLast
theorem rdEntry (xs : List S75) (i : Nat) : rd_T75 xs (i : Int) = xs.getD i z75 := by simp [rd_T75]
theorem printValid_eq (n : Int) : impl_printValid.f n = some (inB n 0 16777212) := by
 unfold impl_printValid.f inB
 by_cases h1 : n ≥ 0 <;> by_cases h2 : n ≤ 16777212 <;> simp [h1, h2] <;> omega
end Go.Proofs.YtjgbidklkhohfaaGreatDoor.Mod
