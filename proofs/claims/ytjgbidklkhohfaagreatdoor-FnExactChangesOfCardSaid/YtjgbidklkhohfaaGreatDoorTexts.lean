/- What the laws' functions on slices of texts come to. -/

import Derived.Test.YtjgbidklkhohfaaGreatDoorMark
namespace Go.Proofs.YtjgbidklkhohfaaGreatDoor.Mod
open Go.RowKit Go.Proofs.YtjgbidklkhohfaaGreatDoor.P Go.Proofs.YtjgbidklkhohfaaGreatDoor.EvK Go.Proofs.YtjgbidklkhohfaaGreatDoorW.PrintWords Go.Proofs.YtjgbidklkhohfaaGreatDoorW.PrintLast
set_option linter.all false
theorem rdT_nat (ts : List ByteArray) (i : Nat) : rdOf ByteArray.empty ts (i : Int) = ts.getD i ByteArray.empty := by simp [rdOf]
noncomputable def markString (n : Nat) (k : Int) : List ByteArray := (List.range n).map (fun i => markT (k + ((1 * i : Nat) : Int)))
end Go.Proofs.YtjgbidklkhohfaaGreatDoor.Mod
