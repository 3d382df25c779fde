/- The copy of a store keeps its sizes. -/
import Derived.Test.YtjgbidklkhohfaaGreatDoorPx0
import Derived.Test.YtjgbidklkhohfaaGreatDoorTPiece
import Derived.Test.YtjgbidklkhohfaaGreatDoorStore
namespace Go.Proofs.YtjgbidklkhohfaaGreatDoor.Mod
open Go.RowKit Go.Proofs.YtjgbidklkhohfaaGreatDoor.P Go.Proofs.YtjgbidklkhohfaaGreatDoor.EvK Go.Proofs.YtjgbidklkhohfaaGreatDoorW.PrintWords Go.Proofs.YtjgbidklkhohfaaGreatDoorW.PrintLast
theorem conv_sized_store (l : List S42) (hl : l.length ≤ 9223372036854775807) (hz : ∀ z ∈ l, z.f1.size ≤ 9223372036854775807) : StoreSized (l.map convPiece) :=
 ⟨by rw [List.length_map]; exact hl, fun v hv => by
  obtain ⟨w, hw, rfl⟩ := List.mem_map.1 hv
  exact hz w hw⟩
end Go.Proofs.YtjgbidklkhohfaaGreatDoor.Mod
