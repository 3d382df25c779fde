/- The copy of a store keeps its sizes. -/
import Derived.Test.YtjgbidklkhohfaaDoorPx0
import Derived.Test.YtjgbidklkhohfaaDoorTPiece
import Derived.Test.YtjgbidklkhohfaaDoorStore
namespace Go.Proofs.YtjgbidklkhohfaaDoor.Mod
open Go.RowKit Go.Proofs.YtjgbidklkhohfaaDoor.P Go.Proofs.YtjgbidklkhohfaaDoor.EvK Go.Proofs.YtjgbidklkhohfaaDoorW.PrintWords Go.Proofs.YtjgbidklkhohfaaDoorW.PrintLast
theorem conv_sized_store (l : List S56) (hl : l.length ≤ 9223372036854775807) (hz : ∀ z ∈ l, z.f1.size ≤ 9223372036854775807) : StoreSized (l.map convPiece) :=
  ⟨by rw [List.length_map]; exact hl, fun v hv => by
    obtain ⟨w, hw, rfl⟩ := List.mem_map.1 hv
    exact hz w hw⟩
end Go.Proofs.YtjgbidklkhohfaaDoor.Mod
