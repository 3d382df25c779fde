/- The pure statement of FnJoinStores, over numbers and lists. -/
import Derived.Test.YtcbmkonigclceaaPx11
namespace Go.Proofs.Ytcbmkonigclceaa.P
open Go.RowKit Go.Proofs.YtcbmkonigclceaaW.PrintWords Go.Proofs.YtcbmkonigclceaaW.PrintLast
def laws_FnJoinStores.Stmt : Prop := ∀ (l0 : List (Int)), l0.length ≤ 9223372036854775807 → (∀ z ∈ l0, (Lit.int .u8 z).wf = true) → ∃ k, laws_FnJoinStores.f k l0 = some true
end Go.Proofs.Ytcbmkonigclceaa.P
