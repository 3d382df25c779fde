/- The pure statement of FnRecoverStore, over numbers and lists. -/
import Derived.Test.YtcbmkonigclceaaPx17
namespace Go.Proofs.Ytcbmkonigclceaa.P
open Go.RowKit Go.Proofs.YtcbmkonigclceaaW.PrintWords Go.Proofs.YtcbmkonigclceaaW.PrintLast
def laws_FnRecoverStore.Stmt : Prop := ∀ (l0 : List (Int)), l0.length ≤ 9223372036854775807 → (∀ z ∈ l0, (Lit.int .u8 z).wf = true) → ∃ k, laws_FnRecoverStore.f k l0 = some true
end Go.Proofs.Ytcbmkonigclceaa.P
