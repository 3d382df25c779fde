/- The pure statement of FnPutText, over numbers and lists. -/
import Derived.Test.YtcbmkonigclceaaPx13
namespace Go.Proofs.Ytcbmkonigclceaa.P
open Go.RowKit Go.Proofs.YtcbmkonigclceaaW.PrintWords Go.Proofs.YtcbmkonigclceaaW.PrintLast
def laws_FnPutText.Stmt : Prop := ∀ (l0 : List (Int)), l0.length ≤ 9223372036854775807 → (∀ z ∈ l0, (Lit.int .u8 z).wf = true) → ∃ k, laws_FnPutText.f k l0 = some true
end Go.Proofs.Ytcbmkonigclceaa.P
