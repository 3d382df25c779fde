/- The pure statement of FnPackLog, over numbers and lists. -/
import Derived.Test.YtcbmkonigclceaaPx16
namespace Go.Proofs.Ytcbmkonigclceaa.P
open Go.RowKit Go.Proofs.YtcbmkonigclceaaW.PrintWords Go.Proofs.YtcbmkonigclceaaW.PrintLast
def laws_FnPackLog.Stmt : Prop := ∀ (l0 : List (Int)), l0.length ≤ 9223372036854775807 → (∀ z ∈ l0, (Lit.int .u8 z).wf = true) → ∃ k, laws_FnPackLog.f k l0 = some true
end Go.Proofs.Ytcbmkonigclceaa.P
