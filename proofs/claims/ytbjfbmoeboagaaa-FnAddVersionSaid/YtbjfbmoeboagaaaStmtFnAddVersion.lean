/- The pure statement of FnAddVersion, over numbers and lists. -/
import Derived.Test.YtbjfbmoeboagaaaPx16
namespace Go.Proofs.Ytbjfbmoeboagaaa.P
open Go.RowKit Go.Proofs.YtbjfbmoeboagaaaW.PrintWords Go.Proofs.YtbjfbmoeboagaaaW.PrintLast
def laws_FnAddVersion.Stmt : Prop := ∀ (l0 : List (Int)), l0.length ≤ 9223372036854775807 → (∀ z ∈ l0, (Lit.int .u8 z).wf = true) → ∃ k, laws_FnAddVersion.f k l0 = some true
end Go.Proofs.Ytbjfbmoeboagaaa.P
