/- The pure statement of FnDropBranch, over numbers and lists. -/
import Derived.Test.YtbjfbmoeboagaaaPx54
namespace Go.Proofs.Ytbjfbmoeboagaaa.P
open Go.RowKit Go.Proofs.YtbjfbmoeboagaaaW.PrintWords Go.Proofs.YtbjfbmoeboagaaaW.PrintLast
def laws_FnDropBranch.Stmt : Prop := ∀ (l0 : List (Int)), l0.length ≤ 9223372036854775807 → (∀ z ∈ l0, (Lit.int .u8 z).wf = true) → ∃ k, laws_FnDropBranch.f k l0 = some true
end Go.Proofs.Ytbjfbmoeboagaaa.P
