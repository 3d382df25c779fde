/- The pure statement of FnSetBranch, over numbers and lists. -/
import Derived.Test.YtbjfbmoeboagaaaPx91
namespace Go.Proofs.Ytbjfbmoeboagaaa.P
open Go.RowKit Go.Proofs.YtbjfbmoeboagaaaW.PrintWords Go.Proofs.YtbjfbmoeboagaaaW.PrintLast
def laws_FnSetBranch.Stmt : Prop := ∀ (l0 : List (Int)), l0.length ≤ 9223372036854775807 → (∀ z ∈ l0, (Lit.int .u8 z).wf = true) → ∃ k, laws_FnSetBranch.f k l0 = some true
end Go.Proofs.Ytbjfbmoeboagaaa.P
