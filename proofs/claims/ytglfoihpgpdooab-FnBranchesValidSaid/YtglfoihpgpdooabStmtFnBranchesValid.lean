/- The pure statement of FnBranchesValid, over numbers and lists. -/
import Derived.Test.YtglfoihpgpdooabPx3
namespace Go.Proofs.Ytglfoihpgpdooab.P
open Go.RowKit Go.Proofs.YtglfoihpgpdooabW.PrintWords Go.Proofs.YtglfoihpgpdooabW.PrintLast
def laws_FnBranchesValid.Stmt : Prop := ∀ (l0 : List (Int)), l0.length ≤ 9223372036854775807 → (∀ z ∈ l0, (Lit.int .u8 z).wf = true) → ∃ k, laws_FnBranchesValid.f k l0 = some true
end Go.Proofs.Ytglfoihpgpdooab.P
