/- The pure statement of FnExactBranchesValid, over numbers and lists. -/
import Derived.Test.YtglfoihpgpdooaaPx10
namespace Go.Proofs.Ytglfoihpgpdooaa.P
open Go.RowKit Go.Proofs.YtglfoihpgpdooaaW.PrintWords Go.Proofs.YtglfoihpgpdooaaW.PrintLast
def laws_FnExactBranchesValid.Stmt : Prop := ∀ (l0 : List (S78)) (a1 : Int), l0.length ≤ 9223372036854775807 → (∀ z ∈ l0, (z.f0.size ≤ 9223372036854775807) ∧ ((Lit.int .i64 z.f1).wf = true)) → (Lit.int .i64 a1).wf = true → ∃ k, laws_FnExactBranchesValid.f k l0 a1 = some true
end Go.Proofs.Ytglfoihpgpdooaa.P
