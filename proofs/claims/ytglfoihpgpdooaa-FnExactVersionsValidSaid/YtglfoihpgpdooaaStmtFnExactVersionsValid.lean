/- The pure statement of FnExactVersionsValid, over numbers and lists. -/
import Derived.Test.YtglfoihpgpdooaaPx28
namespace Go.Proofs.Ytglfoihpgpdooaa.P
open Go.RowKit Go.Proofs.YtglfoihpgpdooaaW.PrintWords Go.Proofs.YtglfoihpgpdooaaW.PrintLast
def laws_FnExactVersionsValid.Stmt : Prop := ∀ (l0 : List (S84)), l0.length ≤ 9223372036854775807 → (∀ z ∈ l0, ((Lit.int .i64 z.f0).wf = true) ∧ ((Lit.int .i64 z.f1).wf = true) ∧ (z.f2.size ≤ 9223372036854775807)) → ∃ k, laws_FnExactVersionsValid.f k l0 = some true
end Go.Proofs.Ytglfoihpgpdooaa.P
