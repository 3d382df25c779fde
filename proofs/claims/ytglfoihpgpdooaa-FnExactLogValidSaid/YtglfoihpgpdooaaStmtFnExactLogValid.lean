/- The pure statement of FnExactLogValid, over numbers and lists. -/
import Derived.Test.YtglfoihpgpdooaaPx6
namespace Go.Proofs.Ytglfoihpgpdooaa.P
open Go.RowKit Go.Proofs.YtglfoihpgpdooaaW.PrintWords Go.Proofs.YtglfoihpgpdooaaW.PrintLast
def laws_FnExactLogValid.Stmt : Prop := ∀ (l0 : List (S72)), l0.length ≤ 9223372036854775807 → (∀ z ∈ l0, ((Lit.int .i64 z.f0).wf = true) ∧ (z.f1.size ≤ 9223372036854775807)) → ∃ k, laws_FnExactLogValid.f k l0 = some true
end Go.Proofs.Ytglfoihpgpdooaa.P
