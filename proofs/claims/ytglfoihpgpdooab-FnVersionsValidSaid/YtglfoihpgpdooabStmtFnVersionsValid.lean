/- The pure statement of FnVersionsValid, over numbers and lists. -/
import Derived.Test.YtglfoihpgpdooabPx9
namespace Go.Proofs.Ytglfoihpgpdooab.P
open Go.RowKit Go.Proofs.YtglfoihpgpdooabW.PrintWords Go.Proofs.YtglfoihpgpdooabW.PrintLast
def laws_FnVersionsValid.Stmt : Prop := ∀ (l0 : List (Int)), l0.length ≤ 9223372036854775807 → (∀ z ∈ l0, (Lit.int .u8 z).wf = true) → ∃ k, laws_FnVersionsValid.f k l0 = some true
end Go.Proofs.Ytglfoihpgpdooab.P
