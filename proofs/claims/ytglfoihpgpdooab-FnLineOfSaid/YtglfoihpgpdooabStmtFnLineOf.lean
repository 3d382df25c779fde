/- The pure statement of FnLineOf, over numbers and lists. -/
import Derived.Test.YtglfoihpgpdooabPx26
namespace Go.Proofs.Ytglfoihpgpdooab.P
open Go.RowKit Go.Proofs.YtglfoihpgpdooabW.PrintWords Go.Proofs.YtglfoihpgpdooabW.PrintLast
def laws_FnLineOf.Stmt : Prop := ∀ (l0 : List (Int)), l0.length ≤ 9223372036854775807 → (∀ z ∈ l0, (Lit.int .u8 z).wf = true) → ∃ k, laws_FnLineOf.f k l0 = some true
end Go.Proofs.Ytglfoihpgpdooab.P
