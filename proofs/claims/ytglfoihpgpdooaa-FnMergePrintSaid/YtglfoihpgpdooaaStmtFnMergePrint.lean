/- The pure statement of FnMergePrint, over numbers and lists. -/
import Derived.Test.YtglfoihpgpdooaaPx4
namespace Go.Proofs.Ytglfoihpgpdooaa.P
open Go.RowKit Go.Proofs.YtglfoihpgpdooaaW.PrintWords Go.Proofs.YtglfoihpgpdooaaW.PrintLast
def laws_FnMergePrint.Stmt : Prop := ∀ (l0 : List (Int)), l0.length ≤ 9223372036854775807 → (∀ z ∈ l0, (Lit.int .u8 z).wf = true) → ∃ k, laws_FnMergePrint.f k l0 = some true
end Go.Proofs.Ytglfoihpgpdooaa.P
