/- The pure statement of FnExactMergePrint, over numbers and lists. -/
import Derived.Test.YtglfoihpgpdooaaPx1
namespace Go.Proofs.Ytglfoihpgpdooaa.P
open Go.RowKit Go.Proofs.YtglfoihpgpdooaaW.PrintWords Go.Proofs.YtglfoihpgpdooaaW.PrintLast
def laws_FnExactMergePrint.Stmt : Prop := ∀ (a0 : Int) (a1 : Int) (a2 : Int), (Lit.int .i64 a0).wf = true → (Lit.int .i64 a1).wf = true → (Lit.int .i64 a2).wf = true → ∃ k, laws_FnExactMergePrint.f k a0 a1 a2 = some true
end Go.Proofs.Ytglfoihpgpdooaa.P
