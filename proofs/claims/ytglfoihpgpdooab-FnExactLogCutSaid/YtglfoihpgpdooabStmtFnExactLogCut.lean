/- The pure statement of FnExactLogCut, over numbers and lists. -/
import Derived.Test.YtglfoihpgpdooabPx32
namespace Go.Proofs.Ytglfoihpgpdooab.P
open Go.RowKit Go.Proofs.YtglfoihpgpdooabW.PrintWords Go.Proofs.YtglfoihpgpdooabW.PrintLast
def laws_FnExactLogCut.Stmt : Prop := ∀ (l0 : List (S70)) (a1 : Int), l0.length ≤ 9223372036854775807 → (∀ z ∈ l0, ((Lit.int .i64 z.f0).wf = true) ∧ (z.f1.size ≤ 9223372036854775807)) → (Lit.int .i64 a1).wf = true → ∃ k, laws_FnExactLogCut.f k l0 a1 = some true
end Go.Proofs.Ytglfoihpgpdooab.P
