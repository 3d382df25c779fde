/- The pure statement of FnExactNearestBoth, over numbers and lists. -/
import Derived.Test.YtglfoihpgpdooabPx38
namespace Go.Proofs.Ytglfoihpgpdooab.P
open Go.RowKit Go.Proofs.YtglfoihpgpdooabW.PrintWords Go.Proofs.YtglfoihpgpdooabW.PrintLast
def laws_FnExactNearestBoth.Stmt : Prop := ∀ (l0 : List (S76)) (a1 : Int) (a2 : Int), l0.length ≤ 9223372036854775807 → (∀ z ∈ l0, ((Lit.int .i64 z.f0).wf = true) ∧ ((Lit.int .i64 z.f1).wf = true) ∧ (z.f2.size ≤ 9223372036854775807)) → (Lit.int .i64 a1).wf = true → (Lit.int .i64 a2).wf = true → ∃ k, laws_FnExactNearestBoth.f k l0 a1 a2 = some true
end Go.Proofs.Ytglfoihpgpdooab.P
