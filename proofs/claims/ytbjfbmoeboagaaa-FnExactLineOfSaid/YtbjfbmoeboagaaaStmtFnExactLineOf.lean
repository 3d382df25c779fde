/- The pure statement of FnExactLineOf, over numbers and lists. -/
import Derived.Test.YtbjfbmoeboagaaaPx43
namespace Go.Proofs.Ytbjfbmoeboagaaa.P
open Go.RowKit Go.Proofs.YtbjfbmoeboagaaaW.PrintWords Go.Proofs.YtbjfbmoeboagaaaW.PrintLast
def laws_FnExactLineOf.Stmt : Prop := ∀ (l0 : List (S48)) (a1 : Int), l0.length ≤ 9223372036854775807 → (∀ z ∈ l0, ((Lit.int .i64 z.f0).wf = true) ∧ ((Lit.int .i64 z.f1).wf = true) ∧ (z.f2.size ≤ 9223372036854775807)) → (Lit.int .i64 a1).wf = true → ∃ k, laws_FnExactLineOf.f k l0 a1 = some true
end Go.Proofs.Ytbjfbmoeboagaaa.P
