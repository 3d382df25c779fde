/- The pure statement of FnExactTipsOf, over numbers and lists. -/
import Derived.Test.YtbjfbmoeboagaaaPx48
namespace Go.Proofs.Ytbjfbmoeboagaaa.P
open Go.RowKit Go.Proofs.YtbjfbmoeboagaaaW.PrintWords Go.Proofs.YtbjfbmoeboagaaaW.PrintLast
def laws_FnExactTipsOf.Stmt : Prop := ∀ (l0 : List (S48)), l0.length ≤ 9223372036854775807 → (∀ z ∈ l0, ((Lit.int .i64 z.f0).wf = true) ∧ ((Lit.int .i64 z.f1).wf = true) ∧ (z.f2.size ≤ 9223372036854775807)) → ∃ k, laws_FnExactTipsOf.f k l0 = some true
end Go.Proofs.Ytbjfbmoeboagaaa.P
