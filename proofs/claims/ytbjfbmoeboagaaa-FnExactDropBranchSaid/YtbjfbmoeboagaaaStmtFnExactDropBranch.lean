/- The pure statement of FnExactDropBranch, over numbers and lists. -/
import Derived.Test.YtbjfbmoeboagaaaPx79
namespace Go.Proofs.Ytbjfbmoeboagaaa.P
open Go.RowKit Go.Proofs.YtbjfbmoeboagaaaW.PrintWords Go.Proofs.YtbjfbmoeboagaaaW.PrintLast
def laws_FnExactDropBranch.Stmt : Prop := ∀ (l0 : List (S69)) (a1 : Int) (a2 : ByteArray), l0.length ≤ 9223372036854775807 → (∀ z ∈ l0, (z.f0.size ≤ 9223372036854775807) ∧ ((Lit.int .i64 z.f1).wf = true)) → (Lit.int .i64 a1).wf = true → a2.size ≤ 9223372036854775807 → ∃ k, laws_FnExactDropBranch.f k l0 a1 a2 = some true
end Go.Proofs.Ytbjfbmoeboagaaa.P
