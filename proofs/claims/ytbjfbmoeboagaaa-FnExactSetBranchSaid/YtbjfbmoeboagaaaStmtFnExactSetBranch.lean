/- The pure statement of FnExactSetBranch, over numbers and lists. -/
import Derived.Test.YtbjfbmoeboagaaaPx89
namespace Go.Proofs.Ytbjfbmoeboagaaa.P
open Go.RowKit Go.Proofs.YtbjfbmoeboagaaaW.PrintWords Go.Proofs.YtbjfbmoeboagaaaW.PrintLast
def laws_FnExactSetBranch.Stmt : Prop := ∀ (l0 : List (S69)) (a1 : Int) (a2_0 : ByteArray) (a2_1 : Int), l0.length ≤ 9223372036854775807 → (∀ z ∈ l0, (z.f0.size ≤ 9223372036854775807) ∧ ((Lit.int .i64 z.f1).wf = true)) → (Lit.int .i64 a1).wf = true → a2_0.size ≤ 9223372036854775807 → (Lit.int .i64 a2_1).wf = true → ∃ k, laws_FnExactSetBranch.f k l0 a1 a2_0 a2_1 = some true
end Go.Proofs.Ytbjfbmoeboagaaa.P
