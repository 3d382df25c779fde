/- The pure statement of FnExactAddVersion, over numbers and lists. -/
import Derived.Test.YtbjfbmoeboagaaaPx35
namespace Go.Proofs.Ytbjfbmoeboagaaa.P
open Go.RowKit Go.Proofs.YtbjfbmoeboagaaaW.PrintWords Go.Proofs.YtbjfbmoeboagaaaW.PrintLast
def laws_FnExactAddVersion.Stmt : Prop := ∀ (l0 : List (S48)) (a1_0 : Int) (a1_1 : Int) (a1_2 : ByteArray), l0.length ≤ 9223372036854775807 → (∀ z ∈ l0, ((Lit.int .i64 z.f0).wf = true) ∧ ((Lit.int .i64 z.f1).wf = true) ∧ (z.f2.size ≤ 9223372036854775807)) → (Lit.int .i64 a1_0).wf = true → (Lit.int .i64 a1_1).wf = true → a1_2.size ≤ 9223372036854775807 → ∃ k, laws_FnExactAddVersion.f k l0 a1_0 a1_1 a1_2 = some true
end Go.Proofs.Ytbjfbmoeboagaaa.P
