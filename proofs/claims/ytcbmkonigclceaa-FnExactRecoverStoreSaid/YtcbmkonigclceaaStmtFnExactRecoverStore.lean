/- The pure statement of FnExactRecoverStore, over numbers and lists. -/
import Derived.Test.YtcbmkonigclceaaPx13
namespace Go.Proofs.Ytcbmkonigclceaa.P
open Go.RowKit Go.Proofs.YtcbmkonigclceaaW.PrintWords Go.Proofs.YtcbmkonigclceaaW.PrintLast
def laws_FnExactRecoverStore.Stmt : Prop := ∀ (l0 : List (S70)), l0.length ≤ 9223372036854775807 → (∀ z ∈ l0, ((Lit.int .i64 z.f0).wf = true) ∧ (z.f1.size ≤ 9223372036854775807)) → ∃ k, laws_FnExactRecoverStore.f k l0 = some true
end Go.Proofs.Ytcbmkonigclceaa.P
