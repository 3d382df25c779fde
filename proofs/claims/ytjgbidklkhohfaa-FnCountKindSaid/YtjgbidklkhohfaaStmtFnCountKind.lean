/- The pure statement of FnCountKind, over numbers and lists. -/
import Derived.Test.YtjgbidklkhohfaaPx11
namespace Go.Proofs.Ytjgbidklkhohfaa.P
open Go.RowKit Go.Proofs.YtjgbidklkhohfaaW.PrintWords Go.Proofs.YtjgbidklkhohfaaW.PrintLast
def laws_FnCountKind.Stmt : Prop := ∀ (l0 : List (Int)), l0.length ≤ 9223372036854775807 → (∀ z ∈ l0, (Lit.int .u8 z).wf = true) → ∃ k, laws_FnCountKind.f k l0 = some true
end Go.Proofs.Ytjgbidklkhohfaa.P
