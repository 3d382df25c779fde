/- The pure statement of FnExactAllFiles, over numbers and lists. -/
import Derived.Test.YtjgbidklkhohfaaDoorPx14
namespace Go.Proofs.YtjgbidklkhohfaaDoor.P
open Go.RowKit Go.Proofs.YtjgbidklkhohfaaDoorW.PrintWords Go.Proofs.YtjgbidklkhohfaaDoorW.PrintLast
def laws_FnExactAllFiles.Stmt : Prop := ∀ (l0 : List (S56)) (a1 : Int), l0.length ≤ 9223372036854775807 → (∀ z ∈ l0, ((Lit.int .i64 z.f0).wf = true) ∧ (z.f1.size ≤ 9223372036854775807)) → (Lit.int .i64 a1).wf = true → ∃ k, laws_FnExactAllFiles.f k l0 a1 = some true
end Go.Proofs.YtjgbidklkhohfaaDoor.P
