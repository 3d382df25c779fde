/- The pure statement of FnExactPathProof, over numbers and lists. -/
import Derived.Test.YtjgbidklkhohfaaDoorPx16
namespace Go.Proofs.YtjgbidklkhohfaaDoor.P
open Go.RowKit Go.Proofs.YtjgbidklkhohfaaDoorW.PrintWords Go.Proofs.YtjgbidklkhohfaaDoorW.PrintLast
def laws_FnExactPathProof.Stmt : Prop := ∀ (l0 : List (S56)) (a1 : Int) (a2 : ByteArray), l0.length ≤ 9223372036854775807 → (∀ z ∈ l0, ((Lit.int .i64 z.f0).wf = true) ∧ (z.f1.size ≤ 9223372036854775807)) → (Lit.int .i64 a1).wf = true → a2.size ≤ 9223372036854775807 → ∃ k, laws_FnExactPathProof.f k l0 a1 a2 = some true
end Go.Proofs.YtjgbidklkhohfaaDoor.P
