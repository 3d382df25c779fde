/- The pure statement of FnExactAbsenceRight, over numbers and lists. -/
import Derived.Test.YtjgbidklkhohfaaDoorPx11
namespace Go.Proofs.YtjgbidklkhohfaaDoor.P
open Go.RowKit Go.Proofs.YtjgbidklkhohfaaDoorW.PrintWords Go.Proofs.YtjgbidklkhohfaaDoorW.PrintLast
def laws_FnExactAbsenceRight.Stmt : Prop := ∀ (a0 : Int) (a1 : ByteArray) (l2 : List (ByteArray)), (Lit.int .i64 a0).wf = true → a1.size ≤ 9223372036854775807 → l2.length ≤ 9223372036854775807 → (∀ z ∈ l2, z.size ≤ 9223372036854775807) → ∃ k, laws_FnExactAbsenceRight.f k a0 a1 l2 = some true
end Go.Proofs.YtjgbidklkhohfaaDoor.P
