/- The pure statement of FnExactTotalSize, over numbers and lists. -/
import Derived.Test.YtjgbidklkhohfaaGreatDoorPx18
namespace Go.Proofs.YtjgbidklkhohfaaGreatDoor.P
open Go.RowKit Go.Proofs.YtjgbidklkhohfaaGreatDoorW.PrintWords Go.Proofs.YtjgbidklkhohfaaGreatDoorW.PrintLast
def laws_FnExactTotalSize.Stmt : Prop := ∀ (l0 : List (S42)) (a1 : Int), l0.length ≤ 9223372036854775807 → (∀ z ∈ l0, ((Lit.int .i64 z.f0).wf = true) ∧ (z.f1.size ≤ 9223372036854775807)) → (Lit.int .i64 a1).wf = true → ∃ k, laws_FnExactTotalSize.f k l0 a1 = some true
end Go.Proofs.YtjgbidklkhohfaaGreatDoor.P
