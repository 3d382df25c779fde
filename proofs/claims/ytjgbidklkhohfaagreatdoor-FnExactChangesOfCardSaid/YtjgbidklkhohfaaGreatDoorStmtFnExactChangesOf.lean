/- The pure statement of FnExactChangesOf, over numbers and lists. -/
import Derived.Test.YtjgbidklkhohfaaGreatDoorPx15
namespace Go.Proofs.YtjgbidklkhohfaaGreatDoor.P
open Go.RowKit Go.Proofs.YtjgbidklkhohfaaGreatDoorW.PrintWords Go.Proofs.YtjgbidklkhohfaaGreatDoorW.PrintLast
def laws_FnExactChangesOf.Stmt : Prop := ∀ (l0 : List (S42)) (a1 : Int) (a2 : Int), l0.length ≤ 9223372036854775807 → (∀ z ∈ l0, ((Lit.int .i64 z.f0).wf = true) ∧ (z.f1.size ≤ 9223372036854775807)) → (Lit.int .i64 a1).wf = true → (Lit.int .i64 a2).wf = true → ∃ k, laws_FnExactChangesOf.f k l0 a1 a2 = some true
end Go.Proofs.YtjgbidklkhohfaaGreatDoor.P
