/- The pure statement of FnExactAbsenceProof, over numbers and lists. -/
import Derived.Test.YtjgbidklkhohfaaGreatDoorPx13
namespace Go.Proofs.YtjgbidklkhohfaaGreatDoor.P
open Go.RowKit Go.Proofs.YtjgbidklkhohfaaGreatDoorW.PrintWords Go.Proofs.YtjgbidklkhohfaaGreatDoorW.PrintLast
def laws_FnExactAbsenceProof.Stmt : Prop := ∀ (l0 : List (S42)) (a1 : Int) (a2 : ByteArray), l0.length ≤ 9223372036854775807 → (∀ z ∈ l0, ((Lit.int .i64 z.f0).wf = true) ∧ (z.f1.size ≤ 9223372036854775807)) → (Lit.int .i64 a1).wf = true → a2.size ≤ 9223372036854775807 → ∃ k, laws_FnExactAbsenceProof.f k l0 a1 a2 = some true
end Go.Proofs.YtjgbidklkhohfaaGreatDoor.P
