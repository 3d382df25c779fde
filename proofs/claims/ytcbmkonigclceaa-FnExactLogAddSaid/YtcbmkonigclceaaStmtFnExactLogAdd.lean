/- The pure statement of FnExactLogAdd, over numbers and lists. -/
import Derived.Test.YtcbmkonigclceaaPx29
namespace Go.Proofs.Ytcbmkonigclceaa.P
open Go.RowKit Go.Proofs.YtcbmkonigclceaaW.PrintWords Go.Proofs.YtcbmkonigclceaaW.PrintLast
def laws_FnExactLogAdd.Stmt : Prop := ∀ (l0 : List (S70)) (l1 : List (ByteArray)), l0.length ≤ 9223372036854775807 → (∀ z ∈ l0, ((Lit.int .i64 z.f0).wf = true) ∧ (z.f1.size ≤ 9223372036854775807)) → l1.length ≤ 9223372036854775807 → (∀ z ∈ l1, z.size ≤ 9223372036854775807) → ∃ k, laws_FnExactLogAdd.f k l0 l1 = some true
end Go.Proofs.Ytcbmkonigclceaa.P
