/- Slices of Branch: the guard on sizes, the copy, equality, as the statements use them. -/
import Derived.Test.YtglfoihpgpdooabPx0
import Derived.Test.YtglfoihpgpdooabEv
namespace Go.Proofs.Ytglfoihpgpdooab.Mod
open Go.RowKit Go.Proofs.Ytglfoihpgpdooab.P Go.Proofs.Ytglfoihpgpdooab.EvK Go.Proofs.YtglfoihpgpdooabW.PrintWords Go.Proofs.YtglfoihpgpdooabW.PrintLast
set_option linter.unusedVariables false
set_option linter.unusedSimpArgs false
theorem rdBranch (xs : List S35) (i : Nat) : rd_T35 xs (i : Int) = xs.getD i z35 := by simp [rd_T35]
end Go.Proofs.Ytglfoihpgpdooab.Mod
