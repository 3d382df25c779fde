/- The pure statement of FnExactMergePrint: proved. -/
import Derived.Test.YtglfoihpgpdooaaStmtFnExactMergePrint
import Derived.Test.YtglfoihpgpdooaaMerge
namespace Go.Proofs.Ytglfoihpgpdooaa.Pure
open Go.RowKit Go.Proofs.Ytglfoihpgpdooaa.P Go.Proofs.Ytglfoihpgpdooaa.EvK Go.Proofs.Ytglfoihpgpdooaa.Mod Go.Proofs.YtglfoihpgpdooaaW.PrintWords
theorem FnExactMergePrint : laws_FnExactMergePrint.Stmt := by
  intro x a b _ _ _
  refine Ev.rounds (g := fun k => laws_FnExactMergePrint.f k x a b) ?_
  unfold laws_FnExactMergePrint.f
  rw [Ev_bd (spec_merge_ev x a b), Ev_bd (impl_merge_ev x a b), Ev_ite, if_pos rfl, Ev_ite, if_neg (by simp)]
  exact Ev_some.mpr rfl
end Go.Proofs.Ytglfoihpgpdooaa.Pure
