/- The pure statement of FnExactBranchesValid: proved. -/
import Derived.Test.YtglfoihpgpdooaaStmtFnExactBranchesValid
import Derived.Test.YtglfoihpgpdooaaBran
namespace Go.Proofs.Ytglfoihpgpdooaa.Pure
open Go.RowKit Go.Proofs.Ytglfoihpgpdooaa.P Go.Proofs.Ytglfoihpgpdooaa.EvK Go.Proofs.Ytglfoihpgpdooaa.Mod Go.Proofs.YtglfoihpgpdooaaW.PrintWords
theorem FnExactBranchesValid : laws_FnExactBranchesValid.Stmt := by
  intro l many hl hq _
  have hz : ∀ z ∈ l, z.f0.size ≤ 9223372036854775807 := fun z h => (hq z h).1
  obtain ⟨t, ht, hle, hok⟩ := szBranch_ev l hl hz 1048576 (by omega) (by omega)
  refine Ev.rounds (g := fun k => laws_FnExactBranchesValid.f k l many) ?_
  unfold laws_FnExactBranchesValid.f
  rw [Ev_bd ht, Ev_ite]
  by_cases h0 : t < 0
  · rw [if_pos h0]
    exact Ev_some.mpr rfl
  rw [if_neg h0]
  have hs := conv_sized_branch l hl hz
  have hlen := (hok (by omega)).1
  have hc := toBranchS_ev l (by omega)
  rw [Ev_bd hc, Ev_bd (spec_bran_ev _ many hs), Ev_bd hc, Ev_bd (impl_bran_ev _ many hs), Ev_ite, if_neg (by simp), Ev_bd hc, Ev_bd (eqBranchS_ev _ _ hs.1), Ev_ite, if_pos (eqb_self _)]
  exact Ev_some.mpr rfl
end Go.Proofs.Ytglfoihpgpdooaa.Pure
