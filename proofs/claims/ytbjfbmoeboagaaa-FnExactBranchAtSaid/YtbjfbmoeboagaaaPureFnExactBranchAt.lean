/- The pure statement of FnExactBranchAt: proved. -/
import Derived.Test.YtbjfbmoeboagaaaStmtFnExactBranchAt
import Derived.Test.YtbjfbmoeboagaaaBranchAt
namespace Go.Proofs.Ytbjfbmoeboagaaa.Pure
open Go.RowKit Go.Proofs.Ytbjfbmoeboagaaa.P Go.Proofs.Ytbjfbmoeboagaaa.EvK Go.Proofs.Ytbjfbmoeboagaaa.Mod Go.Proofs.YtbjfbmoeboagaaaW.PrintWords
theorem FnExactBranchAt : laws_FnExactBranchAt.Stmt := by
  intro l m s hl hq hm hss
  have hz : ∀ z ∈ l, z.f0.size ≤ 9223372036854775807 := fun z h => (hq z h).1
  obtain ⟨t, ht, hle, hok⟩ := szBranch_ev l hl hz 1048576 (by omega) (by omega)
  refine Ev.rounds (g := fun k => laws_FnExactBranchAt.f k l m s) ?_
  unfold laws_FnExactBranchAt.f
  rw [Ev_ite]
  split
  · exact Ev_some.mpr rfl
  rw [Ev_bd ht, Ev_ite]
  by_cases h0 : t < 0
  · rw [if_pos h0]
    exact Ev_some.mpr rfl
  rw [if_neg h0]
  have hs := conv_sized_branch l hl hz
  have hlen := (hok (by omega)).1
  have hc := toBranchS_ev l (by omega)
  rw [Ev_bd hc, Ev_bd (spec_branchAt_ev _ m s hs), Ev_bd hc, Ev_bd (impl_branchAt_ev _ m s hs), Ev_pos rfl, Ev_bd hc, Ev_bd (eqBranchS_ev _ _ hs.1), Ev_pos (eqb_self _)]
  exact Ev_some.mpr rfl
end Go.Proofs.Ytbjfbmoeboagaaa.Pure
