/- The pure statement of FnExactCountKind: proved. -/
import Derived.Test.YtglfoihpgpdooaaStmtFnExactCountKind
import Derived.Test.YtglfoihpgpdooaaCount
namespace Go.Proofs.Ytglfoihpgpdooaa.Pure
open Go.RowKit Go.Proofs.Ytglfoihpgpdooaa.P Go.Proofs.Ytglfoihpgpdooaa.EvK Go.Proofs.Ytglfoihpgpdooaa.Mod Go.Proofs.YtglfoihpgpdooaaW.PrintWords
theorem FnExactCountKind : laws_FnExactCountKind.Stmt := by
  intro l kind hl hq _
  have hz : ∀ z ∈ l, z.f0.size ≤ 9223372036854775807 := fun z h => (hq z h).1
  obtain ⟨t, ht, hle, hok⟩ := szChange_ev l hl hz 1048576 (by omega) (by omega)
  refine Ev.rounds (g := fun k => laws_FnExactCountKind.f k l kind) ?_
  unfold laws_FnExactCountKind.f
  rw [Ev_bd ht, Ev_ite]
  by_cases h0 : t < 0
  · rw [if_pos h0]
    exact Ev_some.mpr rfl
  rw [if_neg h0]
  have hs := conv_sized_change l hl hz
  have hlen := (hok (by omega)).1
  have hc := toChangeS_ev l (by omega)
  rw [Ev_bd hc, Ev_bd (spec_count_ev _ kind hs), Ev_bd hc, Ev_bd (impl_count_ev _ kind hs), Ev_ite, if_pos rfl, Ev_bd hc, Ev_bd (eqChangeS_ev _ _ hs.1), Ev_ite, if_pos (eqb_self _)]
  exact Ev_some.mpr rfl
end Go.Proofs.Ytglfoihpgpdooaa.Pure
