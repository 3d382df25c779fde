/- The pure statement of FnExactVersionsValid: proved. -/
import Derived.Test.YtglfoihpgpdooaaStmtFnExactVersionsValid
import Derived.Test.YtglfoihpgpdooaaVers
namespace Go.Proofs.Ytglfoihpgpdooaa.Pure
open Go.RowKit Go.Proofs.Ytglfoihpgpdooaa.P Go.Proofs.Ytglfoihpgpdooaa.EvK Go.Proofs.Ytglfoihpgpdooaa.Mod Go.Proofs.YtglfoihpgpdooaaW.PrintWords
theorem FnExactVersionsValid : laws_FnExactVersionsValid.Stmt := by
  intro l  hl hq 
  have hz : ∀ z ∈ l, z.f2.size ≤ 9223372036854775807 := fun z h => (hq z h).2.2
  obtain ⟨t, ht, hle, hok⟩ := szVersion_ev l hl hz 1048576 (by omega) (by omega)
  refine Ev.rounds (g := fun k => laws_FnExactVersionsValid.f k l ) ?_
  unfold laws_FnExactVersionsValid.f
  rw [Ev_bd ht, Ev_ite]
  by_cases h0 : t < 0
  · rw [if_pos h0]
    exact Ev_some.mpr rfl
  rw [if_neg h0]
  have hs := conv_sized_version l hl hz
  have hlen := (hok (by omega)).1
  have hc := toVersionS_ev l (by omega)
  rw [Ev_bd hc, Ev_bd (spec_vers_ev _  hs), Ev_bd hc, Ev_bd (impl_vers_ev _  hs), Ev_ite, if_neg (by simp), Ev_bd hc, Ev_bd (eqVersionS_ev _ _ hs.1), Ev_ite, if_pos (eqb_self _)]
  exact Ev_some.mpr rfl
end Go.Proofs.Ytglfoihpgpdooaa.Pure
