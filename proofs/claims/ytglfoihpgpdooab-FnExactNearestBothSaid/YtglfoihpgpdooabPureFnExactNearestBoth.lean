/- The pure statement of FnExactNearestBoth: proved. -/
import Derived.Test.YtglfoihpgpdooabStmtFnExactNearestBoth
import Derived.Test.YtglfoihpgpdooabNear
import Derived.Test.YtglfoihpgpdooabPick
namespace Go.Proofs.Ytglfoihpgpdooab.Pure
open Go.RowKit Go.Proofs.Ytglfoihpgpdooab.P Go.Proofs.Ytglfoihpgpdooab.EvK Go.Proofs.Ytglfoihpgpdooab.Mod Go.Proofs.YtglfoihpgpdooabW.PrintWords
theorem FnExactNearestBoth : laws_FnExactNearestBoth.Stmt := by
  intro l a b hl hq ha hb
  have hz : ∀ z ∈ l, z.f2.size ≤ 9223372036854775807 := fun z h => (hq z h).2.2
  obtain ⟨t, ht, hle, hok⟩ := szVersion_ev l hl hz 1048576 (by omega) (by omega)
  refine Ev.rounds (g := fun k => laws_FnExactNearestBoth.f k l a b) ?_
  unfold laws_FnExactNearestBoth.f
  rw [Ev_bd ht, Ev_ite]
  by_cases h0 : t < 0
  · rw [if_pos h0]
    exact Ev_some.mpr rfl
  rw [if_neg h0]
  have hs := conv_sized_version l hl hz
  have hlen := (hok (by omega)).1
  have hc := toVersionS_ev l (by omega)
  rw [Ev_bd hc, Ev_bd (spec_near_ev _ hs a b (wf_i64 ha) (wf_i64 hb)), Ev_bd hc, Ev_bd (impl_near_ev _ hs a b (wf_i64 ha) (wf_i64 hb)), Ev_ite, if_pos rfl, Ev_bd hc, Ev_bd (eqVersionS_ev _ _ hs.1), Ev_ite, if_pos (eqb_self _)]
  exact Ev_some.mpr rfl
end Go.Proofs.Ytglfoihpgpdooab.Pure
