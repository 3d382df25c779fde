/- The pure statement of FnExactLogLost: proved. -/
import Derived.Test.YtcbmkonigclceaaStmtFnExactLogLost
import Derived.Test.YtcbmkonigclceaaDone
namespace Go.Proofs.Ytcbmkonigclceaa.Pure
open Go.RowKit Go.Proofs.Ytcbmkonigclceaa.P Go.Proofs.Ytcbmkonigclceaa.EvK Go.Proofs.Ytcbmkonigclceaa.Mod Go.Proofs.YtcbmkonigclceaaW.PrintWords
theorem FnExactLogLost : laws_FnExactLogLost.Stmt := by
  intro l hl hq
  have hz : ∀ z ∈ l, z.f1.size ≤ 9223372036854775807 := fun z h => (hq z h).2
  obtain ⟨t, ht, hle, hok⟩ := szLogEntry_ev l hl hz 1048576 (by omega) (by omega)
  refine Ev.rounds (g := fun k => laws_FnExactLogLost.f k l) ?_
  unfold laws_FnExactLogLost.f
  rw [Ev_bd ht, Ev_ite]
  by_cases h0 : t < 0
  · rw [if_pos h0]
    exact Ev_some.mpr rfl
  rw [if_neg h0]
  have hs := conv_sized_log l hl hz
  have hlen := (hok (by omega)).1
  have hc := toLogEntryS_ev l (by omega)
  rw [Ev_bd hc, Ev_bd (spec_lost_ev _ hs), Ev_bd hc, Ev_bd (impl_lost_ev _ hs), Ev_pos rfl, Ev_bd hc, Ev_bd (eqLogEntryS_ev _ _ hs.1), Ev_pos (eqb_self _)]
  exact Ev_some.mpr rfl
end Go.Proofs.Ytcbmkonigclceaa.Pure
