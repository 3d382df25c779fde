/- The pure statement of FnExactLogValid: proved. -/
import Derived.Test.YtglfoihpgpdooaaStmtFnExactLogValid
import Derived.Test.YtglfoihpgpdooaaLog
namespace Go.Proofs.Ytglfoihpgpdooaa.Pure
open Go.RowKit Go.Proofs.Ytglfoihpgpdooaa.P Go.Proofs.Ytglfoihpgpdooaa.EvK Go.Proofs.Ytglfoihpgpdooaa.Mod Go.Proofs.YtglfoihpgpdooaaW.PrintWords
theorem FnExactLogValid : laws_FnExactLogValid.Stmt := by
  intro l  hl hq 
  have hz : ∀ z ∈ l, z.f1.size ≤ 9223372036854775807 := fun z h => (hq z h).2
  obtain ⟨t, ht, hle, hok⟩ := szLogEntry_ev l hl hz 1048576 (by omega) (by omega)
  refine Ev.rounds (g := fun k => laws_FnExactLogValid.f k l ) ?_
  unfold laws_FnExactLogValid.f
  rw [Ev_bd ht, Ev_ite]
  by_cases h0 : t < 0
  · rw [if_pos h0]
    exact Ev_some.mpr rfl
  rw [if_neg h0]
  have hs := conv_sized_log l hl hz
  have hlen := (hok (by omega)).1
  have hc := toLogEntryS_ev l (by omega)
  rw [Ev_bd hc, Ev_bd (spec_log_ev _  hs), Ev_bd hc, Ev_bd (impl_log_ev _  hs), Ev_ite, if_neg (by simp), Ev_bd hc, Ev_bd (eqLogEntryS_ev _ _ hs.1), Ev_ite, if_pos (eqb_self _)]
  exact Ev_some.mpr rfl
end Go.Proofs.Ytglfoihpgpdooaa.Pure
