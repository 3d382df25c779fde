/- The pure statement of FnExactPackLog: proved. -/
import Derived.Test.YtcbmkonigclceaaStmtFnExactPackLog
import Derived.Test.YtcbmkonigclceaaPack
import Derived.Test.YtcbmkonigclceaaMLogEntry
namespace Go.Proofs.Ytcbmkonigclceaa.Pure
open Go.RowKit Go.Proofs.Ytcbmkonigclceaa.P Go.Proofs.Ytcbmkonigclceaa.EvK Go.Proofs.Ytcbmkonigclceaa.Mod Go.Proofs.YtcbmkonigclceaaW.PrintWords
theorem FnExactPackLog : laws_FnExactPackLog.Stmt := by
  intro l hl hq
  have hz : ∀ z ∈ l, z.f1.size ≤ 9223372036854775807 := fun z h => (hq z h).2
  obtain ⟨t, ht, hle, hok⟩ := szLogEntry_ev l hl hz 1048576 (by omega) (by omega)
  refine Ev.rounds (g := fun k => laws_FnExactPackLog.f k l) ?_
  unfold laws_FnExactPackLog.f
  rw [Ev_bd ht, Ev_ite]
  by_cases h0 : t < 0
  · rw [if_pos h0]
    exact Ev_some.mpr rfl
  rw [if_neg h0]
  have hs := conv_sized_log l hl hz
  have hlen := (hok (by omega)).1
  have hc := toLogEntryS_ev l (by omega)
  have hrl := packLog_len (l.map convLogEntry)
  have es := spec_pack_ev _ hs
  have ei := impl_pack_ev _ hs
  have hL : (l.map convLogEntry).length = l.length := List.length_map _
  generalize l.map convLogEntry = x at *
  generalize packLog x = y at *
  have m1 := markSLogEntry_ev x 1 (by omega) (by omega)
  have m2 := markSLogEntry_ev y 1 (by omega) (by omega)
  have e2 := heldSLogEntry_ev y.length 1 (by omega) (by omega)
  have hj0 : Ev (fun k => laws_FnExactPackLog.j0 k l y y false) true := by
    refine Ev_succ.mpr ?_
    simp only [laws_FnExactPackLog.j0]
    rw [Ev_neg (by simp), Ev_bd m2, Ev_bd e2, Ev_neg (by omega), Ev_pos rfl, Ev_bd hc, Ev_bd ei, Ev_bd (eqLogEntryS_ev _ _ (by omega)), Ev_pos (eqb_self _), Ev_bd e2, Ev_neg (by omega), Ev_pos rfl]
    exact Ev_some.mpr rfl
  rw [Ev_bd hc, Ev_bd es, Ev_bd hc, Ev_bd ei, Ev_bd (eqLogEntryS_ev _ _ (by omega)), Ev_pos (eqb_self _), Ev_bd hc, Ev_bd (eqLogEntryS_ev _ _ (by omega)), Ev_pos (eqb_self _), Ev_bd m1, Ev_neg (by dsimp only; omega), Ev_bd (eqLogEntryS_ev _ _ (by omega)), eqb_self]
  exact hj0
end Go.Proofs.Ytcbmkonigclceaa.Pure
