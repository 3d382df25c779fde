/- The pure statement of FnExactLogCut: proved. -/
import Derived.Test.YtglfoihpgpdooabStmtFnExactLogCut
import Derived.Test.YtglfoihpgpdooabLogCut
import Derived.Test.YtglfoihpgpdooabMLogEntry
namespace Go.Proofs.Ytglfoihpgpdooab.Pure
open Go.RowKit Go.Proofs.Ytglfoihpgpdooab.P Go.Proofs.Ytglfoihpgpdooab.EvK Go.Proofs.Ytglfoihpgpdooab.Mod Go.Proofs.YtglfoihpgpdooabW.PrintWords
theorem FnExactLogCut : laws_FnExactLogCut.Stmt := by
  intro l m hl hq hm
  have hz : ∀ z ∈ l, z.f1.size ≤ 9223372036854775807 := fun z h => (hq z h).2
  obtain ⟨t, ht, hle, hok⟩ := szLogEntry_ev l hl hz 1048576 (by omega) (by omega)
  refine Ev.rounds (g := fun k => laws_FnExactLogCut.f k l m) ?_
  unfold laws_FnExactLogCut.f
  rw [Ev_bd ht, Ev_ite]
  by_cases h0 : t < 0
  · rw [if_pos h0]
    exact Ev_some.mpr rfl
  rw [if_neg h0]
  have hs := conv_sized_log l hl hz
  have hlen := (hok (by omega)).1
  have hc := toLogEntryS_ev l (by omega)
  have hrl := logCut_len (l.map convLogEntry) m
  have es := spec_logCut_ev _ m hs
  have ei := impl_logCut_ev _ m hs
  have hL : (l.map convLogEntry).length = l.length := List.length_map _
  generalize l.map convLogEntry = x at *
  generalize logCut x m = y at *
  have m1 := markSLogEntry_ev x 1 (by omega) (by omega)
  have m2 := markSLogEntry_ev y 1 (by omega) (by omega)
  have e2 := heldSLogEntry_ev y.length 1 (by omega) (by omega)
  have hj0 : Ev (fun k => laws_FnExactLogCut.j0 k l m y y false) true := by
    refine Ev_succ.mpr ?_
    simp only [laws_FnExactLogCut.j0]
    rw [Ev_neg (by simp), Ev_bd m2, Ev_bd e2, Ev_neg (by omega), Ev_pos rfl, Ev_bd hc, Ev_bd ei, Ev_bd (eqLogEntryS_ev _ _ (by omega)), Ev_pos (eqb_self _), Ev_bd e2, Ev_neg (by omega), Ev_pos rfl]
    exact Ev_some.mpr rfl
  rw [Ev_bd hc, Ev_bd es, Ev_bd hc, Ev_bd ei, Ev_bd (eqLogEntryS_ev _ _ (by omega)), Ev_pos (eqb_self _), Ev_bd hc, Ev_bd (eqLogEntryS_ev _ _ (by omega)), Ev_pos (eqb_self _), Ev_bd m1, Ev_neg (by dsimp only; omega), Ev_bd (eqLogEntryS_ev _ _ (by omega)), eqb_self]
  exact hj0
end Go.Proofs.Ytglfoihpgpdooab.Pure
