/- The pure statement of FnExactLogAdd: proved. -/
import Derived.Test.YtcbmkonigclceaaStmtFnExactLogAdd
import Derived.Test.YtcbmkonigclceaaLogAdd
import Derived.Test.YtcbmkonigclceaaMLogEntry
namespace Go.Proofs.Ytcbmkonigclceaa.Pure
open Go.RowKit Go.Proofs.Ytcbmkonigclceaa.P Go.Proofs.Ytcbmkonigclceaa.EvK Go.Proofs.Ytcbmkonigclceaa.Mod Go.Proofs.YtcbmkonigclceaaW.PrintWords
theorem FnExactLogAdd : laws_FnExactLogAdd.Stmt := by
  intro l ts hl hq htl htq
  have hz : ∀ z ∈ l, z.f1.size ≤ 9223372036854775807 := fun z h => (hq z h).2
  obtain ⟨t, ht, hle, hok⟩ := szLogEntry_ev l hl hz 1048576 (by omega) (by omega)
  refine Ev.rounds (g := fun k => laws_FnExactLogAdd.f k l ts) ?_
  unfold laws_FnExactLogAdd.f
  rw [Ev_bd ht, Ev_ite]
  by_cases h0 : t < 0
  · rw [if_pos h0]
    exact Ev_some.mpr rfl
  rw [if_neg h0]
  obtain ⟨t2, ht2, hle2, hok2⟩ := szString_ev ts htl htq t (by omega) (by omega)
  rw [Ev_bd ht2, Ev_ite]
  by_cases h2 : t2 < 0
  · rw [if_pos h2]
    exact Ev_some.mpr rfl
  rw [if_neg h2]
  have hs := conv_sized_log l hl hz
  have hlen := (hok (by omega)).1
  have htlen := (hok2 (by omega)).1
  have hc := toLogEntryS_ev l (by omega)
  have hct := toStringS_ev ts (by omega)
  have hL : (l.map convLogEntry).length = l.length := List.length_map _
  have hrl := logAdd_len (l.map convLogEntry) ts
  have es := spec_logAdd_ev _ ts hs (by omega) (by omega) htq
  have ei := impl_logAdd_ev _ ts hs (by omega) (by omega) htq
  generalize l.map convLogEntry = x at *
  generalize logAdd x ts = y at *
  obtain ⟨y, c⟩ := y
  dsimp only at hrl
  have m1 := markSLogEntry_ev x 1 (by omega) (by omega)
  have m3 := markSString_ev ts (1 + ((2 * x.length : Nat) : Int)) (by omega) (by omega)
  have m2 := markSLogEntry_ev y 1 (by omega) (by omega)
  have e2 := heldSLogEntry_ev y.length 1 (by omega) (by omega)
  have hcc : (c != c) = false := by simp
  have hj2 : Ev (fun k => laws_FnExactLogAdd.j2 k (markLogEntry y.length 1) (1 + ((2 * y.length : Nat) : Int)) false) true := by
    refine Ev_succ.mpr ?_
    simp only [laws_FnExactLogAdd.j2]
    rw [Ev_neg (by simp), Ev_bd e2, Ev_neg (by omega), Ev_pos rfl]
    exact Ev_some.mpr rfl
  have hj1 : Ev (fun k => laws_FnExactLogAdd.j1 k l ts y c y false) true := by
    refine Ev_succ.mpr ?_
    simp only [laws_FnExactLogAdd.j1]
    rw [Ev_neg (by simp), Ev_bd m2, Ev_bd e2, Ev_neg (by omega), Ev_pos rfl, Ev_bd hc, Ev_bd hct, Ev_bd ei, Ev_bd (eqLogEntryS_ev _ _ (by dsimp only; omega)), Ev_pos (eqb_self _)]
    dsimp only
    rw [hcc]
    exact hj2
  have hj0 : Ev (fun k => laws_FnExactLogAdd.j0 k l ts y c x ts y c false) true := by
    refine Ev_succ.mpr ?_
    simp only [laws_FnExactLogAdd.j0]
    rw [Ev_neg (by simp), Ev_bd hc, Ev_bd (eqLogEntryS_ev _ _ (by omega)), Ev_pos (eqb_self _), Ev_bd hct, Ev_bd (eqSString_ev _ _ (by omega)), Ev_pos (eqb_self _), Ev_bd m1, Ev_bd m3, Ev_neg (by dsimp only; omega), Ev_bd (eqLogEntryS_ev _ _ (by omega)), Ev_pos (eqb_self _), hcc]
    exact hj1
  rw [Ev_bd hc, Ev_bd hct, Ev_bd es, Ev_bd hc, Ev_bd hct, Ev_bd ei, Ev_bd (eqLogEntryS_ev _ _ (by dsimp only; omega)), Ev_pos (eqb_self _)]
  dsimp only
  rw [hcc]
  exact hj0
end Go.Proofs.Ytcbmkonigclceaa.Pure
