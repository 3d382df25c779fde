/- The pure statement of FnExactRecoverStore: proved. -/
import Derived.Test.YtcbmkonigclceaaStmtFnExactRecoverStore
import Derived.Test.YtcbmkonigclceaaRecAll
namespace Go.Proofs.Ytcbmkonigclceaa.Pure
open Go.RowKit Go.Proofs.Ytcbmkonigclceaa.P Go.Proofs.Ytcbmkonigclceaa.EvK Go.Proofs.Ytcbmkonigclceaa.Mod Go.Proofs.YtcbmkonigclceaaW.PrintWords
theorem FnExactRecoverStore : laws_FnExactRecoverStore.Stmt := by
  intro l hl hq
  have hz : ∀ z ∈ l, z.f1.size ≤ 9223372036854775807 := fun z h => (hq z h).2
  obtain ⟨t, ht, hle, hok⟩ := szLogEntry_ev l hl hz 1048576 (by omega) (by omega)
  refine Ev.rounds (g := fun k => laws_FnExactRecoverStore.f k l) ?_
  unfold laws_FnExactRecoverStore.f
  rw [Ev_bd ht, Ev_ite]
  by_cases h0 : t < 0
  · rw [if_pos h0]
    exact Ev_some.mpr rfl
  rw [if_neg h0]
  have hs := conv_sized_log l hl hz
  have hlen := (hok (by omega)).1
  have hc := toLogEntryS_ev l (by omega)
  have hL : (l.map convLogEntry).length = l.length := List.length_map _
  have hrl := recS_len (l.map convLogEntry)
  have es := spec_rec_ev _ hs
  have ei := impl_rec_ev _ hs
  generalize l.map convLogEntry = x at *
  generalize recS x = y at *
  obtain ⟨y, c⟩ := y
  dsimp only at hrl
  have m1 := markSLogEntry_ev x 1 (by omega) (by omega)
  have m2 := markSPiece_ev y 1 (by omega) (by omega)
  have e2 := heldSPiece_ev y.length 1 (by omega) (by omega)
  have hcc : (c != c) = false := by simp
  have hj2 : Ev (fun k => laws_FnExactRecoverStore.j2 k (markPiece y.length 1) (1 + ((2 * y.length : Nat) : Int)) false) true := by
    refine Ev_succ.mpr ?_
    simp only [laws_FnExactRecoverStore.j2]
    rw [Ev_neg (by simp), Ev_bd e2, Ev_neg (by omega), Ev_pos rfl]
    exact Ev_some.mpr rfl
  have hj1 : Ev (fun k => laws_FnExactRecoverStore.j1 k l y c y false) true := by
    refine Ev_succ.mpr ?_
    simp only [laws_FnExactRecoverStore.j1]
    rw [Ev_neg (by simp), Ev_bd m2, Ev_bd e2, Ev_neg (by omega), Ev_pos rfl, Ev_bd hc, Ev_bd ei, Ev_bd (eqPieceS_ev _ _ (by dsimp only; omega)), Ev_pos (eqb_self _)]
    dsimp only
    rw [hcc]
    exact hj2
  have hj0 : Ev (fun k => laws_FnExactRecoverStore.j0 k l y c x y c false) true := by
    refine Ev_succ.mpr ?_
    simp only [laws_FnExactRecoverStore.j0]
    rw [Ev_neg (by simp), Ev_bd hc, Ev_bd (eqLogEntryS_ev _ _ (by omega)), Ev_pos (eqb_self _), Ev_bd m1, Ev_neg (by dsimp only; omega), Ev_bd (eqPieceS_ev _ _ (by omega)), Ev_pos (eqb_self _), hcc]
    exact hj1
  rw [Ev_bd hc, Ev_bd es, Ev_bd hc, Ev_bd ei, Ev_bd (eqPieceS_ev _ _ (by dsimp only; omega)), Ev_pos (eqb_self _)]
  dsimp only
  rw [hcc]
  exact hj0
end Go.Proofs.Ytcbmkonigclceaa.Pure
