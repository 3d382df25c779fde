/- The pure statement of FnExactProofRight: proved. -/
import Derived.Test.YtjgbidklkhohfaaDoorStmtFnExactProofRight
import Derived.Test.YtjgbidklkhohfaaDoorWay
namespace Go.Proofs.YtjgbidklkhohfaaDoor.Pure
open Go.RowKit Go.Proofs.YtjgbidklkhohfaaDoor.P Go.Proofs.YtjgbidklkhohfaaDoor.EvK Go.Proofs.YtjgbidklkhohfaaDoor.Mod Go.Proofs.YtjgbidklkhohfaaDoorW.PrintWords
theorem FnExactProofRight : laws_FnExactProofRight.Stmt := by
  intro root p ts h_root h_p hl hq
  refine Ev.rounds (g := fun k => laws_FnExactProofRight.f k root p ts) ?_
  unfold laws_FnExactProofRight.f
  rw [Ev_ite]
  by_cases hb : (p.size : Int) > 1048576
  · rw [if_pos hb]; exact Ev_some.mpr rfl
  rw [if_neg hb]
  obtain ⟨t, ht, hle, hok⟩ := szString_ev ts hl hq 1048576 (by omega) (by omega)
  rw [Ev_bd ht, Ev_ite]
  by_cases h0 : t < 0
  · rw [if_pos h0]; exact Ev_some.mpr rfl
  rw [if_neg h0]
  obtain ⟨hlen, hsz⟩ := hok (by omega)
  have hts : TextsSized ts := ⟨by omega, fun z hz => by have := hsz z hz; omega⟩
  have hc := toStringS_ev ts (by omega)
  have es := spec_proofRight_ev root p ts (by omega) hts
  have ei := impl_proofRight_ev root p ts (by omega) hts
  generalize proofRight root p ts = y at *
  rw [Ev_bd hc, Ev_bd es, Ev_bd hc, Ev_bd ei, Ev_neg (by simp), Ev_bd hc, Ev_bd (eqSString_ev _ _ (by omega)), Ev_pos (eqb_self _)]
  exact Ev_some.mpr rfl
end Go.Proofs.YtjgbidklkhohfaaDoor.Pure
