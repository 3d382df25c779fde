/- The pure statement of FnExactPathProof: proved. -/
import Derived.Test.YtjgbidklkhohfaaDoorStmtFnExactPathProof
import Derived.Test.YtjgbidklkhohfaaDoorProofs
import Derived.Test.YtjgbidklkhohfaaDoorMPiece
import Derived.Test.YtjgbidklkhohfaaDoorConvP
namespace Go.Proofs.YtjgbidklkhohfaaDoor.Pure
open Go.RowKit Go.Proofs.YtjgbidklkhohfaaDoor.P Go.Proofs.YtjgbidklkhohfaaDoor.EvK Go.Proofs.YtjgbidklkhohfaaDoor.Mod Go.Proofs.YtjgbidklkhohfaaDoorW.PrintWords
theorem FnExactPathProof : laws_FnExactPathProof.Stmt := by
  intro l root p hl hq h_root h_p
  have hz : ∀ z ∈ l, z.f1.size ≤ 9223372036854775807 := fun z h => (hq z h).2
  obtain ⟨t, ht, hle, hok⟩ := szPiece_ev l hl hz 1048576 (by omega) (by omega)
  refine Ev.rounds (g := fun k => laws_FnExactPathProof.f k l root p) ?_
  unfold laws_FnExactPathProof.f
  rw [Ev_ite]
  by_cases hb_p : (p.size : Int) > 1048576
  · rw [if_pos hb_p]; exact Ev_some.mpr rfl
  rw [if_neg hb_p]
  rw [Ev_bd ht, Ev_ite]
  by_cases h0 : t < 0
  · rw [if_pos h0]
    exact Ev_some.mpr rfl
  rw [if_neg h0]
  have hs := conv_sized_store l hl hz
  have hlen := (hok (by omega)).1
  have hc := toPieceS_ev l (by omega)
  have es := spec_pathProof_ev _ root p hs (by omega)
  have ei := impl_pathProof_ev _ root p hs (by omega)
  have hL : (l.map convPiece).length = l.length := List.length_map _
  have hrl := pathProof_len (l.map convPiece) root p
  generalize l.map convPiece = x at *
  generalize pathProof x root p = y at *
  have m1 := markSPiece_ev x 1 (by omega) (by omega)
  have m2 := markSString_ev y 1 (by omega) (by omega)
  have e2 := heldSString_ev y.length 1 (by omega) (by omega)
  have hj0 : Ev (fun k => laws_FnExactPathProof.j0 k l root p y y false) true := by
    refine Ev_succ.mpr ?_
    simp only [laws_FnExactPathProof.j0]
    rw [Ev_neg (by simp), Ev_bd m2, Ev_bd e2, Ev_neg (by omega), Ev_pos rfl, Ev_bd hc, Ev_bd ei, Ev_bd (eqSString_ev _ _ (by omega)), Ev_pos (eqb_self _), Ev_bd e2, Ev_neg (by omega), Ev_pos rfl]
    exact Ev_some.mpr rfl
  rw [Ev_bd hc, Ev_bd es, Ev_bd hc, Ev_bd ei, Ev_bd (eqSString_ev _ _ (by omega)), Ev_pos (eqb_self _), Ev_bd hc, Ev_bd (eqPieceS_ev _ _ (by omega)), Ev_pos (eqb_self _), Ev_bd m1, Ev_neg (by dsimp only; omega), Ev_bd (eqSString_ev _ _ (by omega)), eqb_self]
  exact hj0
end Go.Proofs.YtjgbidklkhohfaaDoor.Pure
