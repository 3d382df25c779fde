/- The pure statement of FnExactChangesOf: proved. -/
import Derived.Test.YtjgbidklkhohfaaGreatDoorStmtFnExactChangesOf
import Derived.Test.YtjgbidklkhohfaaGreatDoorMChg
import Derived.Test.YtjgbidklkhohfaaGreatDoorMPiece
import Derived.Test.YtjgbidklkhohfaaGreatDoorConvP
import Derived.Test.YtjgbidklkhohfaaGreatDoorTChange
import Derived.Test.YtjgbidklkhohfaaGreatDoorMChange
namespace Go.Proofs.YtjgbidklkhohfaaGreatDoor.Pure
open Go.RowKit Go.Proofs.YtjgbidklkhohfaaGreatDoor.P Go.Proofs.YtjgbidklkhohfaaGreatDoor.EvK Go.Proofs.YtjgbidklkhohfaaGreatDoor.Mod Go.Proofs.YtjgbidklkhohfaaGreatDoorW.PrintWords
theorem FnExactChangesOf : laws_FnExactChangesOf.Stmt := by
 intro l r1 r2 hl hq h_r1 h_r2
 have hz : ∀ z ∈ l, z.f1.size ≤ 9223372036854775807 := fun z h => (hq z h).2
 obtain ⟨t, ht, hle, hok⟩ := szPiece_ev l hl hz 1048576 (by omega) (by omega)
 refine Ev.rounds (g := fun k => laws_FnExactChangesOf.f k l r1 r2) ?_
 unfold laws_FnExactChangesOf.f
 rw [Ev_bd ht, Ev_ite]
 by_cases h0 : t < 0
 ·rw [if_pos h0]
  exact Ev_some.mpr rfl
 rw [if_neg h0]
 have hs := conv_sized_store l hl hz
 have hlen := (hok (by omega)).1
 have hc := toPieceS_ev l (by omega)
 have es := spec_changes_ev _ r1 r2 hs
 have ei := impl_changes_ev _ r1 r2 hs
 have hL : (l.map convPiece).length = l.length := List.length_map _
 have hrl := changesOf_len (l.map convPiece) r1 r2
 generalize l.map convPiece = x at *
 generalize changesOf x r1 r2 = y at *
 have m1 := markSPiece_ev x 1 (by omega) (by omega)
 have m2 := markSChange_ev y 1 (by omega) (by omega)
 have e2 := heldSChange_ev y.length 1 (by omega) (by omega)
 have hj0 : Ev (fun k => laws_FnExactChangesOf.j0 k l r1 r2 y y false) true := by
  refine Ev_succ.mpr ?_
  simp only [laws_FnExactChangesOf.j0]
  rw [Ev_neg (by simp), Ev_bd m2, Ev_bd e2, Ev_neg (by omega), Ev_pos rfl, Ev_bd hc, Ev_bd ei, Ev_bd (eqChangeS_ev _ _ (by omega)), Ev_pos (eqb_self _), Ev_bd e2, Ev_neg (by omega), Ev_pos rfl]
  exact Ev_some.mpr rfl
 rw [Ev_bd hc, Ev_bd es, Ev_bd hc, Ev_bd ei, Ev_bd (eqChangeS_ev _ _ (by omega)), Ev_pos (eqb_self _), Ev_bd hc, Ev_bd (eqPieceS_ev _ _ (by omega)), Ev_pos (eqb_self _), Ev_bd m1, Ev_neg (by dsimp only; omega), Ev_bd (eqChangeS_ev _ _ (by omega)), eqb_self]
 exact hj0
end Go.Proofs.YtjgbidklkhohfaaGreatDoor.Pure
