/- The pure statement of FnExactSameFiles: proved. -/
import Derived.Test.YtjgbidklkhohfaaGreatDoorStmtFnExactSameFiles
import Derived.Test.YtjgbidklkhohfaaGreatDoorMSame
import Derived.Test.YtjgbidklkhohfaaGreatDoorMPiece
import Derived.Test.YtjgbidklkhohfaaGreatDoorConvP
namespace Go.Proofs.YtjgbidklkhohfaaGreatDoor.Pure
open Go.RowKit Go.Proofs.YtjgbidklkhohfaaGreatDoor.P Go.Proofs.YtjgbidklkhohfaaGreatDoor.EvK Go.Proofs.YtjgbidklkhohfaaGreatDoor.Mod Go.Proofs.YtjgbidklkhohfaaGreatDoorW.PrintWords
theorem FnExactSameFiles : laws_FnExactSameFiles.Stmt := by
  intro l r1 r2 hl hq h_r1 h_r2
  have hz : ∀ z ∈ l, z.f1.size ≤ 9223372036854775807 := fun z h => (hq z h).2
  obtain ⟨t, ht, hle, hok⟩ := szPiece_ev l hl hz 1048576 (by omega) (by omega)
  refine Ev.rounds (g := fun k => laws_FnExactSameFiles.f k l r1 r2) ?_
  unfold laws_FnExactSameFiles.f
  rw [Ev_bd ht, Ev_ite]
  by_cases h0 : t < 0
  · rw [if_pos h0]
    exact Ev_some.mpr rfl
  rw [if_neg h0]
  have hs := conv_sized_store l hl hz
  have hlen := (hok (by omega)).1
  have hc := toPieceS_ev l (by omega)
  have es := spec_same_ev _ r1 r2 hs
  have ei := impl_same_ev _ r1 r2 hs
  have hL : (l.map convPiece).length = l.length := List.length_map _
  generalize l.map convPiece = x at *
  generalize sameFiles x r1 r2 = y at *
  rw [Ev_bd hc, Ev_bd es, Ev_bd hc, Ev_bd ei, Ev_neg (by simp), Ev_bd hc, Ev_bd (eqPieceS_ev _ _ (by omega)), Ev_pos (eqb_self _)]
  exact Ev_some.mpr rfl
end Go.Proofs.YtjgbidklkhohfaaGreatDoor.Pure
