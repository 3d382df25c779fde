/- The pure statement of FnExactTotalSize: proved. -/
import Derived.Test.YtjgbidklkhohfaaGreatDoorStmtFnExactTotalSize
import Derived.Test.YtjgbidklkhohfaaGreatDoorMTotal
import Derived.Test.YtjgbidklkhohfaaGreatDoorMPiece
import Derived.Test.YtjgbidklkhohfaaGreatDoorConvP
namespace Go.Proofs.YtjgbidklkhohfaaGreatDoor.Pure
open Go.RowKit Go.Proofs.YtjgbidklkhohfaaGreatDoor.P Go.Proofs.YtjgbidklkhohfaaGreatDoor.EvK Go.Proofs.YtjgbidklkhohfaaGreatDoor.Mod Go.Proofs.YtjgbidklkhohfaaGreatDoorW.PrintWords
theorem FnExactTotalSize : laws_FnExactTotalSize.Stmt := by
  intro l root hl hq h_root
  have hz : ∀ z ∈ l, z.f1.size ≤ 9223372036854775807 := fun z h => (hq z h).2
  obtain ⟨t, ht, hle, hok⟩ := szPiece_ev l hl hz 1048576 (by omega) (by omega)
  refine Ev.rounds (g := fun k => laws_FnExactTotalSize.f k l root) ?_
  unfold laws_FnExactTotalSize.f
  rw [Ev_bd ht, Ev_ite]
  by_cases h0 : t < 0
  · rw [if_pos h0]
    exact Ev_some.mpr rfl
  rw [if_neg h0]
  have hs := conv_sized_store l hl hz
  have hlen := (hok (by omega)).1
  have hc := toPieceS_ev l (by omega)
  have es := spec_total_ev _ root hs
  have ei := impl_total_ev _ root hs
  have hL : (l.map convPiece).length = l.length := List.length_map _
  generalize l.map convPiece = x at *
  generalize totalSize x root = y at *
  rw [Ev_bd hc, Ev_bd es, Ev_bd hc, Ev_bd ei, Ev_pos rfl, Ev_bd hc, Ev_bd (eqPieceS_ev _ _ (by omega)), Ev_pos (eqb_self _)]
  exact Ev_some.mpr rfl
end Go.Proofs.YtjgbidklkhohfaaGreatDoor.Pure
