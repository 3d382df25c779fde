/- The pure statement of FnExactAllFiles: proved. -/
import Derived.Test.YtjgbidklkhohfaaDoorStmtFnExactAllFiles
import Derived.Test.YtjgbidklkhohfaaDoorFilesS
import Derived.Test.YtjgbidklkhohfaaDoorTexts
import Derived.Test.YtjgbidklkhohfaaDoorMPiece
import Derived.Test.YtjgbidklkhohfaaDoorConvP
namespace Go.Proofs.YtjgbidklkhohfaaDoor.Pure
open Go.RowKit Go.Proofs.YtjgbidklkhohfaaDoor.P Go.Proofs.YtjgbidklkhohfaaDoor.EvK Go.Proofs.YtjgbidklkhohfaaDoor.Mod Go.Proofs.YtjgbidklkhohfaaDoorW.PrintWords
theorem FnExactAllFiles : laws_FnExactAllFiles.Stmt := by
  intro l root hl hq h_root
  have hz : ∀ z ∈ l, z.f1.size ≤ 9223372036854775807 := fun z h => (hq z h).2
  obtain ⟨t, ht, hle, hok⟩ := szPiece_ev l hl hz 1048576 (by omega) (by omega)
  refine Ev.rounds (g := fun k => laws_FnExactAllFiles.f k l root) ?_
  unfold laws_FnExactAllFiles.f
  rw [Ev_bd ht, Ev_ite]
  by_cases h0 : t < 0
  · rw [if_pos h0]
    exact Ev_some.mpr rfl
  rw [if_neg h0]
  have hs := conv_sized_store l hl hz
  have hlen := (hok (by omega)).1
  have hc := toPieceS_ev l (by omega)
  have es := spec_files_ev _ root hs
  have ei := impl_files_ev _ root hs
  have hL : (l.map convPiece).length = l.length := List.length_map _
  have hrl := allFiles_len (l.map convPiece) root
  generalize l.map convPiece = x at *
  generalize allFiles x root = y at *
  have m1 := markSPiece_ev x 1 (by omega) (by omega)
  have m2 := markSString_ev y 1 (by omega) (by omega)
  have e2 := heldSString_ev y.length 1 (by omega) (by omega)
  have hj0 : Ev (fun k => laws_FnExactAllFiles.j0 k l root y y false) true := by
    refine Ev_succ.mpr ?_
    simp only [laws_FnExactAllFiles.j0]
    rw [Ev_neg (by simp), Ev_bd m2, Ev_bd e2, Ev_neg (by omega), Ev_pos rfl, Ev_bd hc, Ev_bd ei, Ev_bd (eqSString_ev _ _ (by omega)), Ev_pos (eqb_self _), Ev_bd e2, Ev_neg (by omega), Ev_pos rfl]
    exact Ev_some.mpr rfl
  rw [Ev_bd hc, Ev_bd es, Ev_bd hc, Ev_bd ei, Ev_bd (eqSString_ev _ _ (by omega)), Ev_pos (eqb_self _), Ev_bd hc, Ev_bd (eqPieceS_ev _ _ (by omega)), Ev_pos (eqb_self _), Ev_bd m1, Ev_neg (by dsimp only; omega), Ev_bd (eqSString_ev _ _ (by omega)), eqb_self]
  exact hj0
end Go.Proofs.YtjgbidklkhohfaaDoor.Pure
