/- Marks on slices of Piece. -/
import Derived.Test.YtjgbidklkhohfaaGreatDoorPx0
import Derived.Test.YtjgbidklkhohfaaGreatDoorPx9
import Derived.Test.YtjgbidklkhohfaaGreatDoorTPiece
import Derived.Test.YtjgbidklkhohfaaGreatDoorMark
namespace Go.Proofs.YtjgbidklkhohfaaGreatDoor.Mod
open Go.RowKit Go.Proofs.YtjgbidklkhohfaaGreatDoor.P Go.Proofs.YtjgbidklkhohfaaGreatDoor.EvK Go.Proofs.YtjgbidklkhohfaaGreatDoorW.PrintWords Go.Proofs.YtjgbidklkhohfaaGreatDoorW.PrintLast
set_option linter.all false
noncomputable def markPiece (n : Nat) (k : Int) : List S46 := (List.range n).map (fun i => ⟨k + ((2 * i + 0 : Nat) : Int), markT (k + ((2 * i + 1 : Nat) : Int))⟩)
theorem markSPiece_ev (l : List S46) (k : Int) (h0 : 0 ≤ k) (h1 : k + ((2 * l.length : Nat) : Int) ≤ 1000000000000) : Ev (fun q => laws_markPieceS.f q l k) (k + ((2 * l.length : Nat) : Int), markPiece l.length k) := by
 unfold laws_markPieceS.f markPiece
 refine ev_mark l.length (fun i => (⟨k + ((2 * i + 0 : Nat) : Int), markT (k + ((2 * i + 1 : Nat) : Int))⟩ : S46)) k 2 (fun q acc k i => laws_markPieceS.l0 q acc k i) ?_ ?_ l rfl
 ·intro i acc hi hla r hr
  refine Ev_succ.mpr ?_
  have hm : 2 * i + 2 ≤ 2 * l.length := by omega
  have e0 : k + ((2 * i : Nat) : Int) = k + ((2 * i + 0 : Nat) : Int) := rfl
  have e1 : wrap64 (k + ((2 * i + 0 : Nat) : Int) + 1) = k + ((2 * i + 1 : Nat) : Int) := by rw [w64 (by omega) (by omega)]; omega
  have e2 : wrap64 (k + ((2 * i + 1 : Nat) : Int) + 1) = k + ((2 * i + 2 : Nat) : Int) := by rw [w64 (by omega) (by omega)]; omega
  have e9 : 2 * i + 2 = 2 * (i + 1) := by omega
  simp only [laws_markPieceS.l0, rdPiece, w64s i (by omega), Option.bind_some, Int.toNat_natCast, Ev_ite]
  rw [if_pos (by omega), if_pos (by omega), e0]
  (try simp only [e1, e2])
  rw [Ev_bd (markT_ev (k + ((2 * i + 1 : Nat) : Int)) (by omega))]
  have g1 : ∀ v : S46, (acc.set i v).getD i z46 = v := fun v => getD_set acc z46 v i (by omega)
  simp only [List.set_set, g1]
  rw [e9]
  exact hr
 ·intro acc hla
  refine Ev_succ.mpr ?_
  simp only [laws_markPieceS.l0, Ev_ite]
  rw [if_neg (by omega)]
  exact Ev_some.mpr rfl
end Go.Proofs.YtjgbidklkhohfaaGreatDoor.Mod
