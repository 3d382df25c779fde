/- Slices of Piece: the guard on sizes, the copy, equality, as the statements use them. -/
import Derived.Test.YtjgbidklkhohfaaGreatDoorPx0
import Derived.Test.YtjgbidklkhohfaaGreatDoorPx3
import Derived.Test.YtjgbidklkhohfaaGreatDoorPx5
import Derived.Test.YtjgbidklkhohfaaGreatDoorEv
namespace Go.Proofs.YtjgbidklkhohfaaGreatDoor.Mod
open Go.RowKit Go.Proofs.YtjgbidklkhohfaaGreatDoor.P Go.Proofs.YtjgbidklkhohfaaGreatDoor.EvK Go.Proofs.YtjgbidklkhohfaaGreatDoorW.PrintWords Go.Proofs.YtjgbidklkhohfaaGreatDoorW.PrintLast
set_option linter.all false
theorem rdPiece (xs : List S46) (i : Nat) : rd_T46 xs (i : Int) = xs.getD i z46 := by simp [rd_T46]
theorem rdLPiece (xs : List S42) (i : Nat) : rd_T42 xs (i : Int) = xs.getD i z42 := by simp [rd_T42]
def convPiece (x : S42) : S46 := ⟨x.f0, x.f1⟩
theorem szPiece_ev (l : List S42) (hl : l.length ≤ 9223372036854775807) (hz : ∀ z ∈ l, z.f1.size ≤ 9223372036854775807) (left : Int) (h0 : 0 ≤ left) (h1 : left ≤ 1048576) :
  ∃ t, Ev (fun k => laws_szPieceS.f k l left) t ∧ t ≤ left ∧ (0 ≤ t → (l.length : Int) ≤ left ∧ ∀ z ∈ l, (z.f1.size : Int) ≤ left) := by
 unfold laws_szPieceS.f
 rw [w64 (x := left - (l.length : Int)) (by omega) (by omega)]
 by_cases hn : left - (l.length : Int) < 0
 ·exact ⟨-1, by simp only [if_pos hn]; exact Ev_some.mpr rfl, by omega, fun h => by omega⟩
 ·simp only [if_neg hn]
  obtain ⟨t, ht, hle, hall⟩ := ev_sz l z42 (fun z => z.f1.size) (fun k left i => laws_szPieceS.l0 k l left i) (by
   intro i lf hi g0 g1 r hr
   have hsz : (l.getD i z42).f1.size ≤ 9223372036854775807 := by
    rw [List.getD_eq_getElem?_getD, List.getElem?_eq_getElem hi]
    exact hz _ (List.getElem_mem hi)
   refine Ev_succ.mpr ?_
   simp only [laws_szPieceS.l0, rdLPiece, w64s i (by omega), laws_szPiece.f, Ev_ite]
   rw [if_pos (by omega), if_pos (by omega), w64 (x := lf - _) (by omega) (by omega)]
   by_cases hm : lf - ((l.getD i z42).f1.size : Int) < 0
   ·rw [if_pos hm] at hr ⊢
    simp only [Option.bind_some]
    rw [Ev_pos (by omega)]
    exact Ev_some.mpr hr
   ·rw [if_neg hm] at hr ⊢
    simp only [Option.bind_some]
    rw [Ev_neg hm]
    exact hr) (by
   intro lf
   refine Ev_succ.mpr ?_
   simp only [laws_szPieceS.l0, Ev_ite]
   rw [if_neg (by omega)]
   exact Ev_some.mpr rfl) (left - (l.length : Int)) (by omega) (by omega)
  exact ⟨t, ht, by omega, fun h => ⟨by omega, fun z hzm => by have := hall h z hzm; omega⟩⟩
theorem toPieceS_ev (l : List S42) (hl : l.length ≤ 1048576) : Ev (fun k => laws_toPieceS.f k l) (l.map convPiece) := by
 unfold laws_toPieceS.f
 simp only [Ev_ite]
 rw [if_pos (by omega), if_pos (by omega)]
 refine ev_fill l z42 convPiece (fun k acc i => laws_toPieceS.l0 k l acc i) ?_ ?_ _ (by simp)
 ·intro i acc hi hla r hr
  refine Ev_succ.mpr ?_
  simp only [laws_toPieceS.l0, rdLPiece, w64s i (by omega), laws_toPiece.f, Ev_ite, Option.bind_some, Int.toNat_natCast]
  rw [if_pos (by omega), if_pos (by omega), if_pos (by omega)]
  exact hr
 ·intro acc hla
  refine Ev_succ.mpr ?_
  simp only [laws_toPieceS.l0, Ev_ite]
  rw [if_neg (by omega)]
  exact Ev_some.mpr rfl
theorem eqPiece_eq (x y : S46) : laws_eqPiece.f x.f0 x.f1 y.f0 y.f1 = some (eqb x y) := by
 unfold laws_eqPiece.f
 by_cases h0 : x.f0 = y.f0
 case neg => rw [if_neg h0, eqb_ne (fun h => h0 (by rw [h]))]
 by_cases h1 : x.f1.toList = y.f1.toList
 case neg => rw [if_pos h0, if_neg h1, eqb_ne (fun h => h1 (by rw [h]))]
 rw [if_pos h0, if_pos h1]
 have h1 := toList_iff.1 h1
 have : x = y := by cases x; cases y; simp_all
 rw [this, eqb_self]
theorem eqPieceS_ev (a b : List S46) (ha : a.length ≤ 9223372036854775807) : Ev (fun k => laws_eqPieceS.f k a b) (eqb a b) := by
 unfold laws_eqPieceS.f
 simp only [Ev_ite]
 by_cases h : (a.length : Int) = (b.length : Int)
 ·rw [if_pos h]
  refine ev_eqS a b z46 (fun k i => laws_eqPieceS.l0 k a b i) (by omega) ?_ ?_
  ·intro i hi r hr
   refine Ev_succ.mpr ?_
   simp only [laws_eqPieceS.l0, rdPiece, w64s i (by omega), eqPiece_eq, Ev_ite, Option.bind_some]
   rw [if_pos (by omega), if_pos (by omega), if_pos (by omega)]
   by_cases he : eqb (a.getD i z46) (b.getD i z46) = true
   ·rw [if_pos he] at hr ⊢
    exact hr
   ·rw [if_neg he] at hr ⊢
    exact Ev_some.mpr hr
  ·refine Ev_succ.mpr ?_
   simp only [laws_eqPieceS.l0, Ev_ite]
   rw [if_neg (by omega)]
   exact Ev_some.mpr rfl
 ·rw [if_neg h, eqb_ne (fun e => h (by rw [e]))]
  exact Ev_some.mpr rfl
end Go.Proofs.YtjgbidklkhohfaaGreatDoor.Mod
