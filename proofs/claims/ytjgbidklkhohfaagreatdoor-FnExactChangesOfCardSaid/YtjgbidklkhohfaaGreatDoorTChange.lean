/- Slices of Change: the guard on sizes, the copy, equality, as the statements use them. -/
import Derived.Test.YtjgbidklkhohfaaGreatDoorPx0
import Derived.Test.YtjgbidklkhohfaaGreatDoorPx14
import Derived.Test.YtjgbidklkhohfaaGreatDoorEv
namespace Go.Proofs.YtjgbidklkhohfaaGreatDoor.Mod
open Go.RowKit Go.Proofs.YtjgbidklkhohfaaGreatDoor.P Go.Proofs.YtjgbidklkhohfaaGreatDoor.EvK Go.Proofs.YtjgbidklkhohfaaGreatDoorW.PrintWords Go.Proofs.YtjgbidklkhohfaaGreatDoorW.PrintLast
set_option linter.all false
theorem rdChange (xs : List S62) (i : Nat) : rd_T62 xs (i : Int) = xs.getD i z62 := by simp [rd_T62]
theorem eqChange_eq (x y : S62) : laws_eqChange.f x.f0 x.f1 y.f0 y.f1 = some (eqb x y) := by
 unfold laws_eqChange.f
 by_cases h0 : x.f0.toList = y.f0.toList
 case neg => rw [if_neg h0, eqb_ne (fun h => h0 (by rw [h]))]
 by_cases h1 : x.f1 = y.f1
 case neg => rw [if_pos h0, if_neg h1, eqb_ne (fun h => h1 (by rw [h]))]
 rw [if_pos h0, if_pos h1]
 have h0 := toList_iff.1 h0
 have : x = y := by cases x; cases y; simp_all
 rw [this, eqb_self]
theorem eqChangeS_ev (a b : List S62) (ha : a.length ≤ 9223372036854775807) : Ev (fun k => laws_eqChangeS.f k a b) (eqb a b) := by
 unfold laws_eqChangeS.f
 simp only [Ev_ite]
 by_cases h : (a.length : Int) = (b.length : Int)
 ·rw [if_pos h]
  refine ev_eqS a b z62 (fun k i => laws_eqChangeS.l0 k a b i) (by omega) ?_ ?_
  ·intro i hi r hr
   refine Ev_succ.mpr ?_
   simp only [laws_eqChangeS.l0, rdChange, w64s i (by omega), eqChange_eq, Ev_ite, Option.bind_some]
   rw [if_pos (by omega), if_pos (by omega), if_pos (by omega)]
   by_cases he : eqb (a.getD i z62) (b.getD i z62) = true
   ·rw [if_pos he] at hr ⊢
    exact hr
   ·rw [if_neg he] at hr ⊢
    exact Ev_some.mpr hr
  ·refine Ev_succ.mpr ?_
   simp only [laws_eqChangeS.l0, Ev_ite]
   rw [if_neg (by omega)]
   exact Ev_some.mpr rfl
 ·rw [if_neg h, eqb_ne (fun e => h (by rw [e]))]
  exact Ev_some.mpr rfl
end Go.Proofs.YtjgbidklkhohfaaGreatDoor.Mod
