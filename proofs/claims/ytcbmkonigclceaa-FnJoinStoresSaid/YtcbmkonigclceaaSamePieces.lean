/- What samePieces comes to. -/
import Derived.Test.YtcbmkonigclceaaPx0
import Derived.Test.YtcbmkonigclceaaPx2
import Derived.Test.YtcbmkonigclceaaTPiece
namespace Go.Proofs.Ytcbmkonigclceaa.Mod
open Go.RowKit Go.Proofs.Ytcbmkonigclceaa.P Go.Proofs.Ytcbmkonigclceaa.EvK Go.Proofs.YtcbmkonigclceaaW.PrintWords Go.Proofs.YtcbmkonigclceaaW.PrintLast
set_option linter.all false
theorem samePieces_ev (a b : List S65) (ha : a.length ≤ 9223372036854775807) : Ev (fun k => laws_samePieces.f k a b) (eqb a b) := by
 unfold laws_samePieces.f
 rw [Ev_ite]
 by_cases h : (a.length : Int) = (b.length : Int)
 ·rw [if_pos h]
  refine ev_eqS a b z65 (fun k i => laws_samePieces.l0 k a b i) (by omega) ?_ ?_
  ·intro i hi r hr
   refine Ev_succ.mpr ?_
   simp only [laws_samePieces.l0, rdPiece, w64s i (by omega), Ev_ite]
   rw [if_pos (by omega), if_pos (by omega), if_pos (by omega)]
   generalize a.getD i z65 = x at hr ⊢
   generalize b.getD i z65 = y at hr ⊢
   by_cases he : x = y
   ·rw [if_pos (eqb_iff.2 he)] at hr
    subst he
    rw [if_neg (by simp)]
    exact hr
   ·rw [if_neg (fun g => he (eqb_iff.1 g))] at hr
    rw [if_pos]
    ·exact Ev_some.mpr hr
    ·obtain ⟨x0, x1⟩ := x
     obtain ⟨y0, y1⟩ := y
     by_cases g0 : x0 = y0 <;> by_cases g2 : x1.toList = y1.toList
     all_goals first | (have := toList_iff.1 g2; exact absurd (by rw [g0, this]) he) | simp [g0, g2]
  ·refine Ev_succ.mpr ?_
   simp only [laws_samePieces.l0, Ev_ite]
   rw [if_neg (by omega)]
   exact Ev_some.mpr rfl
 ·rw [if_neg h, eqb_ne (fun e => h (by rw [e]))]
  exact Ev_some.mpr rfl
end Go.Proofs.Ytcbmkonigclceaa.Mod
