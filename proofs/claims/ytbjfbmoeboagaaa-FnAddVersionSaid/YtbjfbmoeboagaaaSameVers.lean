/- What sameVersions comes to. -/
import Derived.Test.YtbjfbmoeboagaaaPx0
import Derived.Test.YtbjfbmoeboagaaaPx13
import Derived.Test.YtbjfbmoeboagaaaTVersion
namespace Go.Proofs.Ytbjfbmoeboagaaa.Mod
open Go.RowKit Go.Proofs.Ytbjfbmoeboagaaa.P Go.Proofs.Ytbjfbmoeboagaaa.EvK Go.Proofs.YtbjfbmoeboagaaaW.PrintWords Go.Proofs.YtbjfbmoeboagaaaW.PrintLast
set_option linter.unusedVariables false
set_option linter.unusedSimpArgs false
theorem sameVersions_ev (a b : List S25) (ha : a.length ≤ 9223372036854775807) : Ev (fun k => laws_sameVersions.f k a b) (eqb a b) := by
  unfold laws_sameVersions.f
  rw [Ev_ite]
  by_cases h : (a.length : Int) = (b.length : Int)
  · rw [if_pos h]
    refine ev_eqS a b z25 (fun k i => laws_sameVersions.l0 k a b i) (by omega) ?_ ?_
    · intro i hi r hr
      refine Ev_succ.mpr ?_
      simp only [laws_sameVersions.l0, rdVersion, w64s i (by omega), Ev_ite]
      rw [if_pos (by omega), if_pos (by omega), if_pos (by omega)]
      generalize a.getD i z25 = x at hr ⊢
      generalize b.getD i z25 = y at hr ⊢
      by_cases he : x = y
      · rw [if_pos (eqb_iff.2 he)] at hr
        subst he
        rw [if_neg (by simp)]
        exact hr
      · rw [if_neg (fun g => he (eqb_iff.1 g))] at hr
        rw [if_pos]
        · exact Ev_some.mpr hr
        · obtain ⟨x0, x1, x2⟩ := x
          obtain ⟨y0, y1, y2⟩ := y
          by_cases g0 : x0 = y0 <;> by_cases g1 : x1 = y1 <;> by_cases g2 : x2.toList = y2.toList
          all_goals first | (have := toList_iff.1 g2; exact absurd (by rw [g0, g1, this]) he) | simp [g0, g1, g2]
    · refine Ev_succ.mpr ?_
      simp only [laws_sameVersions.l0, Ev_ite]
      rw [if_neg (by omega)]
      exact Ev_some.mpr rfl
  · rw [if_neg h, eqb_ne (fun e => h (by rw [e]))]
    exact Ev_some.mpr rfl
end Go.Proofs.Ytbjfbmoeboagaaa.Mod
