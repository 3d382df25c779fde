/- Slices of Change: the guard on sizes, the copy, equality, as the statements use them. -/
import Derived.Test.YtglfoihpgpdooaaPx0
import Derived.Test.YtglfoihpgpdooaaPx1
import Derived.Test.YtglfoihpgpdooaaPx2
import Derived.Test.YtglfoihpgpdooaaEv
namespace Go.Proofs.Ytglfoihpgpdooaa.Mod
open Go.RowKit Go.Proofs.Ytglfoihpgpdooaa.P Go.Proofs.Ytglfoihpgpdooaa.EvK Go.Proofs.YtglfoihpgpdooaaW.PrintWords Go.Proofs.YtglfoihpgpdooaaW.PrintLast
set_option linter.unusedVariables false
set_option linter.unusedSimpArgs false
theorem rdChange (xs : List S62) (i : Nat) : rd_T62 xs (i : Int) = xs.getD i z62 := by simp [rd_T62]
theorem rdLChange (xs : List S61) (i : Nat) : rd_T61 xs (i : Int) = xs.getD i z61 := by simp [rd_T61]
def convChange (x : S61) : S62 := ⟨x.f0, x.f1⟩
theorem szChange_ev (l : List S61) (hl : l.length ≤ 9223372036854775807) (hz : ∀ z ∈ l, z.f0.size ≤ 9223372036854775807) (left : Int) (h0 : 0 ≤ left) (h1 : left ≤ 1048576) :
    ∃ t, Ev (fun k => laws_szChangeS.f k l left) t ∧ t ≤ left ∧ (0 ≤ t → (l.length : Int) ≤ left ∧ ∀ z ∈ l, (z.f0.size : Int) ≤ left) := by
  unfold laws_szChangeS.f
  rw [w64 (x := left - (l.length : Int)) (by omega) (by omega)]
  by_cases hn : left - (l.length : Int) < 0
  · exact ⟨-1, by simp only [if_pos hn]; exact Ev_some.mpr rfl, by omega, fun h => by omega⟩
  · simp only [if_neg hn]
    obtain ⟨t, ht, hle, hall⟩ := ev_sz l z61 (fun z => z.f0.size) (fun k left i => laws_szChangeS.l0 k l left i) (by
      intro i lf hi g0 g1 r hr
      have hsz : (l.getD i z61).f0.size ≤ 9223372036854775807 := by
        rw [List.getD_eq_getElem?_getD, List.getElem?_eq_getElem hi]
        exact hz _ (List.getElem_mem hi)
      refine Ev_succ.mpr ?_
      simp only [laws_szChangeS.l0, rdLChange, w64s i (by omega), laws_szChange.f, Ev_ite]
      rw [if_pos (by omega), if_pos (by omega), w64 (x := lf - _) (by omega) (by omega)]
      by_cases hm : lf - ((l.getD i z61).f0.size : Int) < 0
      · rw [if_pos hm] at hr ⊢
        simp only [Option.bind_some]
        rw [Ev_pos (by omega)]
        exact Ev_some.mpr hr
      · rw [if_neg hm] at hr ⊢
        simp only [Option.bind_some]
        rw [Ev_neg hm]
        exact hr) (by
      intro lf
      refine Ev_succ.mpr ?_
      simp only [laws_szChangeS.l0, Ev_ite]
      rw [if_neg (by omega)]
      exact Ev_some.mpr rfl) (left - (l.length : Int)) (by omega) (by omega)
    exact ⟨t, ht, by omega, fun h => ⟨by omega, fun z hzm => by have := hall h z hzm; omega⟩⟩
theorem toChangeS_ev (l : List S61) (hl : l.length ≤ 1048576) : Ev (fun k => laws_toChangeS.f k l) (l.map convChange) := by
  unfold laws_toChangeS.f
  simp only [Ev_ite]
  rw [if_pos (by omega), if_pos (by omega)]
  refine ev_fill l z61 convChange (fun k acc i => laws_toChangeS.l0 k l acc i) ?_ ?_ _ (by simp)
  · intro i acc hi hla r hr
    refine Ev_succ.mpr ?_
    simp only [laws_toChangeS.l0, rdLChange, w64s i (by omega), laws_toChange.f, Ev_ite, Option.bind_some, Int.toNat_natCast]
    rw [if_pos (by omega), if_pos (by omega), if_pos (by omega)]
    exact hr
  · intro acc hla
    refine Ev_succ.mpr ?_
    simp only [laws_toChangeS.l0, Ev_ite]
    rw [if_neg (by omega)]
    exact Ev_some.mpr rfl
theorem eqChange_eq (x y : S62) : laws_eqChange.f x.f0 x.f1 y.f0 y.f1 = some (eqb x y) := by
  unfold laws_eqChange.f
  by_cases h0 : x.f0.toList = y.f0.toList
  case neg => rw [if_neg h0, eqb_ne (fun h => h0 (by rw [h]))]
  by_cases h1 : x.f1 = y.f1
  case neg => rw [if_pos h0, if_neg h1, eqb_ne (fun h => h1 (by rw [h]))]
  rw [if_pos h0, if_pos h1]
  have h0 := toList_iff.1 h0
  have : x = y := by cases x; cases y; simp_all
  rw [this, eqb_self]
theorem eqChangeS_ev (a b : List S62) (ha : a.length ≤ 9223372036854775807) : Ev (fun k => laws_eqChangeS.f k a b) (eqb a b) := by
  unfold laws_eqChangeS.f
  simp only [Ev_ite]
  by_cases h : (a.length : Int) = (b.length : Int)
  · rw [if_pos h]
    refine ev_eqS a b z62 (fun k i => laws_eqChangeS.l0 k a b i) (by omega) ?_ ?_
    · intro i hi r hr
      refine Ev_succ.mpr ?_
      simp only [laws_eqChangeS.l0, rdChange, w64s i (by omega), eqChange_eq, Ev_ite, Option.bind_some]
      rw [if_pos (by omega), if_pos (by omega), if_pos (by omega)]
      by_cases he : eqb (a.getD i z62) (b.getD i z62) = true
      · rw [if_pos he] at hr ⊢
        exact hr
      · rw [if_neg he] at hr ⊢
        exact Ev_some.mpr hr
    · refine Ev_succ.mpr ?_
      simp only [laws_eqChangeS.l0, Ev_ite]
      rw [if_neg (by omega)]
      exact Ev_some.mpr rfl
  · rw [if_neg h, eqb_ne (fun e => h (by rw [e]))]
    exact Ev_some.mpr rfl
end Go.Proofs.Ytglfoihpgpdooaa.Mod
