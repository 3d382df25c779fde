/- Slices of Branch: the guard on sizes, the copy, equality, as the statements use them. -/
import Derived.Test.YtbjfbmoeboagaaaPx0
import Derived.Test.YtbjfbmoeboagaaaPx17
import Derived.Test.YtbjfbmoeboagaaaPx19
import Derived.Test.YtbjfbmoeboagaaaPx20
import Derived.Test.YtbjfbmoeboagaaaPx23
import Derived.Test.YtbjfbmoeboagaaaPx24
import Derived.Test.YtbjfbmoeboagaaaEv
namespace Go.Proofs.Ytbjfbmoeboagaaa.Mod
open Go.RowKit Go.Proofs.Ytbjfbmoeboagaaa.P Go.Proofs.Ytbjfbmoeboagaaa.EvK Go.Proofs.YtbjfbmoeboagaaaW.PrintWords Go.Proofs.YtbjfbmoeboagaaaW.PrintLast
set_option linter.unusedVariables false
set_option linter.unusedSimpArgs false
theorem rdBranch (xs : List S64) (i : Nat) : rd_T64 xs (i : Int) = xs.getD i z64 := by simp [rd_T64]
theorem rdLBranch (xs : List S69) (i : Nat) : rd_T69 xs (i : Int) = xs.getD i z69 := by simp [rd_T69]
def convBranch (x : S69) : S64 := ⟨x.f0, x.f1⟩
theorem szBranch_ev (l : List S69) (hl : l.length ≤ 9223372036854775807) (hz : ∀ z ∈ l, z.f0.size ≤ 9223372036854775807) (left : Int) (h0 : 0 ≤ left) (h1 : left ≤ 1048576) :
    ∃ t, Ev (fun k => laws_szBranchS.f k l left) t ∧ t ≤ left ∧ (0 ≤ t → (l.length : Int) ≤ left ∧ ∀ z ∈ l, (z.f0.size : Int) ≤ left) := by
  unfold laws_szBranchS.f
  rw [w64 (x := left - (l.length : Int)) (by omega) (by omega)]
  by_cases hn : left - (l.length : Int) < 0
  · exact ⟨-1, by simp only [if_pos hn]; exact Ev_some.mpr rfl, by omega, fun h => by omega⟩
  · simp only [if_neg hn]
    obtain ⟨t, ht, hle, hall⟩ := ev_sz l z69 (fun z => z.f0.size) (fun k left i => laws_szBranchS.l0 k l left i) (by
      intro i lf hi g0 g1 r hr
      have hsz : (l.getD i z69).f0.size ≤ 9223372036854775807 := by
        rw [List.getD_eq_getElem?_getD, List.getElem?_eq_getElem hi]
        exact hz _ (List.getElem_mem hi)
      refine Ev_succ.mpr ?_
      simp only [laws_szBranchS.l0, rdLBranch, w64s i (by omega), laws_szBranch.f, Ev_ite]
      rw [if_pos (by omega), if_pos (by omega), w64 (x := lf - _) (by omega) (by omega)]
      by_cases hm : lf - ((l.getD i z69).f0.size : Int) < 0
      · rw [if_pos hm] at hr ⊢
        simp only [Option.bind_some]
        rw [Ev_pos (by omega)]
        exact Ev_some.mpr hr
      · rw [if_neg hm] at hr ⊢
        simp only [Option.bind_some]
        rw [Ev_neg hm]
        exact hr) (by
      intro lf
      refine Ev_succ.mpr ?_
      simp only [laws_szBranchS.l0, Ev_ite]
      rw [if_neg (by omega)]
      exact Ev_some.mpr rfl) (left - (l.length : Int)) (by omega) (by omega)
    exact ⟨t, ht, by omega, fun h => ⟨by omega, fun z hzm => by have := hall h z hzm; omega⟩⟩
theorem toBranchS_ev (l : List S69) (hl : l.length ≤ 1048576) : Ev (fun k => laws_toBranchS.f k l) (l.map convBranch) := by
  unfold laws_toBranchS.f
  simp only [Ev_ite]
  rw [if_pos (by omega), if_pos (by omega)]
  refine ev_fill l z69 convBranch (fun k acc i => laws_toBranchS.l0 k l acc i) ?_ ?_ _ (by simp)
  · intro i acc hi hla r hr
    refine Ev_succ.mpr ?_
    simp only [laws_toBranchS.l0, rdLBranch, w64s i (by omega), laws_toBranch.f, Ev_ite, Option.bind_some, Int.toNat_natCast]
    rw [if_pos (by omega), if_pos (by omega), if_pos (by omega)]
    exact hr
  · intro acc hla
    refine Ev_succ.mpr ?_
    simp only [laws_toBranchS.l0, Ev_ite]
    rw [if_neg (by omega)]
    exact Ev_some.mpr rfl
theorem eqBranch_eq (x y : S64) : laws_eqBranch.f x.f0 x.f1 y.f0 y.f1 = some (eqb x y) := by
  unfold laws_eqBranch.f
  by_cases h0 : x.f0.toList = y.f0.toList
  case neg => rw [if_neg h0, eqb_ne (fun h => h0 (by rw [h]))]
  by_cases h1 : x.f1 = y.f1
  case neg => rw [if_pos h0, if_neg h1, eqb_ne (fun h => h1 (by rw [h]))]
  rw [if_pos h0, if_pos h1]
  have h0 := toList_iff.1 h0
  have : x = y := by cases x; cases y; simp_all
  rw [this, eqb_self]
theorem eqBranchS_ev (a b : List S64) (ha : a.length ≤ 9223372036854775807) : Ev (fun k => laws_eqBranchS.f k a b) (eqb a b) := by
  unfold laws_eqBranchS.f
  simp only [Ev_ite]
  by_cases h : (a.length : Int) = (b.length : Int)
  · rw [if_pos h]
    refine ev_eqS a b z64 (fun k i => laws_eqBranchS.l0 k a b i) (by omega) ?_ ?_
    · intro i hi r hr
      refine Ev_succ.mpr ?_
      simp only [laws_eqBranchS.l0, rdBranch, w64s i (by omega), eqBranch_eq, Ev_ite, Option.bind_some]
      rw [if_pos (by omega), if_pos (by omega), if_pos (by omega)]
      by_cases he : eqb (a.getD i z64) (b.getD i z64) = true
      · rw [if_pos he] at hr ⊢
        exact hr
      · rw [if_neg he] at hr ⊢
        exact Ev_some.mpr hr
    · refine Ev_succ.mpr ?_
      simp only [laws_eqBranchS.l0, Ev_ite]
      rw [if_neg (by omega)]
      exact Ev_some.mpr rfl
  · rw [if_neg h, eqb_ne (fun e => h (by rw [e]))]
    exact Ev_some.mpr rfl
end Go.Proofs.Ytbjfbmoeboagaaa.Mod
