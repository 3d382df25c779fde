/- Slices of Version: the guard on sizes, the copy, equality, as the statements use them. -/
import Derived.Test.YtbjfbmoeboagaaaPx0
import Derived.Test.YtbjfbmoeboagaaaPx30
import Derived.Test.YtbjfbmoeboagaaaPx31
import Derived.Test.YtbjfbmoeboagaaaPx32
import Derived.Test.YtbjfbmoeboagaaaEv
namespace Go.Proofs.Ytbjfbmoeboagaaa.Mod
open Go.RowKit Go.Proofs.Ytbjfbmoeboagaaa.P Go.Proofs.Ytbjfbmoeboagaaa.EvK Go.Proofs.YtbjfbmoeboagaaaW.PrintWords Go.Proofs.YtbjfbmoeboagaaaW.PrintLast
set_option linter.unusedVariables false
set_option linter.unusedSimpArgs false
theorem rdVersion (xs : List S25) (i : Nat) : rd_T25 xs (i : Int) = xs.getD i z25 := by simp [rd_T25]
theorem rdLVersion (xs : List S48) (i : Nat) : rd_T48 xs (i : Int) = xs.getD i z48 := by simp [rd_T48]
def convVersion (x : S48) : S25 := ⟨x.f0, x.f1, x.f2⟩
theorem szVersion_ev (l : List S48) (hl : l.length ≤ 9223372036854775807) (hz : ∀ z ∈ l, z.f2.size ≤ 9223372036854775807) (left : Int) (h0 : 0 ≤ left) (h1 : left ≤ 1048576) :
    ∃ t, Ev (fun k => laws_szVersionS.f k l left) t ∧ t ≤ left ∧ (0 ≤ t → (l.length : Int) ≤ left ∧ ∀ z ∈ l, (z.f2.size : Int) ≤ left) := by
  unfold laws_szVersionS.f
  rw [w64 (x := left - (l.length : Int)) (by omega) (by omega)]
  by_cases hn : left - (l.length : Int) < 0
  · exact ⟨-1, by simp only [if_pos hn]; exact Ev_some.mpr rfl, by omega, fun h => by omega⟩
  · simp only [if_neg hn]
    obtain ⟨t, ht, hle, hall⟩ := ev_sz l z48 (fun z => z.f2.size) (fun k left i => laws_szVersionS.l0 k l left i) (by
      intro i lf hi g0 g1 r hr
      have hsz : (l.getD i z48).f2.size ≤ 9223372036854775807 := by
        rw [List.getD_eq_getElem?_getD, List.getElem?_eq_getElem hi]
        exact hz _ (List.getElem_mem hi)
      refine Ev_succ.mpr ?_
      simp only [laws_szVersionS.l0, rdLVersion, w64s i (by omega), laws_szVersion.f, Ev_ite]
      rw [if_pos (by omega), if_pos (by omega), w64 (x := lf - _) (by omega) (by omega)]
      by_cases hm : lf - ((l.getD i z48).f2.size : Int) < 0
      · rw [if_pos hm] at hr ⊢
        simp only [Option.bind_some]
        rw [Ev_pos (by omega)]
        exact Ev_some.mpr hr
      · rw [if_neg hm] at hr ⊢
        simp only [Option.bind_some]
        rw [Ev_neg hm]
        exact hr) (by
      intro lf
      refine Ev_succ.mpr ?_
      simp only [laws_szVersionS.l0, Ev_ite]
      rw [if_neg (by omega)]
      exact Ev_some.mpr rfl) (left - (l.length : Int)) (by omega) (by omega)
    exact ⟨t, ht, by omega, fun h => ⟨by omega, fun z hzm => by have := hall h z hzm; omega⟩⟩
theorem toVersionS_ev (l : List S48) (hl : l.length ≤ 1048576) : Ev (fun k => laws_toVersionS.f k l) (l.map convVersion) := by
  unfold laws_toVersionS.f
  simp only [Ev_ite]
  rw [if_pos (by omega), if_pos (by omega)]
  refine ev_fill l z48 convVersion (fun k acc i => laws_toVersionS.l0 k l acc i) ?_ ?_ _ (by simp)
  · intro i acc hi hla r hr
    refine Ev_succ.mpr ?_
    simp only [laws_toVersionS.l0, rdLVersion, w64s i (by omega), laws_toVersion.f, Ev_ite, Option.bind_some, Int.toNat_natCast]
    rw [if_pos (by omega), if_pos (by omega), if_pos (by omega)]
    exact hr
  · intro acc hla
    refine Ev_succ.mpr ?_
    simp only [laws_toVersionS.l0, Ev_ite]
    rw [if_neg (by omega)]
    exact Ev_some.mpr rfl
theorem eqVersion_eq (x y : S25) : laws_eqVersion.f x.f0 x.f1 x.f2 y.f0 y.f1 y.f2 = some (eqb x y) := by
  unfold laws_eqVersion.f
  by_cases h0 : x.f0 = y.f0
  case neg => rw [if_neg h0, eqb_ne (fun h => h0 (by rw [h]))]
  by_cases h1 : x.f1 = y.f1
  case neg => rw [if_pos h0, if_neg h1, eqb_ne (fun h => h1 (by rw [h]))]
  by_cases h2 : x.f2.toList = y.f2.toList
  case neg => rw [if_pos h0, if_pos h1, if_neg h2, eqb_ne (fun h => h2 (by rw [h]))]
  rw [if_pos h0, if_pos h1, if_pos h2]
  have h2 := toList_iff.1 h2
  have : x = y := by cases x; cases y; simp_all
  rw [this, eqb_self]
theorem eqVersionS_ev (a b : List S25) (ha : a.length ≤ 9223372036854775807) : Ev (fun k => laws_eqVersionS.f k a b) (eqb a b) := by
  unfold laws_eqVersionS.f
  simp only [Ev_ite]
  by_cases h : (a.length : Int) = (b.length : Int)
  · rw [if_pos h]
    refine ev_eqS a b z25 (fun k i => laws_eqVersionS.l0 k a b i) (by omega) ?_ ?_
    · intro i hi r hr
      refine Ev_succ.mpr ?_
      simp only [laws_eqVersionS.l0, rdVersion, w64s i (by omega), eqVersion_eq, Ev_ite, Option.bind_some]
      rw [if_pos (by omega), if_pos (by omega), if_pos (by omega)]
      by_cases he : eqb (a.getD i z25) (b.getD i z25) = true
      · rw [if_pos he] at hr ⊢
        exact hr
      · rw [if_neg he] at hr ⊢
        exact Ev_some.mpr hr
    · refine Ev_succ.mpr ?_
      simp only [laws_eqVersionS.l0, Ev_ite]
      rw [if_neg (by omega)]
      exact Ev_some.mpr rfl
  · rw [if_neg h, eqb_ne (fun e => h (by rw [e]))]
    exact Ev_some.mpr rfl
end Go.Proofs.Ytbjfbmoeboagaaa.Mod
