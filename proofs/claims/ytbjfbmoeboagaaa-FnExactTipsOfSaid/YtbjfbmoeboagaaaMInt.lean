/- Marks on slices of int, and such slices held against each other. -/
import Derived.Test.YtbjfbmoeboagaaaPx41
import Derived.Test.YtbjfbmoeboagaaaPx42
import Derived.Test.YtbjfbmoeboagaaaMark
namespace Go.Proofs.Ytbjfbmoeboagaaa.Mod
open Go.RowKit Go.Proofs.Ytbjfbmoeboagaaa.P Go.Proofs.Ytbjfbmoeboagaaa.EvK Go.Proofs.YtbjfbmoeboagaaaW.PrintWords Go.Proofs.YtbjfbmoeboagaaaW.PrintLast
set_option linter.unusedVariables false
set_option linter.unusedSimpArgs false
theorem eqSInt_ev (a b : List Int) (ha : a.length ≤ 9223372036854775807) : Ev (fun k => laws_eqIntS.f k a b) (eqb a b) := by
  unfold laws_eqIntS.f
  rw [Ev_ite]
  by_cases h : (a.length : Int) = (b.length : Int)
  · rw [if_pos h]
    refine ev_eqS a b 0 (fun k i => laws_eqIntS.l0 k a b i) (by omega) ?_ ?_
    · intro i hi r hr
      refine Ev_succ.mpr ?_
      simp only [laws_eqIntS.l0, rd_nat, w64s i (by omega), Ev_ite]
      rw [if_pos (by omega), if_pos (by omega), if_pos (by omega)]
      by_cases he : a.getD i 0 = b.getD i 0
      · rw [if_pos (eqb_iff.2 he)] at hr
        rw [if_pos he]
        exact hr
      · rw [if_neg (fun g => he (eqb_iff.1 g))] at hr
        rw [if_neg he]
        exact Ev_some.mpr hr
    · refine Ev_succ.mpr ?_
      simp only [laws_eqIntS.l0, Ev_ite]
      rw [if_neg (by omega)]
      exact Ev_some.mpr rfl
  · rw [if_neg h, eqb_ne (fun e => h (by rw [e]))]
    exact Ev_some.mpr rfl
def markInt (n : Nat) (k : Int) : List Int := (List.range n).map (fun i => k + ((1 * i : Nat) : Int))
theorem markSInt_ev (l : List Int) (k : Int) (h0 : 0 ≤ k) (h1 : k + ((1 * l.length : Nat) : Int) ≤ 1000000000000) : Ev (fun q => laws_markIntS.f q l k) (k + ((1 * l.length : Nat) : Int), markInt l.length k) := by
  unfold laws_markIntS.f markInt
  refine ev_mark l.length (fun i => k + ((1 * i : Nat) : Int)) k 1 (fun q acc k i => laws_markIntS.l0 q acc k i) ?_ ?_ l rfl
  · intro i acc hi hla r hr
    refine Ev_succ.mpr ?_
    have e1 : wrap64 (k + ((1 * i : Nat) : Int) + 1) = k + ((1 * (i + 1) : Nat) : Int) := by rw [w64 (by omega) (by omega)]; omega
    simp only [laws_markIntS.l0, w64s i (by omega), Int.toNat_natCast, Ev_ite]
    rw [if_pos (by omega), if_pos (by omega), e1]
    exact hr
  · intro acc hla
    refine Ev_succ.mpr ?_
    simp only [laws_markIntS.l0, Ev_ite]
    rw [if_neg (by omega)]
    exact Ev_some.mpr rfl
theorem heldSInt_ev (n : Nat) (k : Int) (h0 : 0 ≤ k) (h1 : k + ((1 * n : Nat) : Int) ≤ 1000000000000) : Ev (fun q => laws_heldIntS.f q (markInt n k) k) (k + ((1 * n : Nat) : Int)) := by
  unfold laws_heldIntS.f
  refine ev_held n k 1 (fun q k' i => laws_heldIntS.l0 q (markInt n k) k' i) ?_ ?_
  · intro i hi r hr
    refine Ev_succ.mpr ?_
    have hlen : (markInt n k).length = n := by simp [markInt]
    have hg : (markInt n k).getD i 0 = k + ((1 * i : Nat) : Int) := by simp [markInt, List.getD_eq_getElem?_getD, hi]
    have e1 : wrap64 (k + ((1 * i : Nat) : Int) + 1) = k + ((1 * (i + 1) : Nat) : Int) := by rw [w64 (by omega) (by omega)]; omega
    simp only [laws_heldIntS.l0, rd_nat, w64s i (by omega), hg, hlen, Ev_ite]
    rw [if_pos (by omega), if_pos (by omega), if_pos trivial, e1]
    exact hr
  · refine Ev_succ.mpr ?_
    have hlen : (markInt n k).length = n := by simp [markInt]
    simp only [laws_heldIntS.l0, hlen, Ev_ite]
    rw [if_neg (by omega)]
    exact Ev_some.mpr rfl
end Go.Proofs.Ytbjfbmoeboagaaa.Mod
