/- What the laws' functions on slices of texts come to. -/
import Derived.Test.YtjgbidklkhohfaaDoorPx3
import Derived.Test.YtjgbidklkhohfaaDoorPx8
import Derived.Test.YtjgbidklkhohfaaDoorMark
namespace Go.Proofs.YtjgbidklkhohfaaDoor.Mod
open Go.RowKit Go.Proofs.YtjgbidklkhohfaaDoor.P Go.Proofs.YtjgbidklkhohfaaDoor.EvK Go.Proofs.YtjgbidklkhohfaaDoorW.PrintWords Go.Proofs.YtjgbidklkhohfaaDoorW.PrintLast
set_option linter.unusedVariables false
set_option linter.unusedSimpArgs false
theorem rdT_nat (ts : List ByteArray) (i : Nat) : rdOf ByteArray.empty ts (i : Int) = ts.getD i ByteArray.empty := by simp [rdOf]
theorem eqSString_ev (a b : List ByteArray) (ha : a.length ≤ 9223372036854775807) : Ev (fun k => laws_eqStringS.f k a b) (eqb a b) := by
  unfold laws_eqStringS.f
  rw [Ev_ite]
  by_cases h : (a.length : Int) = (b.length : Int)
  · rw [if_pos h]
    refine ev_eqS a b ByteArray.empty (fun k i => laws_eqStringS.l0 k a b i) (by omega) ?_ ?_
    · intro i hi r hr
      refine Ev_succ.mpr ?_
      simp only [laws_eqStringS.l0, rdT_nat, w64s i (by omega), Ev_ite]
      rw [if_pos (by omega), if_pos (by omega), if_pos (by omega)]
      by_cases he : a.getD i ByteArray.empty = b.getD i ByteArray.empty
      · rw [if_pos (eqb_iff.2 he)] at hr
        rw [if_pos (by rw [he])]
        exact hr
      · rw [if_neg (fun g => he (eqb_iff.1 g))] at hr
        rw [if_neg (fun g => he (toList_iff.1 g))]
        exact Ev_some.mpr hr
    · refine Ev_succ.mpr ?_
      simp only [laws_eqStringS.l0, Ev_ite]
      rw [if_neg (by omega)]
      exact Ev_some.mpr rfl
  · rw [if_neg h, eqb_ne (fun e => h (by rw [e]))]
    exact Ev_some.mpr rfl
noncomputable def markString (n : Nat) (k : Int) : List ByteArray := (List.range n).map (fun i => markT (k + ((1 * i : Nat) : Int)))
theorem markSString_ev (l : List ByteArray) (k : Int) (h0 : 0 ≤ k) (h1 : k + ((1 * l.length : Nat) : Int) ≤ 1000000000000) : Ev (fun q => laws_markStringS.f q l k) (k + ((1 * l.length : Nat) : Int), markString l.length k) := by
  unfold laws_markStringS.f markString
  refine ev_mark l.length (fun i => markT (k + ((1 * i : Nat) : Int))) k 1 (fun q acc k i => laws_markStringS.l0 q acc k i) ?_ ?_ l rfl
  · intro i acc hi hla r hr
    refine Ev_succ.mpr ?_
    have e1 : wrap64 (k + ((1 * i : Nat) : Int) + 1) = k + ((1 * (i + 1) : Nat) : Int) := by rw [w64 (by omega) (by omega)]; omega
    simp only [laws_markStringS.l0, w64s i (by omega), Int.toNat_natCast, Ev_ite]
    rw [if_pos (by omega), Ev_bd (markT_ev _ (by omega)), Ev_ite, if_pos (by omega), e1]
    exact hr
  · intro acc hla
    refine Ev_succ.mpr ?_
    simp only [laws_markStringS.l0, Ev_ite]
    rw [if_neg (by omega)]
    exact Ev_some.mpr rfl
theorem heldSString_ev (n : Nat) (k : Int) (h0 : 0 ≤ k) (h1 : k + ((1 * n : Nat) : Int) ≤ 1000000000000) : Ev (fun q => laws_heldStringS.f q (markString n k) k) (k + ((1 * n : Nat) : Int)) := by
  unfold laws_heldStringS.f
  refine ev_held n k 1 (fun q k' i => laws_heldStringS.l0 q (markString n k) k' i) ?_ ?_
  · intro i hi r hr
    refine Ev_succ.mpr ?_
    have hlen : (markString n k).length = n := by simp [markString]
    have hg : (markString n k).getD i ByteArray.empty = markT (k + ((1 * i : Nat) : Int)) := by simp [markString, List.getD_eq_getElem?_getD, hi]
    have e1 : wrap64 (k + ((1 * i : Nat) : Int) + 1) = k + ((1 * (i + 1) : Nat) : Int) := by rw [w64 (by omega) (by omega)]; omega
    simp only [laws_heldStringS.l0, rdT_nat, w64s i (by omega), hg, hlen, Ev_ite]
    rw [if_pos (by omega), if_pos (by omega), Ev_bd (markT_ev _ (by omega)), Ev_ite, if_pos rfl, e1]
    exact hr
  · refine Ev_succ.mpr ?_
    have hlen : (markString n k).length = n := by simp [markString]
    simp only [laws_heldStringS.l0, hlen, Ev_ite]
    rw [if_neg (by omega)]
    exact Ev_some.mpr rfl
end Go.Proofs.YtjgbidklkhohfaaDoor.Mod
