/- Marks on slices of Version. -/
import Derived.Test.YtbjfbmoeboagaaaPx0
import Derived.Test.YtbjfbmoeboagaaaPx33
import Derived.Test.YtbjfbmoeboagaaaPx34
import Derived.Test.YtbjfbmoeboagaaaTVersion
import Derived.Test.YtbjfbmoeboagaaaMark
namespace Go.Proofs.Ytbjfbmoeboagaaa.Mod
open Go.RowKit Go.Proofs.Ytbjfbmoeboagaaa.P Go.Proofs.Ytbjfbmoeboagaaa.EvK Go.Proofs.YtbjfbmoeboagaaaW.PrintWords Go.Proofs.YtbjfbmoeboagaaaW.PrintLast
set_option linter.unusedVariables false
set_option linter.unusedSimpArgs false
noncomputable def markVersion (n : Nat) (k : Int) : List S25 := (List.range n).map (fun i => ⟨k + ((3 * i + 0 : Nat) : Int), k + ((3 * i + 1 : Nat) : Int), markT (k + ((3 * i + 2 : Nat) : Int))⟩)
theorem markSVersion_ev (l : List S25) (k : Int) (h0 : 0 ≤ k) (h1 : k + ((3 * l.length : Nat) : Int) ≤ 1000000000000) : Ev (fun q => laws_markVersionS.f q l k) (k + ((3 * l.length : Nat) : Int), markVersion l.length k) := by
  unfold laws_markVersionS.f markVersion
  refine ev_mark l.length (fun i => (⟨k + ((3 * i + 0 : Nat) : Int), k + ((3 * i + 1 : Nat) : Int), markT (k + ((3 * i + 2 : Nat) : Int))⟩ : S25)) k 3 (fun q acc k i => laws_markVersionS.l0 q acc k i) ?_ ?_ l rfl
  · intro i acc hi hla r hr
    refine Ev_succ.mpr ?_
    have hm : 3 * i + 3 ≤ 3 * l.length := by omega
    have e0 : k + ((3 * i : Nat) : Int) = k + ((3 * i + 0 : Nat) : Int) := rfl
    have e1 : wrap64 (k + ((3 * i + 0 : Nat) : Int) + 1) = k + ((3 * i + 1 : Nat) : Int) := by rw [w64 (by omega) (by omega)]; omega
    have e2 : wrap64 (k + ((3 * i + 1 : Nat) : Int) + 1) = k + ((3 * i + 2 : Nat) : Int) := by rw [w64 (by omega) (by omega)]; omega
    have e3 : wrap64 (k + ((3 * i + 2 : Nat) : Int) + 1) = k + ((3 * i + 3 : Nat) : Int) := by rw [w64 (by omega) (by omega)]; omega
    have e9 : 3 * i + 3 = 3 * (i + 1) := by omega
    simp only [laws_markVersionS.l0, rdVersion, w64s i (by omega), Option.bind_some, Int.toNat_natCast, Ev_ite]
    rw [if_pos (by omega), if_pos (by omega), e0]
    (try simp only [e1, e2, e3])
    rw [Ev_bd (markT_ev (k + ((3 * i + 2 : Nat) : Int)) (by omega))]
    have g1 : ∀ v : S25, (acc.set i v).getD i z25 = v := fun v => getD_set acc z25 v i (by omega)
    simp only [List.set_set, g1]
    rw [e9]
    exact hr
  · intro acc hla
    refine Ev_succ.mpr ?_
    simp only [laws_markVersionS.l0, Ev_ite]
    rw [if_neg (by omega)]
    exact Ev_some.mpr rfl
theorem heldSVersion_ev (n : Nat) (k : Int) (h0 : 0 ≤ k) (h1 : k + ((3 * n : Nat) : Int) ≤ 1000000000000) : Ev (fun q => laws_heldVersionS.f q (markVersion n k) k) (k + ((3 * n : Nat) : Int)) := by
  unfold laws_heldVersionS.f
  refine ev_held n k 3 (fun q k' i => laws_heldVersionS.l0 q (markVersion n k) k' i) ?_ ?_
  · intro i hi r hr
    refine Ev_succ.mpr ?_
    have hm : 3 * i + 3 ≤ 3 * n := by omega
    have hlen : (markVersion n k).length = n := by simp [markVersion]
    have hg : (markVersion n k).getD i z25 = ⟨k + ((3 * i + 0 : Nat) : Int), k + ((3 * i + 1 : Nat) : Int), markT (k + ((3 * i + 2 : Nat) : Int))⟩ := by simp [markVersion, List.getD_eq_getElem?_getD, hi]
    have e0 : k + ((3 * i : Nat) : Int) = k + ((3 * i + 0 : Nat) : Int) := rfl
    have e1 : wrap64 (k + ((3 * i + 0 : Nat) : Int) + 1) = k + ((3 * i + 1 : Nat) : Int) := by rw [w64 (by omega) (by omega)]; omega
    have e2 : wrap64 (k + ((3 * i + 1 : Nat) : Int) + 1) = k + ((3 * i + 2 : Nat) : Int) := by rw [w64 (by omega) (by omega)]; omega
    have e3 : wrap64 (k + ((3 * i + 2 : Nat) : Int) + 1) = k + ((3 * i + 3 : Nat) : Int) := by rw [w64 (by omega) (by omega)]; omega
    have e9 : 3 * i + 3 = 3 * (i + 1) := by omega
    simp only [laws_heldVersionS.l0, rdVersion, w64s i (by omega), hg, hlen, Ev_ite]
    rw [if_pos (by omega), if_pos (by omega), e0]
    (try simp only [e1, e2, e3])
    (first | rw [if_pos trivial] | rw [if_pos rfl] | rw [Ev_ite, if_pos rfl])
    (first | rw [if_pos trivial] | rw [if_pos rfl] | rw [Ev_ite, if_pos rfl])
    rw [Ev_bd (markT_ev (k + ((3 * i + 2 : Nat) : Int)) (by omega)), Ev_ite, if_pos rfl]
    rw [e9]
    exact hr
  · refine Ev_succ.mpr ?_
    have hlen : (markVersion n k).length = n := by simp [markVersion]
    simp only [laws_heldVersionS.l0, hlen, Ev_ite]
    rw [if_neg (by omega)]
    exact Ev_some.mpr rfl
end Go.Proofs.Ytbjfbmoeboagaaa.Mod
