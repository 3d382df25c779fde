/- Marks on slices of Change. -/
import Derived.Test.YtjgbidklkhohfaaGreatDoorPx0
import Derived.Test.YtjgbidklkhohfaaGreatDoorPx15
import Derived.Test.YtjgbidklkhohfaaGreatDoorTChange
import Derived.Test.YtjgbidklkhohfaaGreatDoorMark
namespace Go.Proofs.YtjgbidklkhohfaaGreatDoor.Mod
open Go.RowKit Go.Proofs.YtjgbidklkhohfaaGreatDoor.P Go.Proofs.YtjgbidklkhohfaaGreatDoor.EvK Go.Proofs.YtjgbidklkhohfaaGreatDoorW.PrintWords Go.Proofs.YtjgbidklkhohfaaGreatDoorW.PrintLast
set_option linter.all false
noncomputable def markChange (n : Nat) (k : Int) : List S62 := (List.range n).map (fun i => ⟨markT (k + ((2 * i + 0 : Nat) : Int)), k + ((2 * i + 1 : Nat) : Int)⟩)
theorem markSChange_ev (l : List S62) (k : Int) (h0 : 0 ≤ k) (h1 : k + ((2 * l.length : Nat) : Int) ≤ 1000000000000) : Ev (fun q => laws_markChangeS.f q l k) (k + ((2 * l.length : Nat) : Int), markChange l.length k) := by
 unfold laws_markChangeS.f markChange
 refine ev_mark l.length (fun i => (⟨markT (k + ((2 * i + 0 : Nat) : Int)), k + ((2 * i + 1 : Nat) : Int)⟩ : S62)) k 2 (fun q acc k i => laws_markChangeS.l0 q acc k i) ?_ ?_ l rfl
 ·intro i acc hi hla r hr
  refine Ev_succ.mpr ?_
  have hm : 2 * i + 2 ≤ 2 * l.length := by omega
  have e0 : k + ((2 * i : Nat) : Int) = k + ((2 * i + 0 : Nat) : Int) := rfl
  have e1 : wrap64 (k + ((2 * i + 0 : Nat) : Int) + 1) = k + ((2 * i + 1 : Nat) : Int) := by rw [w64 (by omega) (by omega)]; omega
  have e2 : wrap64 (k + ((2 * i + 1 : Nat) : Int) + 1) = k + ((2 * i + 2 : Nat) : Int) := by rw [w64 (by omega) (by omega)]; omega
  have e9 : 2 * i + 2 = 2 * (i + 1) := by omega
  simp only [laws_markChangeS.l0, rdChange, w64s i (by omega), Option.bind_some, Int.toNat_natCast, Ev_ite]
  rw [if_pos (by omega), e0, Ev_bd (markT_ev (k + ((2 * i + 0 : Nat) : Int)) (by omega)), Ev_pos (by omega)]
  (try simp only [e1, e2])
  have g1 : ∀ v : S62, (acc.set i v).getD i z62 = v := fun v => getD_set acc z62 v i (by omega)
  simp only [List.set_set, g1]
  rw [e9]
  exact hr
 ·intro acc hla
  refine Ev_succ.mpr ?_
  simp only [laws_markChangeS.l0, Ev_ite]
  rw [if_neg (by omega)]
  exact Ev_some.mpr rfl
theorem heldSChange_ev (n : Nat) (k : Int) (h0 : 0 ≤ k) (h1 : k + ((2 * n : Nat) : Int) ≤ 1000000000000) : Ev (fun q => laws_heldChangeS.f q (markChange n k) k) (k + ((2 * n : Nat) : Int)) := by
 unfold laws_heldChangeS.f
 refine ev_held n k 2 (fun q k' i => laws_heldChangeS.l0 q (markChange n k) k' i) ?_ ?_
 ·intro i hi r hr
  refine Ev_succ.mpr ?_
  have hm : 2 * i + 2 ≤ 2 * n := by omega
  have hlen : (markChange n k).length = n := by simp [markChange]
  have hg : (markChange n k).getD i z62 = ⟨markT (k + ((2 * i + 0 : Nat) : Int)), k + ((2 * i + 1 : Nat) : Int)⟩ := by simp [markChange, List.getD_eq_getElem?_getD, hi]
  have e0 : k + ((2 * i : Nat) : Int) = k + ((2 * i + 0 : Nat) : Int) := rfl
  have e1 : wrap64 (k + ((2 * i + 0 : Nat) : Int) + 1) = k + ((2 * i + 1 : Nat) : Int) := by rw [w64 (by omega) (by omega)]; omega
  have e2 : wrap64 (k + ((2 * i + 1 : Nat) : Int) + 1) = k + ((2 * i + 2 : Nat) : Int) := by rw [w64 (by omega) (by omega)]; omega
  have e9 : 2 * i + 2 = 2 * (i + 1) := by omega
  simp only [laws_heldChangeS.l0, rdChange, w64s i (by omega), hg, hlen, Ev_ite]
  rw [if_pos (by omega), if_pos (by omega), e0]
  (try simp only [e1, e2])
  rw [Ev_bd (markT_ev (k + ((2 * i + 0 : Nat) : Int)) (by omega)), Ev_ite, if_pos rfl]
  (first | simp only [if_true] | rw [if_pos rfl] | rw [Ev_ite, if_pos rfl])
  rw [e9]
  exact hr
 ·refine Ev_succ.mpr ?_
  have hlen : (markChange n k).length = n := by simp [markChange]
  simp only [laws_heldChangeS.l0, hlen, Ev_ite]
  rw [if_neg (by omega)]
  exact Ev_some.mpr rfl
end Go.Proofs.YtjgbidklkhohfaaGreatDoor.Mod
