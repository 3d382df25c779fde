/- Marks on slices of LogEntry. -/
import Derived.Test.YtcbmkonigclceaaPx0
import Derived.Test.YtcbmkonigclceaaPx13
import Derived.Test.YtcbmkonigclceaaPx28
import Derived.Test.YtcbmkonigclceaaTLogEntry
import Derived.Test.YtcbmkonigclceaaMark
namespace Go.Proofs.Ytcbmkonigclceaa.Mod
open Go.RowKit Go.Proofs.Ytcbmkonigclceaa.P Go.Proofs.Ytcbmkonigclceaa.EvK Go.Proofs.YtcbmkonigclceaaW.PrintWords Go.Proofs.YtcbmkonigclceaaW.PrintLast
set_option linter.unusedVariables false
set_option linter.unusedSimpArgs false
noncomputable def markLogEntry (n : Nat) (k : Int) : List S39 := (List.range n).map (fun i => ⟨k + ((2 * i + 0 : Nat) : Int), markT (k + ((2 * i + 1 : Nat) : Int))⟩)
theorem markSLogEntry_ev (l : List S39) (k : Int) (h0 : 0 ≤ k) (h1 : k + ((2 * l.length : Nat) : Int) ≤ 1000000000000) : Ev (fun q => laws_markLogEntryS.f q l k) (k + ((2 * l.length : Nat) : Int), markLogEntry l.length k) := by
  unfold laws_markLogEntryS.f markLogEntry
  refine ev_mark l.length (fun i => (⟨k + ((2 * i + 0 : Nat) : Int), markT (k + ((2 * i + 1 : Nat) : Int))⟩ : S39)) k 2 (fun q acc k i => laws_markLogEntryS.l0 q acc k i) ?_ ?_ l rfl
  · intro i acc hi hla r hr
    refine Ev_succ.mpr ?_
    have hm : 2 * i + 2 ≤ 2 * l.length := by omega
    have e0 : k + ((2 * i : Nat) : Int) = k + ((2 * i + 0 : Nat) : Int) := rfl
    have e1 : wrap64 (k + ((2 * i + 0 : Nat) : Int) + 1) = k + ((2 * i + 1 : Nat) : Int) := by rw [w64 (by omega) (by omega)]; omega
    have e2 : wrap64 (k + ((2 * i + 1 : Nat) : Int) + 1) = k + ((2 * i + 2 : Nat) : Int) := by rw [w64 (by omega) (by omega)]; omega
    have e9 : 2 * i + 2 = 2 * (i + 1) := by omega
    simp only [laws_markLogEntryS.l0, rdLogEntry, w64s i (by omega), Option.bind_some, Int.toNat_natCast, Ev_ite]
    rw [if_pos (by omega), if_pos (by omega), e0]
    (try simp only [e1, e2])
    rw [Ev_bd (markT_ev (k + ((2 * i + 1 : Nat) : Int)) (by omega))]
    have g1 : ∀ v : S39, (acc.set i v).getD i z39 = v := fun v => getD_set acc z39 v i (by omega)
    simp only [List.set_set, g1]
    rw [e9]
    exact hr
  · intro acc hla
    refine Ev_succ.mpr ?_
    simp only [laws_markLogEntryS.l0, Ev_ite]
    rw [if_neg (by omega)]
    exact Ev_some.mpr rfl
theorem heldSLogEntry_ev (n : Nat) (k : Int) (h0 : 0 ≤ k) (h1 : k + ((2 * n : Nat) : Int) ≤ 1000000000000) : Ev (fun q => laws_heldLogEntryS.f q (markLogEntry n k) k) (k + ((2 * n : Nat) : Int)) := by
  unfold laws_heldLogEntryS.f
  refine ev_held n k 2 (fun q k' i => laws_heldLogEntryS.l0 q (markLogEntry n k) k' i) ?_ ?_
  · intro i hi r hr
    refine Ev_succ.mpr ?_
    have hm : 2 * i + 2 ≤ 2 * n := by omega
    have hlen : (markLogEntry n k).length = n := by simp [markLogEntry]
    have hg : (markLogEntry n k).getD i z39 = ⟨k + ((2 * i + 0 : Nat) : Int), markT (k + ((2 * i + 1 : Nat) : Int))⟩ := by simp [markLogEntry, List.getD_eq_getElem?_getD, hi]
    have e0 : k + ((2 * i : Nat) : Int) = k + ((2 * i + 0 : Nat) : Int) := rfl
    have e1 : wrap64 (k + ((2 * i + 0 : Nat) : Int) + 1) = k + ((2 * i + 1 : Nat) : Int) := by rw [w64 (by omega) (by omega)]; omega
    have e2 : wrap64 (k + ((2 * i + 1 : Nat) : Int) + 1) = k + ((2 * i + 2 : Nat) : Int) := by rw [w64 (by omega) (by omega)]; omega
    have e9 : 2 * i + 2 = 2 * (i + 1) := by omega
    simp only [laws_heldLogEntryS.l0, rdLogEntry, w64s i (by omega), hg, hlen, Ev_ite]
    rw [if_pos (by omega), if_pos (by omega), e0]
    (try simp only [e1, e2])
    (first | rw [if_pos trivial] | rw [if_pos rfl] | rw [Ev_ite, if_pos rfl])
    rw [Ev_bd (markT_ev (k + ((2 * i + 1 : Nat) : Int)) (by omega)), Ev_ite, if_pos rfl]
    rw [e9]
    exact hr
  · refine Ev_succ.mpr ?_
    have hlen : (markLogEntry n k).length = n := by simp [markLogEntry]
    simp only [laws_heldLogEntryS.l0, hlen, Ev_ite]
    rw [if_neg (by omega)]
    exact Ev_some.mpr rfl
end Go.Proofs.Ytcbmkonigclceaa.Mod
