/- What the program's LogCut comes to. -/
import Derived.Test.YtcbmkonigclceaaPx0
import Derived.Test.YtcbmkonigclceaaPx22
import Derived.Test.YtcbmkonigclceaaPx23
import Derived.Test.YtcbmkonigclceaaDrawL
namespace Go.Proofs.Ytcbmkonigclceaa.Mod
open Go.RowKit Go.Proofs.Ytcbmkonigclceaa.P Go.Proofs.Ytcbmkonigclceaa.EvK Go.Proofs.YtcbmkonigclceaaW.PrintWords Go.Proofs.YtcbmkonigclceaaW.PrintLast
set_option linter.unusedVariables false
set_option linter.unusedSimpArgs false
theorem impl_logCut_ev (l : List S39) (m : Int) (hl : LogSized l) : Ev (fun k => impl_LogCut.f k l m) (logCut l m) := by
  unfold impl_LogCut.f logCut
  have hj : ∀ b r, Ev (fun k => impl_LogCut.j0 k l m b) r ↔ (if b = true then [] = r else if 0 ≤ m then (if m ≤ (l.length : Int) then Ev (fun k => (slices_Clone_LogEntry.f (l.take m.toNat)).bind fun t => some t) r else Ev (fun k => none) r) else Ev (fun k => none) r) := by
    intro b r
    rw [Ev_succ]
    simp only [impl_LogCut.j0, Ev_ite, Ev_some]
  rw [Ev_bd (impl_log_ev l hl)]
  simp only [Ev_ite, hj]
  by_cases h : logValid l = true
  · rw [if_pos h]
    have hlen := logValid_len h
    by_cases h0 : m < 0
    · rw [if_pos h0, if_pos trivial, if_neg (fun g => by omega)]
    · rw [if_neg h0]
      by_cases h1 : m ≤ (l.length : Int)
      · have hc : slices_Clone_LogEntry.f (l.take m.toNat) = some (l.take m.toNat) := by
          unfold slices_Clone_LogEntry.f
          rw [if_pos (by rw [List.length_take]; omega)]
        rw [decide_eq_false (by omega), if_neg (by simp), if_pos (by omega), if_pos h1, if_pos ⟨h, by omega, h1⟩, Ev_b0 hc]
        exact Ev_some.mpr rfl
      · rw [decide_eq_true (by omega), if_pos rfl, if_neg (fun g => by omega)]
  · rw [if_neg h, if_pos trivial, if_neg (fun g => h g.1)]
theorem logCut_len (l : List S39) (m : Int) : (logCut l m).length ≤ 40 := by
  unfold logCut
  split
  · rename_i h
    have := logValid_len h.1
    rw [List.length_take]
    omega
  · simp
end Go.Proofs.Ytcbmkonigclceaa.Mod
