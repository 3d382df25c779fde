/- What the program's LogAdd comes to. -/
import Derived.Test.YtcbmkonigclceaaPx0
import Derived.Test.YtcbmkonigclceaaPx22
import Derived.Test.YtcbmkonigclceaaPx27
import Derived.Test.YtcbmkonigclceaaDrawL
import Derived.Test.YtcbmkonigclceaaTexts
namespace Go.Proofs.Ytcbmkonigclceaa.Mod
open Go.RowKit Go.Proofs.Ytcbmkonigclceaa.P Go.Proofs.Ytcbmkonigclceaa.EvK Go.Proofs.YtcbmkonigclceaaW.PrintWords Go.Proofs.YtcbmkonigclceaaW.PrintLast
set_option linter.unusedVariables false
set_option linter.unusedSimpArgs false
theorem impl_logAdd_ev (l : List S39) (ts : List ByteArray) (hl : LogSized l) (hn : l.length ≤ 1048576) (ht : ts.length ≤ 1048576) (hs : ∀ t ∈ ts, t.size ≤ 9223372036854775807) : Ev (fun k => impl_LogAdd.f k l ts) (logAdd l ts) := by
  have hcl : slices_Clone_LogEntry.f l = some l := by
    unfold slices_Clone_LogEntry.f
    rw [if_pos (by omega)]
  unfold impl_LogAdd.f logAdd
  rw [Ev_bd (impl_log_ev l hl), Ev_ite]
  by_cases h : logValid l = true
  · rw [if_pos h, if_pos h]
    have hlen := logValid_len h
    rw [w64 (by omega) (by omega), Ev_ite]
    by_cases hbig : (ts.length : Int) > 40 - (l.length : Int)
    · rw [if_pos hbig, Ev_b0 hcl, if_neg]
      · exact Ev_some.mpr rfl
      · intro g
        have := logValid_len g
        simp [addTail] at this
        omega
    rw [if_neg hbig, Ev_b0 hcl, Ev_pos (by omega)]
    have hz := addTail_sized hl hn ht hs
    have key : ∀ d i, i + d = ts.length → Ev (fun k => impl_LogAdd.l0 k l (l ++ [⟨0, ⟨#[]⟩⟩] ++ ((ts.take i).map fun t => ⟨1, t⟩)) ts (ts.length : Int) (i : Int)) (if logValid (l ++ addTail ts) = true then (l ++ addTail ts, true) else (l, false)) := by
      intro d
      induction d with
      | zero =>
        intro i hi
        obtain rfl : i = ts.length := by omega
        refine Ev_succ.mpr ?_
        simp only [impl_LogAdd.l0]
        rw [Ev_neg (by omega), List.take_length, Ev_pos (by simp; omega)]
        have e : l ++ [⟨0, ⟨#[]⟩⟩] ++ (ts.map fun t => (⟨1, t⟩ : S39)) ++ [⟨2, ⟨#[]⟩⟩] = l ++ addTail ts := by simp [addTail]
        simp only [Option.bind_some]
        rw [e, Ev_bd (impl_log_ev _ hz), Ev_ite]
        by_cases h2 : logValid (l ++ addTail ts) = true
        · rw [if_pos h2, if_pos h2]
          exact Ev_some.mpr rfl
        · rw [if_neg h2, if_neg h2, Ev_b0 hcl]
          exact Ev_some.mpr rfl
      | succ d ih =>
        intro i hi
        refine Ev_succ.mpr ?_
        simp only [impl_LogAdd.l0, w64s i (by omega), rdT_nat]
        rw [Ev_pos (by omega), Ev_pos (by omega), Ev_pos (by omega), Ev_pos (by simp; omega)]
        have := ih (i + 1) (by omega)
        have e2 : ((ts.take (i + 1)).map fun t => (⟨1, t⟩ : S39)) = ((ts.take i).map fun t => (⟨1, t⟩ : S39)) ++ [⟨1, ts.getD i ByteArray.empty⟩] := by
          rw [List.take_succ_eq_append_getElem (show i < ts.length by omega), List.map_append]
          simp [List.getD_eq_getElem?_getD, List.getElem?_eq_getElem (show i < ts.length by omega)]
        rw [e2, ← List.append_assoc] at this
        exact this
    have := key ts.length 0 (by omega)
    simpa using this
  · rw [if_neg h, if_neg h]
    exact Ev_some.mpr rfl
theorem logAdd_len (l : List S39) (ts : List ByteArray) : (logAdd l ts).1.length ≤ 40 := logValid_len (logAdd_valid l ts)
end Go.Proofs.Ytcbmkonigclceaa.Mod
