/- The pure statement of FnLogDone: proved. -/
import Derived.Test.YtcbmkonigclceaaStmtFnLogDone
import Derived.Test.YtcbmkonigclceaaDone
namespace Go.Proofs.Ytcbmkonigclceaa.Pure
open Go.RowKit Go.Proofs.Ytcbmkonigclceaa.P Go.Proofs.Ytcbmkonigclceaa.EvK Go.Proofs.Ytcbmkonigclceaa.Mod Go.Proofs.YtcbmkonigclceaaW.PrintWords
theorem drawLogDone_p (l : List Int) (hl : ∀ x ∈ l, 0 ≤ x ∧ x ≤ 255) : EvP (fun k => spec_DrawLogDone.f k l) (fun r => DrawnL r) := by
  obtain ⟨bs, ho, h0⟩ := open_ev l hl
  unfold spec_DrawLogDone.f
  simp only [ho, Option.bind_some]
  refine EvP_bp (log_p h0 (by omega) 9 (by omega)) ?_
  rintro ⟨x, q⟩ ⟨h, h1, h2⟩
  exact EvP_some.mpr h
theorem FnLogDone : laws_FnLogDone.Stmt := by
  intro l hl hq
  refine Ev.rounds (g := fun k => laws_FnLogDone.f k l) ?_
  obtain ⟨x, hd, hx⟩ := drawLogDone_p l (fun z h => wf_u8 (hq z h))
  have hs := hx.sized
  have hlen := hx.len
  have hL := logDone_len x
  unfold laws_FnLogDone.f
  rw [Ev_ite]
  split
  · exact Ev_some.mpr rfl
  rw [Ev_bd hd, Ev_bd (impl_done_ev x hs), Ev_bd (spec_done_ev x hs), Ev_bd (sameTexts_ev _ _ (by omega)), Ev_pos (eqb_self _), Ev_bd (impl_log_ev x hs), Ev_ite]
  by_cases h : logValid x = true
  · rw [if_pos h]
    have hl40 := logValid_len h
    have ho := ones_le x
    simp only [Option.bind_some, List.nil_append, List.length_nil]
    rw [Ev_pos (by omega), Ev_pos (by omega), Ev_pos (by omega), Ev_ite]
    by_cases h40 : (x.length : Int) = 40
    · rw [if_pos h40]
      exact Ev_some.mpr rfl
    rw [if_neg h40]
    have hv : logValid (x ++ [⟨0, ⟨#[]⟩⟩]) = true := by
      refine logValid_mem.2 ⟨fun v hv => ?_, by simp; omega⟩
      rcases List.mem_append.1 hv with hv | hv
      · exact (logValid_mem.1 h).1 v hv
      · rw [List.mem_singleton.1 hv]
        unfold logOk
        rw [eqb_self]
        rfl
    have e : logDone (x ++ [⟨0, ⟨#[]⟩⟩]) = logDone x := by
      unfold logDone
      rw [if_pos hv, if_pos h, doneL_append]
      rfl
    rw [Ev_bd (impl_done_ev _ (logValid_sized hv)), e, Ev_bd (sameTexts_ev _ _ (by omega)), eqb_self]
    exact Ev_some.mpr rfl
  · rw [if_neg h]
    have e : logDone x = [] := by unfold logDone; rw [if_neg h]
    rw [e, Ev_pos (by simp), Ev_bd alive_ev]
    exact Ev_some.mpr rfl
end Go.Proofs.Ytcbmkonigclceaa.Pure
