/- The pure statement of FnLogCut: proved. -/
import Derived.Test.YtcbmkonigclceaaStmtFnLogCut
import Derived.Test.YtcbmkonigclceaaDone
import Derived.Test.YtcbmkonigclceaaLogCut
import Derived.Test.YtcbmkonigclceaaSameLog
namespace Go.Proofs.Ytcbmkonigclceaa.Pure
open Go.RowKit Go.Proofs.Ytcbmkonigclceaa.P Go.Proofs.Ytcbmkonigclceaa.EvK Go.Proofs.Ytcbmkonigclceaa.Mod Go.Proofs.YtcbmkonigclceaaW.PrintWords
theorem drawLogCut_p (l : List Int) (hl : ∀ x ∈ l, 0 ≤ x ∧ x ≤ 255) : EvP (fun k => spec_DrawLogCut.f k l) (fun r => DrawnL r.1) := by
  obtain ⟨bs, ho, h0⟩ := open_ev l hl
  unfold spec_DrawLogCut.f
  simp only [ho, Option.bind_some]
  refine EvP_bp (log_p h0 (by omega) 9 (by omega)) ?_
  rintro ⟨x, q⟩ ⟨h, h1, h2⟩
  dsimp only at h h1 h2 ⊢
  have hlen := h.len
  rw [w64 (x := (x.length : Int) + 2) (by omega) (by omega)]
  refine EvP_bp (pick_p (h0.to (q := q) (by omega) (by omega)) _ (by omega)) ?_
  rintro ⟨v, q1⟩ ⟨rfl, -, -⟩
  refine EvP_bp (pick_p (h0.to (q := q + 1) (by omega) (by omega)) 14 (by omega)) ?_
  rintro ⟨v2, q2⟩ ⟨rfl, -, -⟩
  exact EvP_some.mpr h
theorem FnLogCut : laws_FnLogCut.Stmt := by
  intro l hl hq
  refine Ev.rounds (g := fun k => laws_FnLogCut.f k l) ?_
  obtain ⟨⟨x, m⟩, hd, hx⟩ := drawLogCut_p l (fun z h => wf_u8 (hq z h))
  dsimp only at hx
  have hs := hx.sized
  have hlen := hx.len
  have hL := logDone_len x
  have hcl := logCut_len x m
  unfold laws_FnLogCut.f
  rw [Ev_ite]
  split
  · exact Ev_some.mpr rfl
  rw [Ev_bd hd]
  dsimp only
  rw [Ev_bd (impl_logCut_ev x m hs), Ev_bd (spec_logCut_ev x m hs), Ev_bd (sameLog_ev _ _ (by omega)), Ev_pos (eqb_self _), Ev_ite]
  by_cases h0 : ((logCut x m).length : Int) = 0
  · rw [if_pos h0, Ev_bd alive_ev]
    exact Ev_some.mpr rfl
  rw [if_neg h0]
  have hc : logValid x = true ∧ 0 ≤ m ∧ m ≤ x.length := by
    unfold logCut at h0
    by_cases h : logValid x = true ∧ 0 ≤ m ∧ m ≤ x.length
    · exact h
    · rw [if_neg h] at h0
      simp at h0
  have e : logCut x m = x.take m.toNat := by unfold logCut; rw [if_pos hc]
  have hv : logValid (x.take m.toNat) = true := logValid_mem.2 ⟨fun v hv => (logValid_mem.1 hc.1).1 v (List.mem_of_mem_take hv), by have := logValid_len hc.1; rw [List.length_take]; omega⟩
  have hym : ((x.take m.toNat).length : Int) = m := by rw [List.length_take]; omega
  obtain ⟨t, ht⟩ : ∃ t, logDone x = logDone (x.take m.toNat) ++ t := by
    unfold logDone
    rw [if_pos hc.1, if_pos hv]
    have := doneL_append ([], [], false) (x.take m.toNat) (x.drop m.toNat)
    rw [List.take_append_drop] at this
    rw [this]
    exact doneL_pre _ _
  rw [e]
  have hsy := logValid_sized hv
  have hLy := logDone_len (x.take m.toNat)
  rw [Ev_bd (impl_done_ev _ hsy), Ev_bd (impl_done_ev x hs), Ev_pos hym, Ev_bd (impl_log_ev _ hsy), Ev_pos hv, ht, Ev_pos (by simp only [List.length_append]; omega), Ev_pos (by omega), Int.toNat_natCast]
  rw [show (logDone (x.take m.toNat) ++ t).take (logDone (x.take m.toNat)).length = logDone (x.take m.toNat) by simp, Ev_bd (sameTexts_ev _ _ (by omega)), eqb_self]
  exact Ev_some.mpr rfl
end Go.Proofs.Ytcbmkonigclceaa.Pure
