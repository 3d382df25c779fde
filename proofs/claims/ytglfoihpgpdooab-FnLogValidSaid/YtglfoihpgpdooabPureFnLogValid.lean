/- The pure statement of FnLogValid: proved. -/
import Derived.Test.YtglfoihpgpdooabStmtFnLogValid
import Derived.Test.YtglfoihpgpdooabDrawL
namespace Go.Proofs.Ytglfoihpgpdooab.Pure
open Go.RowKit Go.Proofs.Ytglfoihpgpdooab.P Go.Proofs.Ytglfoihpgpdooab.EvK Go.Proofs.Ytglfoihpgpdooab.Mod Go.Proofs.YtglfoihpgpdooabW.PrintWords
theorem drawLog_p (l : List Int) (hl : ∀ x ∈ l, 0 ≤ x ∧ x ≤ 255) : EvP (fun k => spec_DrawLogValid.f k l) DrawnL := by
  obtain ⟨bs, ho, h0⟩ := open_ev l hl
  unfold spec_DrawLogValid.f
  simp only [ho, Option.bind_some]
  refine EvP_bp (log_p h0 (by omega) 2 (by omega)) ?_
  rintro ⟨x, q⟩ ⟨h, -, -⟩
  exact EvP_some.mpr h
theorem FnLogValid : laws_FnLogValid.Stmt := by
  intro l hl hq
  refine Ev.rounds (g := fun k => laws_FnLogValid.f k l) ?_
  obtain ⟨x, hd, hx⟩ := drawLog_p l (fun z h => wf_u8 (hq z h))
  have hs := hx.sized
  have hlen := hx.len
  unfold laws_FnLogValid.f
  rw [Ev_ite]
  split
  · exact Ev_some.mpr rfl
  have hs3 : LogSized ([⟨3, ⟨#[]⟩⟩] ++ x) := by
    refine ⟨by simp; omega, fun v hv => ?_⟩
    rcases List.mem_append.1 hv with hv | hv
    · rw [List.mem_singleton.1 hv]; dsimp only; decide
    · exact hs.2 v hv
  have h3 : logValid ([⟨3, ⟨#[]⟩⟩] ++ x) = false := by
    rw [Bool.eq_false_iff]
    intro h
    have := (logValid_mem.1 h).1 ⟨3, ⟨#[]⟩⟩ (by simp)
    unfold logOk at this
    simp [inB] at this
  rw [Ev_bd hd, Ev_bd (impl_log_ev x hs), Ev_bd (spec_log_ev x hs), Ev_neg (by simp)]
  simp only [Option.bind_some]
  rw [Ev_pos (by simp; omega), Ev_bd (impl_log_ev _ hs3), h3, Ev_neg (by simp), Ev_ite]
  by_cases hv : logValid x = true
  · rw [if_pos hv]
    have hw : wrap64 ((x.length : Int) / 2) = (x.length : Int) / 2 := w64 (by omega) (by omega)
    have hd2 : logValid (x.drop ((x.length : Int) / 2).toNat) = true := by
      obtain ⟨h1, h2⟩ := logValid_mem.1 hv
      exact logValid_mem.2 ⟨fun v hv => h1 v (List.mem_of_mem_drop hv), by rw [List.length_drop]; omega⟩
    rw [hw, Ev_pos (by omega), Ev_pos (by omega), Ev_bd (impl_log_ev _ (logValid_sized hd2)), hd2, Ev_pos rfl, Ev_bd alive_ev]
    exact Ev_some.mpr rfl
  · rw [if_neg hv, Ev_bd alive_ev]
    exact Ev_some.mpr rfl
end Go.Proofs.Ytglfoihpgpdooab.Pure
