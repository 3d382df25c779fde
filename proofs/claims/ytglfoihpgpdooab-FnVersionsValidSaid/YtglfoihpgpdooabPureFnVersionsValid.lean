/- The pure statement of FnVersionsValid: proved. -/
import Derived.Test.YtglfoihpgpdooabStmtFnVersionsValid
import Derived.Test.YtglfoihpgpdooabDrawV
namespace Go.Proofs.Ytglfoihpgpdooab.Pure
open Go.RowKit Go.Proofs.Ytglfoihpgpdooab.P Go.Proofs.Ytglfoihpgpdooab.EvK Go.Proofs.Ytglfoihpgpdooab.Mod Go.Proofs.YtglfoihpgpdooabW.PrintWords
theorem drawVers_p (l : List Int) (hl : ∀ x ∈ l, 0 ≤ x ∧ x ≤ 255) : EvP (fun k => spec_DrawVersionsValid.f k l) DrawnV := by
  obtain ⟨bs, ho, h0⟩ := open_ev l hl
  unfold spec_DrawVersionsValid.f
  simp only [ho, Option.bind_some]
  refine EvP_bp (versions_p h0 (by omega) 2 (by omega)) ?_
  rintro ⟨x, q⟩ ⟨h, -, -⟩
  exact EvP_some.mpr h
theorem take_valid {l : List S27} (h : versionsValid l = true) (m : Nat) : versionsValid (l.take m) = true := by
  have hlen := versionsValid_len h
  unfold versionsValid
  rw [Bool.and_eq_true, allN_iff]
  refine ⟨fun i hi => ?_, decide_eq_true (by rw [List.length_take]; omega)⟩
  rw [List.length_take] at hi
  have := versionsValid_at h (i := i) (by omega)
  rw [List.getD_eq_getElem?_getD, List.getElem?_take, if_pos (by omega), ← List.getD_eq_getElem?_getD]
  exact this
theorem self_invalid (l : List S27) (r : Int) (s : ByteArray) : versionsValid (l ++ [⟨r, l.length, s⟩]) = false := by
  rw [Bool.eq_false_iff]
  intro h
  have := versionsValid_at h (i := l.length) (by simp)
  rw [List.getD_eq_getElem?_getD, List.getElem?_append_right (Nat.le_refl _), Nat.sub_self] at this
  unfold versOk at this
  simp only [List.getElem?_cons_zero, Option.getD_some, Bool.and_eq_true] at this
  have := inB_iff.1 this.1.2
  omega
theorem FnVersionsValid : laws_FnVersionsValid.Stmt := by
  intro l hl hq
  refine Ev.rounds (g := fun k => laws_FnVersionsValid.f k l) ?_
  obtain ⟨x, hd, hx⟩ := drawVers_p l (fun z h => wf_u8 (hq z h))
  have hs := hx.sized
  have hlen := hx.len
  unfold laws_FnVersionsValid.f
  rw [Ev_ite]
  split
  · exact Ev_some.mpr rfl
  rw [Ev_bd hd, Ev_bd (impl_vers_ev x hs), Ev_bd (spec_vers_ev x hs), Ev_neg (by simp)]
  simp only [Option.bind_some, List.nil_append, List.length_nil]
  rw [Ev_pos (by omega), Ev_pos (by omega), Ev_bd (impl_vers_ev _ (sized_snoc hs (by omega) _ (by dsimp only; decide))), self_invalid, Ev_neg (by simp), Ev_ite]
  by_cases hv : versionsValid x = true
  · rw [if_pos hv]
    have hw : wrap64 ((x.length : Int) / 2) = (x.length : Int) / 2 := w64 (by omega) (by omega)
    rw [hw, Ev_pos (by omega), Ev_pos (by omega)]
    rw [Ev_bd (impl_vers_ev _ (versionsValid_sized (take_valid hv _))), take_valid hv, Ev_pos rfl, Ev_bd alive_ev]
    exact Ev_some.mpr rfl
  · rw [if_neg hv, Ev_bd alive_ev]
    exact Ev_some.mpr rfl
end Go.Proofs.Ytglfoihpgpdooab.Pure
