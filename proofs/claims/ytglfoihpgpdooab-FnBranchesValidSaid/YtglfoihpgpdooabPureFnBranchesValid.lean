/- The pure statement of FnBranchesValid: proved. -/
import Derived.Test.YtglfoihpgpdooabStmtFnBranchesValid
import Derived.Test.YtglfoihpgpdooabBranMore
namespace Go.Proofs.Ytglfoihpgpdooab.Pure
open Go.RowKit Go.Proofs.Ytglfoihpgpdooab.P Go.Proofs.Ytglfoihpgpdooab.EvK Go.Proofs.Ytglfoihpgpdooab.Mod Go.Proofs.YtglfoihpgpdooabW.PrintWords
theorem draw_p (l : List Int) (hl : ∀ x ∈ l, 0 ≤ x ∧ x ≤ 255) : EvP (fun k => spec_DrawBranchesValid.f k l) (fun r => DrawnB r.1) := by
  unfold spec_DrawBranchesValid.f
  obtain ⟨b, hb, hok⟩ := open_ev l hl
  rw [EvP_b0 hb]
  refine EvP_bp (many_p hok (by omega)) ?_
  rintro ⟨m, q⟩ ⟨h1, h2, rfl⟩
  dsimp only at h1 h2 ⊢
  refine EvP_bp (branches_p (hok.to (by omega) (by omega)) (by omega) m (by omega) 2 (by omega)) ?_
  rintro ⟨c, q⟩ ⟨hd, -, -⟩
  exact EvP_some.mpr hd
theorem FnBranchesValid : laws_FnBranchesValid.Stmt := by
  intro l hl hq
  have hb : ∀ x ∈ l, 0 ≤ x ∧ x ≤ 255 := fun x hx => wf_u8 (hq x hx)
  refine EvP_rounds (g := fun k => laws_FnBranchesValid.f k l) ?_
  unfold laws_FnBranchesValid.f
  rw [EvP_ite]
  by_cases h0 : (l.length : Int) > 1048576
  · rw [if_pos h0]; exact EvP_some.mpr rfl
  rw [if_neg h0]
  refine EvP_bp (draw_p l hb) ?_
  rintro ⟨c, many⟩ hd
  dsimp only at hd ⊢
  have hz := hd.sized
  have hlen := hd.len
  rw [EvP_bd (impl_bran_ev c many hz), EvP_bd (spec_bran_ev c many hz), EvP_neg (by simp), EvP_ite]
  have hj : EvP (fun k => laws_FnBranchesValid.j0 k c many true) (· = true) := by
    refine EvP_succ.mpr ?_
    simp only [laws_FnBranchesValid.j0]
    rw [EvP_pos trivial, EvP_bd alive_ev]
    exact EvP_some.mpr rfl
  by_cases hv : branchesValid c many = true
  case neg => rw [if_neg hv]; exact hj
  rw [if_pos hv]
  cases c with
  | nil => exact hj
  | cons v c =>
    have e0 : (((v :: c).length : Int) == 0) = false := by
      rw [beq_eq_false_iff_ne]
      simp only [List.length_cons]
      omega
    have e1 : (v :: c).drop 1 = c := rfl
    have e2 : (⟨(rd_T35 (v :: c) 0).f0, (rd_T35 (v :: c) 0).f1⟩ : S35) = v := rfl
    have hsub : branchesValid c many = true := branchesValid_sub hv (List.sublist_cons_self v c)
    have hzc : BranSized c := ⟨by simp only [List.length_cons] at hlen; omega, fun w hw => hz.2 w (List.mem_cons_of_mem _ hw)⟩
    have hz2 : BranSized ([v] ++ v :: c) := ⟨by simp only [List.length_append, List.length_cons, List.length_nil] at hlen ⊢; omega, fun w hw => by
      rcases List.mem_append.1 hw with hw | hw
      · rw [List.mem_singleton.1 hw]; exact hz.2 v List.mem_cons_self
      · exact hz.2 w hw⟩
    have hno : branchesValid ([v] ++ v :: c) many = false := by
      by_cases g : branchesValid ([v] ++ v :: c) many = true
      · have hp := (branchesValid_iff.1 g).2.2.2
        rw [List.singleton_append, List.pairwise_cons] at hp
        have := hp.1 v List.mem_cons_self
        rw [lessS_irrefl] at this
        cases this
      · simpa using g
    have hzero : branchesValid (v :: c) 0 = false := by
      by_cases g : branchesValid (v :: c) 0 = true
      · have hp := ((branchesValid_iff.1 g).2.2.1 v List.mem_cons_self).2
        have := inB_iff.1 hp
        omega
      · simpa using g
    rw [e0]
    refine EvP_succ.mpr ?_
    simp only [laws_FnBranchesValid.j0]
    rw [EvP_neg (by simp), EvP_pos (by simp only [List.length_cons]; omega), e1, EvP_bd (impl_bran_ev c many hzc), EvP_pos hsub, EvP_pos (by simp only [List.length_cons]; omega), e2, EvP_b0 rfl, EvP_pos (by simp only [List.length_cons, List.length_nil] at hlen ⊢; omega), EvP_bd (impl_bran_ev _ many hz2), EvP_neg (by rw [hno]; simp), EvP_bd (impl_bran_ev _ 0 hz), hzero]
    exact EvP_some.mpr rfl
end Go.Proofs.Ytglfoihpgpdooab.Pure
