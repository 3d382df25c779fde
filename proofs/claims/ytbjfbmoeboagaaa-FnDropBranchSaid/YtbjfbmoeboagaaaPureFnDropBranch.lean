/- The pure statement of FnDropBranch: proved. -/
import Derived.Test.YtbjfbmoeboagaaaStmtFnDropBranch
import Derived.Test.YtbjfbmoeboagaaaBranMore
namespace Go.Proofs.Ytbjfbmoeboagaaa.Pure
open Go.RowKit Go.Proofs.Ytbjfbmoeboagaaa.P Go.Proofs.Ytbjfbmoeboagaaa.EvK Go.Proofs.Ytbjfbmoeboagaaa.Mod Go.Proofs.YtbjfbmoeboagaaaW.PrintWords
theorem drawDropBranch_p (l : List Int) (hl : ∀ x ∈ l, 0 ≤ x ∧ x ≤ 255) : EvP (fun k => spec_DrawDropBranch.f k l) (fun r => DrawnB r.1 ∧ r.2.2.size ≤ 9) := by
  obtain ⟨bs, ho, h0⟩ := open_ev l hl
  unfold spec_DrawDropBranch.f spec_DrawBranchAt.f
  simp only [ho, Option.bind_some]
  refine EvP_bp (Q := fun r => DrawnB r.1 ∧ r.2.2.size ≤ 9) ?_ (fun r h => EvP_some.mpr h)
  refine EvP_bp (many_p h0 (by omega)) ?_
  rintro ⟨m, q⟩ ⟨m1, m2, hq⟩
  dsimp only at m1 m2 hq ⊢
  refine EvP_bp (branches_p (h0.to (q := q) (by omega) (by omega)) (by omega) m m2 9 (by omega)) ?_
  rintro ⟨x, q1⟩ ⟨h, h1, h2⟩
  dsimp only at h h1 h2 ⊢
  refine EvP_bp (word_p (h0.to (q := q1) (by omega) (by omega)) (by omega) 9 (by omega)) ?_
  rintro ⟨s, q2⟩ ⟨hs, -, -⟩
  exact EvP_some.mpr ⟨h, hs⟩
theorem FnDropBranch : laws_FnDropBranch.Stmt := by
  intro l hl hq
  refine Ev.rounds (g := fun k => laws_FnDropBranch.f k l) ?_
  obtain ⟨⟨x, m, t⟩, hd, hx, hss⟩ := drawDropBranch_p l (fun z h => wf_u8 (hq z h))
  dsimp only at hx hss
  have hs := hx.sized
  have hlen := hx.len
  have hrl := dropB_len x m t
  unfold laws_FnDropBranch.f
  rw [Ev_ite]
  split
  · exact Ev_some.mpr rfl
  rw [Ev_bd hd]
  dsimp only
  rw [Ev_bd (impl_dropB_ev x m t hs (by omega)), Ev_bd (spec_dropB_ev x m t hs (by omega)), Ev_bd (sameBranches_ev _ _ (by omega)), Ev_pos (eqb_self _)]
  rw [show ((dropB x m t).2 != (dropB x m t).2) = false by simp]
  refine Ev_succ.mpr ?_
  simp only [laws_FnDropBranch.j0]
  rw [Ev_neg (by simp), Ev_ite]
  have halive : Ev (fun k => (laws_alive.f k).bind fun t => some t) true := (Ev_bd alive_ev).mpr (Ev_some.mpr rfl)
  unfold dropB
  by_cases h : branchesValid x m = true
  · rw [if_pos h]
    by_cases hlt : (dropF x t).length < x.length
    · rw [if_pos (by simpa using hlt)]
      dsimp only
      have hv := branchesValid_sub h (dropF_sub x t)
      have hone : (dropF x t).length = x.length - 1 := by
        by_cases hex : ∃ r, r < x.length ∧ (x.getD r z64).f0 = t
        · obtain ⟨r, hr, he⟩ := hex
          rw [dropF_at hr he (branches_once h hr he), List.length_append, List.length_take, List.length_drop]
          omega
        · rw [dropF_all] at hlt
          · omega
          · intro v hv e
            obtain ⟨i, hi, rfl⟩ := List.getElem_of_mem hv
            exact hex ⟨i, hi, by rw [getD_at x _ i hi]; exact e⟩
      rw [Ev_bd (impl_bran_ev _ m (branchesValid_sized hv)), Ev_pos hv, Ev_bd (impl_branchAt_ev _ m t (branchesValid_sized hv))]
      unfold branchAt
      rw [if_pos hv, atF_none dropF_not, Ev_pos rfl, w64 (by omega) (by omega)]
      exact Ev_some.mpr (by simp; omega)
    · rw [if_neg (by simpa using hlt)]
      have e : dropF x t = x := (dropF_sub x t).eq_of_length (by have := (dropF_sub x t).length_le; omega)
      dsimp only
      rw [e, Ev_bd (sameBranches_ev x x (by omega)), Ev_pos (eqb_self _)]
      exact halive
  · rw [if_neg h, if_neg (by simp)]
    dsimp only
    rw [Ev_bd (sameBranches_ev [] x (by simp)), Ev_ite]
    split
    · exact halive
    · rw [Ev_pos (by simp)]
      exact halive
end Go.Proofs.Ytbjfbmoeboagaaa.Pure
