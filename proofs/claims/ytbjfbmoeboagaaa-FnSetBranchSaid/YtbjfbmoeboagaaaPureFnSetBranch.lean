/- The pure statement of FnSetBranch: proved. -/
import Derived.Test.YtbjfbmoeboagaaaStmtFnSetBranch
import Derived.Test.YtbjfbmoeboagaaaBranAll
namespace Go.Proofs.Ytbjfbmoeboagaaa.Pure
open Go.RowKit Go.Proofs.Ytbjfbmoeboagaaa.P Go.Proofs.Ytbjfbmoeboagaaa.EvK Go.Proofs.Ytbjfbmoeboagaaa.Mod Go.Proofs.YtbjfbmoeboagaaaW.PrintWords
theorem drawSetBranch_p (l : List Int) (hl : ∀ x ∈ l, 0 ≤ x ∧ x ≤ 255) : EvP (fun k => spec_DrawSetBranch.f k l) (fun r => DrawnB r.1 ∧ r.2.2.1.size ≤ 9) := by
  obtain ⟨bs, ho, h0⟩ := open_ev l hl
  unfold spec_DrawSetBranch.f
  simp only [ho, Option.bind_some]
  refine EvP_bp (many_p h0 (by omega)) ?_
  rintro ⟨m, q⟩ ⟨m1, m2, hq⟩
  dsimp only at m1 m2 hq ⊢
  refine EvP_bp (branches_p (h0.to (q := q) (by omega) (by omega)) (by omega) m m2 9 (by omega)) ?_
  rintro ⟨x, q1⟩ ⟨h, h1, h2⟩
  dsimp only at h h1 h2 ⊢
  refine EvP_bp (word_p (h0.to (q := q1) (by omega) (by omega)) (by omega) 9 (by omega)) ?_
  rintro ⟨s, q2⟩ ⟨hs, h3, h4⟩
  dsimp only at hs h3 h4 ⊢
  have hmx : mx 1 m ≤ 13 := by unfold mx; split <;> omega
  have hmx2 : 1 ≤ mx 1 m := by unfold mx; split <;> omega
  rw [w64 (x := mx 1 m + 1) (by omega) (by omega)]
  refine EvP_bp (pick_p (h0.to (q := q2) (by omega) (by omega)) _ (by omega)) ?_
  rintro ⟨v, q3⟩ ⟨rfl, -, -⟩
  refine EvP_bp (pick_p (h0.to (q := q2 + 1) (by omega) (by omega)) 14 (by omega)) ?_
  rintro ⟨u, q4⟩ ⟨rfl, -, -⟩
  exact EvP_some.mpr ⟨h, hs⟩
theorem FnSetBranch : laws_FnSetBranch.Stmt := by
  intro l hl hq
  refine Ev.rounds (g := fun k => laws_FnSetBranch.f k l) ?_
  obtain ⟨⟨x, m, t, n⟩, hd, hx, hss⟩ := drawSetBranch_p l (fun z h => wf_u8 (hq z h))
  dsimp only at hx hss
  have hs := hx.sized
  have hlen := hx.len
  have hrl := setB_len x m ⟨t, n⟩
  unfold laws_FnSetBranch.f
  rw [Ev_ite]
  split
  · exact Ev_some.mpr rfl
  rw [Ev_bd hd]
  dsimp only
  rw [Ev_bd (impl_setB_ev x m t n hs (by omega) (by omega)), Ev_bd (spec_setB_ev x m t n hs (by omega) (by omega)), Ev_bd (sameBranches_ev _ _ (by omega)), Ev_pos (eqb_self _)]
  rw [show ((setB x m ⟨t, n⟩).2 != (setB x m ⟨t, n⟩).2) = false by simp]
  refine Ev_succ.mpr ?_
  simp only [laws_FnSetBranch.j0]
  rw [Ev_neg (by simp), Ev_ite]
  have halive : Ev (fun k => (laws_alive.f k).bind fun t => some t) true := (Ev_bd alive_ev).mpr (Ev_some.mpr rfl)
  unfold setB
  by_cases h : branchesValid x m = true
  · rw [if_pos h]
    by_cases h2 : branchesValid (putB x ⟨t, n⟩) m = true
    · rw [if_pos h2, if_pos rfl]
      dsimp only
      have hy := branchesValid_sized h2
      have hyl := branchesValid_len h2
      have hdl := dropB_len (putB x ⟨t, n⟩) m t
      rw [Ev_bd (impl_dropB_ev _ m t hy (by omega)), Ev_bd (impl_dropB_ev x m t hs (by omega)), Ev_bd (impl_bran_ev _ m hy), Ev_pos h2, Ev_bd (impl_branchAt_ev _ m t hy)]
      have eat : branchAt (putB x ⟨t, n⟩) m t = n := by
        unfold branchAt
        rw [if_pos h2]
        exact putB_at x ⟨t, n⟩
      have hlt : (dropF (putB x ⟨t, n⟩) t).length < (putB x ⟨t, n⟩).length := by
        rcases Nat.lt_or_ge (dropF (putB x ⟨t, n⟩) t).length (putB x ⟨t, n⟩).length with q | q
        · exact q
        · exfalso
          have e : dropF (putB x ⟨t, n⟩) t = putB x ⟨t, n⟩ := (dropF_sub _ t).eq_of_length (by have := (dropF_sub (putB x ⟨t, n⟩) t).length_le; omega)
          have hm : (⟨t, n⟩ : S64) ∈ putB x ⟨t, n⟩ := by
            unfold putB
            exact List.mem_append_left _ (List.mem_append_right _ List.mem_cons_self)
          rw [← e] at hm
          exact dropF_not _ hm rfl
      have ed : dropF (putB x ⟨t, n⟩) t = dropF x t := putB_drop x ⟨t, n⟩
      unfold dropB at hdl ⊢
      rw [if_pos h2] at hdl ⊢
      rw [if_pos h, Ev_pos eat, Ev_pos (by simpa using hlt)]
      dsimp only at hdl ⊢
      rw [ed] at hdl ⊢
      rw [Ev_bd (sameBranches_ev _ _ (by omega)), eqb_self]
      exact Ev_some.mpr rfl
    · rw [if_neg h2, if_neg (by simp)]
      dsimp only
      rw [Ev_bd (sameBranches_ev x x (by omega)), Ev_pos (eqb_self _)]
      exact halive
  · rw [if_neg h, if_neg (by simp)]
    dsimp only
    rw [Ev_bd (sameBranches_ev [] x (by simp)), Ev_ite]
    split
    · exact halive
    · rw [Ev_pos (by simp)]
      exact halive
end Go.Proofs.Ytbjfbmoeboagaaa.Pure
