/- The pure statement of FnBranchAt: proved. -/
import Derived.Test.YtbjfbmoeboagaaaStmtFnBranchAt
import Derived.Test.YtbjfbmoeboagaaaSetB
namespace Go.Proofs.Ytbjfbmoeboagaaa.Pure
open Go.RowKit Go.Proofs.Ytbjfbmoeboagaaa.P Go.Proofs.Ytbjfbmoeboagaaa.EvK Go.Proofs.Ytbjfbmoeboagaaa.Mod Go.Proofs.YtbjfbmoeboagaaaW.PrintWords
theorem drawBranchAt_p (l : List Int) (hl : ∀ x ∈ l, 0 ≤ x ∧ x ≤ 255) : EvP (fun k => spec_DrawBranchAt.f k l) (fun r => DrawnB r.1 ∧ r.2.2.size ≤ 9) := by
  obtain ⟨bs, ho, h0⟩ := open_ev l hl
  unfold spec_DrawBranchAt.f
  simp only [ho, Option.bind_some]
  refine EvP_bp (many_p h0 (by omega)) ?_
  rintro ⟨m, q⟩ ⟨m1, m2, hq⟩
  dsimp only at m1 m2 hq ⊢
  refine EvP_bp (branches_p (h0.to (q := q) (by omega) (by omega)) (by omega) m m2 9 (by omega)) ?_
  rintro ⟨x, q1⟩ ⟨h, h1, h2⟩
  dsimp only at h h1 h2 ⊢
  refine EvP_bp (word_p (h0.to (q := q1) (by omega) (by omega)) (by omega) 9 (by omega)) ?_
  rintro ⟨s, q2⟩ ⟨hs, -, -⟩
  exact EvP_some.mpr ⟨h, hs⟩
theorem FnBranchAt : laws_FnBranchAt.Stmt := by
  intro l hl hq
  refine Ev.rounds (g := fun k => laws_FnBranchAt.f k l) ?_
  obtain ⟨⟨x, m, t⟩, hd, hx, hss⟩ := drawBranchAt_p l (fun z h => wf_u8 (hq z h))
  dsimp only at hx hss
  have hs := hx.sized
  have hlen := hx.len
  unfold laws_FnBranchAt.f
  rw [Ev_ite]
  split
  · exact Ev_some.mpr rfl
  rw [Ev_bd hd]
  dsimp only
  rw [Ev_bd (impl_branchAt_ev x m t hs), Ev_bd (spec_branchAt_ev x m t hs), Ev_pos rfl]
  have hend : ∀ i : Nat, Ev (fun k => laws_FnBranchAt.j1 k x m t (-1) (i : Int) false) true := by
    intro i
    refine Ev_succ.mpr ?_
    simp only [laws_FnBranchAt.j1]
    rw [Ev_neg (by simp), Ev_pos (by trivial), Ev_bd alive_ev]
    exact Ev_some.mpr rfl
  unfold branchAt
  by_cases h : branchesValid x m = true
  · rw [if_pos h]
    have key : ∀ d i, i + d = x.length → Ev (fun k => laws_FnBranchAt.l0 k x m t (atF (x.drop i) t) (i : Int)) true := by
      intro d
      induction d with
      | zero =>
        intro i hi
        refine Ev_succ.mpr ?_
        simp only [laws_FnBranchAt.l0]
        rw [Ev_neg (by omega), List.drop_eq_nil_of_le (by omega)]
        exact hend i
      | succ d ih =>
        intro i hi
        refine Ev_succ.mpr ?_
        simp only [laws_FnBranchAt.l0]
        rw [Ev_pos (by omega), Ev_bd (impl_bran_ev x m hs), h]
        refine Ev_succ.mpr ?_
        simp only [laws_FnBranchAt.j1, if_true, rdBranch, w64s i (by omega)]
        rw [Ev_pos (by omega), Ev_pos (by omega), drop_cons x z64 i (by omega), atF, Ev_ite]
        by_cases he : (x.getD i z64).f0 = t
        · rw [if_pos (by rw [he]), if_pos he]
          exact Ev_some.mpr (by simp)
        · rw [if_neg (fun g => he (toList_iff.1 g)), if_neg he]
          exact ih (i + 1) (by omega)
    exact key x.length 0 (by omega)
  · rw [if_neg h]
    refine Ev_succ.mpr ?_
    simp only [laws_FnBranchAt.l0]
    rw [Ev_ite]
    split
    · rw [Ev_bd (impl_bran_ev x m hs), (by simpa using h : branchesValid x m = false)]
      exact hend 0
    · exact hend 0
end Go.Proofs.Ytbjfbmoeboagaaa.Pure
