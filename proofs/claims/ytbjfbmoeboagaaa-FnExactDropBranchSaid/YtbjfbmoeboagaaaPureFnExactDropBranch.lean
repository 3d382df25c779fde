/- The pure statement of FnExactDropBranch: proved. -/
import Derived.Test.YtbjfbmoeboagaaaStmtFnExactDropBranch
import Derived.Test.YtbjfbmoeboagaaaBranAllM
namespace Go.Proofs.Ytbjfbmoeboagaaa.Pure
open Go.RowKit Go.Proofs.Ytbjfbmoeboagaaa.P Go.Proofs.Ytbjfbmoeboagaaa.EvK Go.Proofs.Ytbjfbmoeboagaaa.Mod Go.Proofs.YtbjfbmoeboagaaaW.PrintWords
theorem FnExactDropBranch : laws_FnExactDropBranch.Stmt := by
  intro l m s hl hq hm hss
  have hz : ∀ z ∈ l, z.f0.size ≤ 9223372036854775807 := fun z h => (hq z h).1
  obtain ⟨t, ht, hle, hok⟩ := szBranch_ev l hl hz 1048576 (by omega) (by omega)
  refine Ev.rounds (g := fun k => laws_FnExactDropBranch.f k l m s) ?_
  unfold laws_FnExactDropBranch.f
  rw [Ev_ite]
  split
  · exact Ev_some.mpr rfl
  rw [Ev_bd ht, Ev_ite]
  by_cases h0 : t < 0
  · rw [if_pos h0]
    exact Ev_some.mpr rfl
  rw [if_neg h0]
  have hs := conv_sized_branch l hl hz
  have hlen := (hok (by omega)).1
  have hc := toBranchS_ev l (by omega)
  have hL : (l.map convBranch).length = l.length := List.length_map _
  have hrl := dropB_len (l.map convBranch) m s
  have es := spec_dropB_ev _ m s hs (by omega)
  have ei := impl_dropB_ev _ m s hs (by omega)
  generalize l.map convBranch = x at *
  generalize dropB x m s = y at *
  obtain ⟨y, c⟩ := y
  dsimp only at hrl
  have m1 := markSBranch_ev x 1 (by omega) (by omega)
  have m2 := markSBranch_ev y 1 (by omega) (by omega)
  have e2 := heldSBranch_ev y.length 1 (by omega) (by omega)
  have hcc : (c != c) = false := by simp
  have hj2 : Ev (fun k => laws_FnExactDropBranch.j2 k (markBranch y.length 1) (1 + ((2 * y.length : Nat) : Int)) false) true := by
    refine Ev_succ.mpr ?_
    simp only [laws_FnExactDropBranch.j2]
    rw [Ev_neg (by simp), Ev_bd e2, Ev_neg (by omega), Ev_pos rfl]
    exact Ev_some.mpr rfl
  have hj1 : Ev (fun k => laws_FnExactDropBranch.j1 k l m s y c y false) true := by
    refine Ev_succ.mpr ?_
    simp only [laws_FnExactDropBranch.j1]
    rw [Ev_neg (by simp), Ev_bd m2, Ev_bd e2, Ev_neg (by omega), Ev_pos rfl, Ev_bd hc, Ev_bd ei, Ev_bd (eqBranchS_ev _ _ (by dsimp only; omega)), Ev_pos (eqb_self _)]
    dsimp only
    rw [hcc]
    exact hj2
  have hj0 : Ev (fun k => laws_FnExactDropBranch.j0 k l m s y c x y c false) true := by
    refine Ev_succ.mpr ?_
    simp only [laws_FnExactDropBranch.j0]
    rw [Ev_neg (by simp), Ev_bd hc, Ev_bd (eqBranchS_ev _ _ (by omega)), Ev_pos (eqb_self _), Ev_bd m1, Ev_neg (by dsimp only; omega), Ev_bd (eqBranchS_ev _ _ (by omega)), Ev_pos (eqb_self _), hcc]
    exact hj1
  rw [Ev_bd hc, Ev_bd es, Ev_bd hc, Ev_bd ei, Ev_bd (eqBranchS_ev _ _ (by dsimp only; omega)), Ev_pos (eqb_self _)]
  dsimp only
  rw [hcc]
  exact hj0
end Go.Proofs.Ytbjfbmoeboagaaa.Pure
