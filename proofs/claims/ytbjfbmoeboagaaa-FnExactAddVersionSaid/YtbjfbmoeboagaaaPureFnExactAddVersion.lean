/- The pure statement of FnExactAddVersion: proved. -/
import Derived.Test.YtbjfbmoeboagaaaStmtFnExactAddVersion
import Derived.Test.YtbjfbmoeboagaaaAddV
import Derived.Test.YtbjfbmoeboagaaaMVersion
namespace Go.Proofs.Ytbjfbmoeboagaaa.Pure
open Go.RowKit Go.Proofs.Ytbjfbmoeboagaaa.P Go.Proofs.Ytbjfbmoeboagaaa.EvK Go.Proofs.Ytbjfbmoeboagaaa.Mod Go.Proofs.YtbjfbmoeboagaaaW.PrintWords
theorem FnExactAddVersion : laws_FnExactAddVersion.Stmt := by
  intro l a b s hl hq ha hb hss
  have hz : ∀ z ∈ l, z.f2.size ≤ 9223372036854775807 := fun z h => (hq z h).2.2
  obtain ⟨t, ht, hle, hok⟩ := szVersion_ev l hl hz 1048576 (by omega) (by omega)
  refine Ev.rounds (g := fun k => laws_FnExactAddVersion.f k l a b s) ?_
  unfold laws_FnExactAddVersion.f
  rw [Ev_bd ht, Ev_ite]
  by_cases h0 : t < 0
  · rw [if_pos h0]
    exact Ev_some.mpr rfl
  rw [if_neg h0]
  unfold laws_szVersion.f laws_toVersion.f
  rw [w64 (x := t - _) (by omega) (by omega)]
  by_cases h1 : t - (s.size : Int) < 0
  · simp only [if_pos h1, Option.bind_some]
    rw [Ev_pos (by omega)]
    exact Ev_some.mpr rfl
  simp only [if_neg h1, Option.bind_some]
  have hs := conv_sized_version l hl hz
  have hlen := (hok (by omega)).1
  have hc := toVersionS_ev l (by omega)
  have hL : (l.map convVersion).length = l.length := List.length_map _
  have hrl := addV_len (l.map convVersion) ⟨a, b, s⟩
  have es := spec_addV_ev _ hs (by omega) a b s hss
  have ei := impl_addV_ev _ hs (by omega) a b s hss
  generalize l.map convVersion = x at *
  generalize addV x ⟨a, b, s⟩ = y at *
  obtain ⟨y, c⟩ := y
  dsimp only at hrl
  have m1 := markSVersion_ev x 1 (by omega) (by omega)
  have m2 := markSVersion_ev y 1 (by omega) (by omega)
  have e2 := heldSVersion_ev y.length 1 (by omega) (by omega)
  have hcc : (c != c) = false := by simp
  have hj2 : Ev (fun k => laws_FnExactAddVersion.j2 k (markVersion y.length 1) (1 + ((3 * y.length : Nat) : Int)) false) true := by
    refine Ev_succ.mpr ?_
    simp only [laws_FnExactAddVersion.j2]
    rw [Ev_neg (by simp), Ev_bd e2, Ev_neg (by omega), Ev_pos rfl]
    exact Ev_some.mpr rfl
  have hj1 : Ev (fun k => laws_FnExactAddVersion.j1 k l y c y false a b s) true := by
    refine Ev_succ.mpr ?_
    simp only [laws_FnExactAddVersion.j1, laws_toVersion.f, Option.bind_some]
    rw [Ev_neg (by simp), Ev_bd m2, Ev_bd e2, Ev_neg (by omega), Ev_pos rfl, Ev_bd hc, Ev_bd ei, Ev_bd (eqVersionS_ev _ _ (by dsimp only; omega)), Ev_pos (eqb_self _)]
    dsimp only
    rw [hcc]
    exact hj2
  have hj0 : Ev (fun k => laws_FnExactAddVersion.j0 k l y c x y c false a b s) true := by
    refine Ev_succ.mpr ?_
    simp only [laws_FnExactAddVersion.j0]
    rw [Ev_neg (by simp), Ev_bd hc, Ev_bd (eqVersionS_ev _ _ (by omega)), Ev_pos (eqb_self _), Ev_bd m1, Ev_neg (by dsimp only; omega), Ev_bd (eqVersionS_ev _ _ (by omega)), Ev_pos (eqb_self _), hcc]
    exact hj1
  rw [Ev_bd hc, Ev_bd es, Ev_bd hc, Ev_bd ei, Ev_bd (eqVersionS_ev _ _ (by dsimp only; omega)), Ev_pos (eqb_self _)]
  dsimp only
  rw [hcc]
  exact hj0
end Go.Proofs.Ytbjfbmoeboagaaa.Pure
