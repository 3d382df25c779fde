/- The pure statement of FnExactTipsOf: proved. -/
import Derived.Test.YtbjfbmoeboagaaaStmtFnExactTipsOf
import Derived.Test.YtbjfbmoeboagaaaTips
import Derived.Test.YtbjfbmoeboagaaaPick
import Derived.Test.YtbjfbmoeboagaaaMInt
import Derived.Test.YtbjfbmoeboagaaaMVersion
namespace Go.Proofs.Ytbjfbmoeboagaaa.Pure
open Go.RowKit Go.Proofs.Ytbjfbmoeboagaaa.P Go.Proofs.Ytbjfbmoeboagaaa.EvK Go.Proofs.Ytbjfbmoeboagaaa.Mod Go.Proofs.YtbjfbmoeboagaaaW.PrintWords
theorem FnExactTipsOf : laws_FnExactTipsOf.Stmt := by
  intro l hl hq
  have hz : ∀ z ∈ l, z.f2.size ≤ 9223372036854775807 := fun z h => (hq z h).2.2
  obtain ⟨t, ht, hle, hok⟩ := szVersion_ev l hl hz 1048576 (by omega) (by omega)
  refine Ev.rounds (g := fun k => laws_FnExactTipsOf.f k l) ?_
  unfold laws_FnExactTipsOf.f
  rw [Ev_bd ht, Ev_ite]
  by_cases h0 : t < 0
  · rw [if_pos h0]
    exact Ev_some.mpr rfl
  rw [if_neg h0]
  have hs := conv_sized_version l hl hz
  have hlen := (hok (by omega)).1
  have hc := toVersionS_ev l (by omega)
  have hrl := tipsOf_len (l.map convVersion)
  have es := spec_tips_ev _ hs
  have ei := impl_tips_ev _ hs
  have hL : (l.map convVersion).length = l.length := List.length_map _
  generalize l.map convVersion = x at *
  generalize tipsOf x = y at *
  have m1 := markSVersion_ev x 1 (by omega) (by omega)
  have m2 := markSInt_ev y 1 (by omega) (by omega)
  have e2 := heldSInt_ev y.length 1 (by omega) (by omega)
  have hj0 : Ev (fun k => laws_FnExactTipsOf.j0 k l y y false) true := by
    refine Ev_succ.mpr ?_
    simp only [laws_FnExactTipsOf.j0]
    rw [Ev_neg (by simp), Ev_bd m2, Ev_bd e2, Ev_neg (by omega), Ev_pos rfl, Ev_bd hc, Ev_bd ei, Ev_bd (eqSInt_ev _ _ (by omega)), Ev_pos (eqb_self _), Ev_bd e2, Ev_neg (by omega), Ev_pos rfl]
    exact Ev_some.mpr rfl
  rw [Ev_bd hc, Ev_bd es, Ev_bd hc, Ev_bd ei, Ev_bd (eqSInt_ev _ _ (by omega)), Ev_pos (eqb_self _), Ev_bd hc, Ev_bd (eqVersionS_ev _ _ (by omega)), Ev_pos (eqb_self _), Ev_bd m1, Ev_neg (by dsimp only; omega), Ev_bd (eqSInt_ev _ _ (by omega)), eqb_self]
  exact hj0
end Go.Proofs.Ytbjfbmoeboagaaa.Pure
