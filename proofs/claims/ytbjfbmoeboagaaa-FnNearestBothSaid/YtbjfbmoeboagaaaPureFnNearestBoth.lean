/- The pure statement of FnNearestBoth: proved. -/
import Derived.Test.YtbjfbmoeboagaaaStmtFnNearestBoth
import Derived.Test.YtbjfbmoeboagaaaNearMore
import Derived.Test.YtbjfbmoeboagaaaDrawV
namespace Go.Proofs.Ytbjfbmoeboagaaa.Pure
open Go.RowKit Go.Proofs.Ytbjfbmoeboagaaa.P Go.Proofs.Ytbjfbmoeboagaaa.EvK Go.Proofs.Ytbjfbmoeboagaaa.Mod Go.Proofs.YtbjfbmoeboagaaaW.PrintWords
theorem drawNear_p (l : List Int) (hl : ∀ x ∈ l, 0 ≤ x ∧ x ≤ 255) : EvP (fun k => spec_DrawNearestBoth.f k l) (fun r => DrawnV r.1 ∧ (-100 ≤ r.2.1 ∧ r.2.1 ≤ 100) ∧ -100 ≤ r.2.2 ∧ r.2.2 ≤ 100) := by
  obtain ⟨bs, ho, h0⟩ := open_ev l hl
  unfold spec_DrawNearestBoth.f
  simp only [ho, Option.bind_some]
  refine EvP_bp (versions_p h0 (by omega) 9 (by omega)) ?_
  rintro ⟨x, q⟩ ⟨h, h1, h2⟩
  dsimp only at h h1 h2 ⊢
  have hlen := h.len
  rw [w64 (x := (x.length : Int) + 1) (by omega) (by omega)]
  refine EvP_bp (pick_p (h0.to (q := q) (by omega) (by omega)) _ (by omega)) ?_
  rintro ⟨v, q1⟩ ⟨rfl, r1, -⟩
  refine EvP_bp (pick_p (h0.to (q := q + 1) (by omega) (by omega)) 14 (by omega)) ?_
  rintro ⟨v2, q2⟩ ⟨rfl, r2, -⟩
  refine EvP_bp (pick_p (h0.to (q := q + 1 + 1) (by omega) (by omega)) _ (by omega)) ?_
  rintro ⟨v3, q3⟩ ⟨rfl, r3, -⟩
  have r1 := r1 (by omega)
  have r2 := r2 (by omega)
  have r3 := r3 (by omega)
  dsimp only at r1 r2 r3 ⊢
  have d : Int.tdiv v2 13 = v2 / 13 := Int.tdiv_eq_ediv_of_nonneg r2.1
  refine EvP_some.mpr ⟨h, ?_⟩
  dsimp only
  rw [d, w64 (x := v2 / 13) (by omega) (by omega), w64 (by omega) (by omega)]
  omega
theorem FnNearestBoth : laws_FnNearestBoth.Stmt := by
  intro l hl hq
  refine Ev.rounds (g := fun k => laws_FnNearestBoth.f k l) ?_
  obtain ⟨⟨x, a, b⟩, hd, hx, ha, hb⟩ := drawNear_p l (fun z h => wf_u8 (hq z h))
  dsimp only at hx ha hb
  have hs := hx.sized
  have hlen := hx.len
  have la := lineOf_len x a
  have lb := lineOf_len x b
  unfold laws_FnNearestBoth.f
  rw [Ev_ite]
  split
  · exact Ev_some.mpr rfl
  rw [Ev_bd hd]
  dsimp only
  have sa := lineOf_sorted x a
  have sb := lineOf_sorted x b
  rw [Ev_bd (impl_near_ev x hs a b (by omega) (by omega)), Ev_bd (spec_near_ev x hs a b (by omega) (by omega)), Ev_pos rfl, Ev_bd (impl_near_ev x hs b a (by omega) (by omega))]
  rw [show (nearest (lineOf x a) (lineOf x b) != nearest (lineOf x b) (lineOf x a)) = false by rw [nearest_symm sa sb]; simp]
  refine Ev_succ.mpr ?_
  simp only [laws_FnNearestBoth.j0]
  rw [Ev_neg (by simp), Ev_ite]
  rcases nearest_cases (lineOf x b) sa with h | ⟨h1, h2, h3⟩
  · rw [nearest_none h, if_pos (by omega), Ev_pos rfl, Ev_bd alive_ev]
    exact Ev_some.mpr rfl
  · generalize nearest (lineOf x a) (lineOf x b) = n at *
    have ma := lineOf_mem h1
    have mb := lineOf_mem h2
    have hn := lineOf_self ma.1 (n := n) (by omega) (by omega)
    have haa := lineOf_self ma.1 (n := a) (by omega) (by omega)
    rw [if_neg (by omega), Ev_bd (impl_line_ev x hs a (by omega)), Ev_bd (hasInt_ev _ _ (by omega)), Ev_pos (by simpa using h1), Ev_bd (impl_line_ev x hs b (by omega)), Ev_bd (hasInt_ev _ _ (by omega)), Ev_pos (by simpa using h2)]
    rw [Ev_bd (impl_near_ev x hs a a (by omega) (by omega)), Ev_pos (nearest_is sa haa haa (fun m hm _ => (lineOf_mem hm).2.2.1)), Ev_bd (impl_near_ev x hs a n (by omega) (by omega))]
    rw [nearest_is sa h1 hn (fun m _ hm => (lineOf_mem hm).2.2.1)]
    exact Ev_some.mpr (by simp)
end Go.Proofs.Ytbjfbmoeboagaaa.Pure
