/- The pure statement of FnLineOf: proved. -/
import Derived.Test.YtglfoihpgpdooabStmtFnLineOf
import Derived.Test.YtglfoihpgpdooabLine
import Derived.Test.YtglfoihpgpdooabSameInts
import Derived.Test.YtglfoihpgpdooabDrawV
namespace Go.Proofs.Ytglfoihpgpdooab.Pure
open Go.RowKit Go.Proofs.Ytglfoihpgpdooab.P Go.Proofs.Ytglfoihpgpdooab.EvK Go.Proofs.Ytglfoihpgpdooab.Mod Go.Proofs.YtglfoihpgpdooabW.PrintWords
theorem drawLine_p (l : List Int) (hl : ∀ x ∈ l, 0 ≤ x ∧ x ≤ 255) : EvP (fun k => spec_DrawLineOf.f k l) (fun r => DrawnV r.1 ∧ -100 ≤ r.2 ∧ r.2 ≤ 100) := by
  obtain ⟨bs, ho, h0⟩ := open_ev l hl
  unfold spec_DrawLineOf.f
  simp only [ho, Option.bind_some]
  refine EvP_bp (versions_p h0 (by omega) 9 (by omega)) ?_
  rintro ⟨x, q⟩ ⟨h, h1, h2⟩
  dsimp only at h h1 h2 ⊢
  have hlen := h.len
  rw [w64 (x := (x.length : Int) + 1) (by omega) (by omega)]
  refine EvP_bp (pick_p (h0.to (q := q) (by omega) (by omega)) _ (by omega)) ?_
  rintro ⟨v, q1⟩ ⟨rfl, r1, -⟩
  refine EvP_bp (pick_p (h0.to (q := q + 1) (by omega) (by omega)) 14 (by omega)) ?_
  rintro ⟨v2, q2⟩ ⟨rfl, r2, -⟩
  have r1 := r1 (by omega)
  have r2 := r2 (by omega)
  dsimp only at r1 r2 ⊢
  have d : Int.tdiv v2 13 = v2 / 13 := Int.tdiv_eq_ediv_of_nonneg r2.1
  refine EvP_some.mpr ⟨h, ?_⟩
  dsimp only
  rw [d, w64 (x := v2 / 13) (by omega) (by omega), w64 (by omega) (by omega)]
  omega
theorem FnLineOf : laws_FnLineOf.Stmt := by
  intro l hl hq
  refine Ev.rounds (g := fun k => laws_FnLineOf.f k l) ?_
  obtain ⟨⟨x, n⟩, hd, hx, hn1, hn2⟩ := drawLine_p l (fun z h => wf_u8 (hq z h))
  dsimp only at hx hn1 hn2
  have hs := hx.sized
  have hlen := hx.len
  have hL := lineOf_len x n
  unfold laws_FnLineOf.f
  rw [Ev_ite]
  split
  · exact Ev_some.mpr rfl
  rw [Ev_bd hd]
  dsimp only
  rw [Ev_bd (impl_line_ev x hs n (by omega)), Ev_bd (spec_line_ev x hs n (by omega)), Ev_bd (sameInts_ev _ _ (by omega)), Ev_pos (eqb_self _), Ev_ite]
  by_cases h0 : ((lineOf x n).length : Int) = 0
  · rw [if_pos h0, Ev_bd alive_ev]
    exact Ev_some.mpr rfl
  rw [if_neg h0]
  have hc : versionsValid x = true ∧ 0 ≤ n ∧ n < x.length := by
    unfold lineOf at h0
    by_cases h : versionsValid x = true ∧ 0 ≤ n ∧ n < x.length
    · exact h
    · rw [if_neg h] at h0
      simp at h0
  have e : lineOf x n = lineL x (x.length + 1) n := by unfold lineOf; rw [if_pos hc]
  obtain ⟨a1, a2, a3, a4, a5⟩ := lineL_facts hc.1 (x.length + 1) n hc.2.1 (by omega) hc.2.2
  rw [← e] at a1 a2 a3 a4 a5
  generalize lineOf x n = y at *
  have key : ∀ d i, i + d = y.length → 1 ≤ i → Ev (fun k => laws_FnLineOf.l0 k x n y (i : Int)) true := by
    intro d
    induction d with
    | zero =>
      intro i hi h1
      obtain rfl : i = y.length := by omega
      refine Ev_succ.mpr ?_
      have g0 : rd y 0 = n := by rw [show (0 : Int) = ((0 : Nat) : Int) by rfl, rd_nat]; exact a2
      have g1 : rd y ((y.length : Int) - 1) = y.getD (y.length - 1) 0 := by rw [show (y.length : Int) - 1 = ((y.length - 1 : Nat) : Int) by omega, rd_nat]
      have g2 := a3 (y.length - 1) (by omega)
      have hbe := bef_rd x (y.getD (y.length - 1) 0)
      simp only [laws_FnLineOf.l0]
      rw [w64 (x := (y.length : Int) - 1) (by omega) (by omega), g0, g1, hbe, a5]
      rw [Ev_neg (by omega), Ev_pos (by omega), Ev_pos (by omega), Ev_pos (by omega), Ev_pos rfl, Ev_pos (by omega), Ev_pos (by omega), Ev_pos (by omega)]
      exact Ev_some.mpr rfl
    | succ d ih =>
      intro i hi h1
      refine Ev_succ.mpr ?_
      have e1 : (i : Int) - 1 = ((i - 1 : Nat) : Int) := by omega
      have g1 := a3 i (by omega)
      have g2 := a3 (i - 1) (by omega)
      have g3 := a4 (i - 1) (by omega)
      rw [show i - 1 + 1 = i by omega] at g3
      simp only [laws_FnLineOf.l0, rd_nat, w64s i (by omega)]
      rw [w64 (x := (i : Int) - 1) (by omega) (by omega), e1, rd_nat, bef_rd]
      rw [Ev_pos (by omega), Ev_pos (by omega), Ev_neg (by omega), Ev_pos (by omega), Ev_pos (by omega), Ev_neg (by omega), Ev_neg (by omega), Ev_pos (by omega), Ev_pos (by omega), Ev_pos g3.2]
      exact ih (i + 1) (by omega) (by omega)
  exact key (y.length - 1) 1 (by omega) (by omega)
end Go.Proofs.Ytglfoihpgpdooab.Pure
