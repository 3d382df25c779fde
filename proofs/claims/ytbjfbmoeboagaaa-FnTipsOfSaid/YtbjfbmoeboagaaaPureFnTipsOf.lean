/- The pure statement of FnTipsOf: proved. -/
import Derived.Test.YtbjfbmoeboagaaaStmtFnTipsOf
import Derived.Test.YtbjfbmoeboagaaaTips
import Derived.Test.YtbjfbmoeboagaaaDrawV
import Derived.Test.YtbjfbmoeboagaaaSameInts
namespace Go.Proofs.Ytbjfbmoeboagaaa.Pure
open Go.RowKit Go.Proofs.Ytbjfbmoeboagaaa.P Go.Proofs.Ytbjfbmoeboagaaa.EvK Go.Proofs.Ytbjfbmoeboagaaa.Mod Go.Proofs.YtbjfbmoeboagaaaW.PrintWords
theorem drawTips_p (l : List Int) (hl : ∀ x ∈ l, 0 ≤ x ∧ x ≤ 255) : EvP (fun k => spec_DrawTipsOf.f k l) (fun r => DrawnV r) := by
  obtain ⟨bs, ho, h0⟩ := open_ev l hl
  unfold spec_DrawTipsOf.f
  simp only [ho, Option.bind_some]
  refine EvP_bp (versions_p h0 (by omega) 9 (by omega)) ?_
  rintro ⟨x, q⟩ ⟨h, h1, h2⟩
  exact EvP_some.mpr h
theorem FnTipsOf : laws_FnTipsOf.Stmt := by
  intro l hl hq
  refine Ev.rounds (g := fun k => laws_FnTipsOf.f k l) ?_
  obtain ⟨x, hd, hx⟩ := drawTips_p l (fun z h => wf_u8 (hq z h))
  have hs := hx.sized
  have hlen := hx.len
  have hL := tipsOf_len x
  unfold laws_FnTipsOf.f
  rw [Ev_ite]
  split
  · exact Ev_some.mpr rfl
  rw [Ev_bd hd, Ev_bd (impl_tips_ev x hs), Ev_bd (spec_tips_ev x hs), Ev_bd (sameInts_ev _ _ (by omega)), Ev_pos (eqb_self _), Ev_bd (impl_vers_ev x hs), Ev_ite]
  by_cases h : versionsValid x = true
  · rw [if_pos h]
    have hreach := tips_reach h
    have hnone : 0 < (tipsOf x).length ↔ 0 < x.length := by
      constructor
      · intro g
        obtain ⟨t, ht⟩ := List.exists_mem_of_length_pos g
        unfold tipsOf tipsFrom at ht
        rw [if_pos h] at ht
        obtain ⟨i, hi, -⟩ := List.mem_map.1 ht
        have := List.mem_range.1 (List.mem_filter.1 hi).1
        omega
      · intro g
        obtain ⟨t, ht, -⟩ := hreach x.length 0 (by omega) g
        exact List.length_pos_of_mem ht
    have htin : ∀ t ∈ tipsOf x, 0 ≤ t ∧ t ≤ 100 := by
      intro t ht
      unfold tipsOf tipsFrom at ht
      rw [if_pos h] at ht
      obtain ⟨i, hi, rfl⟩ := List.mem_map.1 ht
      have := List.mem_range.1 (List.mem_filter.1 hi).1
      omega
    generalize tipsOf x = y at *
    have inner : ∀ d j (b : Bool) (i : Nat) r, j + d = y.length → i < x.length → (b = true ∨ ∃ t ∈ y.drop j, (i : Int) ∈ lineOf x t) → Ev (fun k => laws_FnTipsOf.l0 k x y ((i + 1 : Nat) : Int)) r → Ev (fun k => laws_FnTipsOf.l1 k x y (i : Int) b (j : Int)) r := by
      intro d
      induction d with
      | zero =>
        intro j b i r hj hi hb hr
        refine Ev_succ.mpr ?_
        rw [List.drop_eq_nil_of_le (by omega)] at hb
        have hb : b = true := hb.resolve_right (by rintro ⟨t, ht, -⟩; simp at ht)
        subst hb
        simp only [laws_FnTipsOf.l1, w64s i (by omega)]
        rw [Ev_neg (by omega), Ev_pos (by trivial)]
        exact hr
      | succ d ih =>
        intro j b i r hj hi hb hr
        refine Ev_succ.mpr ?_
        rw [drop_cons y 0 j (by omega)] at hb
        simp only [laws_FnTipsOf.l1, w64s j (by omega), rd_nat]
        rw [Ev_pos (by omega)]
        cases b
        · rw [Ev_neg (by simp), Ev_pos (by omega)]
          have hm : y.getD j 0 ∈ y := by
            rw [List.getD_eq_getElem?_getD, List.getElem?_eq_getElem (show j < y.length by omega)]
            exact List.getElem_mem _
          have hti := htin _ hm
          have hll := lineOf_len x (y.getD j 0)
          rw [Ev_bd (impl_line_ev x hs _ (by omega)), Ev_bd (hasInt_ev _ _ (by omega))]
          refine ih (j + 1) _ i r (by omega) hi ?_ hr
          obtain ⟨t, ht, hmm⟩ := hb.resolve_left (by simp)
          rcases List.mem_cons.1 ht with rfl | ht
          · exact Or.inl (decide_eq_true hmm)
          · exact Or.inr ⟨t, ht, hmm⟩
        · rw [Ev_pos (by trivial)]
          exact ih (j + 1) true i r (by omega) hi (Or.inl rfl) hr
    have outer : ∀ d i, i + d = x.length → Ev (fun k => laws_FnTipsOf.l0 k x y (i : Int)) true := by
      intro d
      induction d with
      | zero =>
        intro i hi
        refine Ev_succ.mpr ?_
        simp only [laws_FnTipsOf.l0]
        rw [Ev_neg (by omega)]
        refine Ev_some.mpr ?_
        by_cases g : 0 < x.length
        · have g2 := hnone.2 g
          rw [decide_eq_true (by omega), decide_eq_true (by omega)]
          rfl
        · have g2 : ¬ 0 < y.length := fun q => g (hnone.1 q)
          rw [decide_eq_false (by omega), decide_eq_false (by omega)]
          rfl
      | succ d ih =>
        intro i hi
        refine Ev_succ.mpr ?_
        simp only [laws_FnTipsOf.l0]
        rw [Ev_pos (by omega)]
        refine inner y.length 0 false i _ (by omega) (by omega) (Or.inr ?_) (ih (i + 1) (by omega))
        rw [List.drop_zero]
        exact hreach (x.length - i) i (by omega) (by omega)
    exact outer x.length 0 (by omega)
  · rw [if_neg h]
    have e : tipsOf x = [] := by unfold tipsOf; rw [if_neg h]
    rw [e, Ev_pos (by simp), Ev_bd alive_ev]
    exact Ev_some.mpr rfl
end Go.Proofs.Ytbjfbmoeboagaaa.Pure
