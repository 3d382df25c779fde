/- The pure statement of FnMergePrint: proved. -/
import Derived.Test.YtglfoihpgpdooaaStmtFnMergePrint
import Derived.Test.YtglfoihpgpdooaaMerge
import Derived.Test.YtglfoihpgpdooaaPick
namespace Go.Proofs.Ytglfoihpgpdooaa.Pure
open Go.RowKit Go.Proofs.Ytglfoihpgpdooaa.P Go.Proofs.Ytglfoihpgpdooaa.EvK Go.Proofs.Ytglfoihpgpdooaa.Mod Go.Proofs.YtglfoihpgpdooaaW.PrintWords
theorem drawMerge_ev (l : List Int) (hl : ∀ x ∈ l, 0 ≤ x ∧ x ≤ 255) : EvP (fun k => spec_DrawMergePrint.f k l) (fun _ => True) := by
  obtain ⟨bs, ho, h0⟩ := open_ev l hl
  unfold spec_DrawMergePrint.f
  simp only [ho, Option.bind_some]
  refine EvP_bp (pick_p h0 4 (by omega)) ?_
  rintro ⟨v1, p1⟩ ⟨rfl, r1, -⟩
  refine EvP_bp (pick_p (h0.to (q := 0 + 1) (by omega) (by omega)) 4 (by omega)) ?_
  rintro ⟨v2, p2⟩ ⟨rfl, r2, -⟩
  refine EvP_bp (pick_p (h0.to (q := 0 + 1 + 1) (by omega) (by omega)) 4 (by omega)) ?_
  rintro ⟨v3, p3⟩ ⟨rfl, r3, -⟩
  refine EvP_bp (pick_p (h0.to (q := 0 + 1 + 1 + 1) (by omega) (by omega)) 8 (by omega)) ?_
  rintro ⟨v4, p4⟩ ⟨rfl, r4, -⟩
  have r4 := r4 (by omega)
  dsimp only at r4 ⊢
  have hin : 0 ≤ rd [0, 0, 0, 0, 0, 0, 1, 2] v4 ∧ rd [0, 0, 0, 0, 0, 0, 1, 2] v4 < 3 := by
    have : v4 = 0 ∨ v4 = 1 ∨ v4 = 2 ∨ v4 = 3 ∨ v4 = 4 ∨ v4 = 5 ∨ v4 = 6 ∨ v4 = 7 := by omega
    rcases this with rfl | rfl | rfl | rfl | rfl | rfl | rfl | rfl <;> decide
  simp only [List.length_cons, List.length_nil]
  rw [EvP_pos (by omega), EvP_pos (by omega), EvP_pos hin.1, EvP_pos (by omega)]
  exact EvP_some.mpr trivial
theorem mergeP_swap (x a b : Int) : mergeP x b a = mergeP x a b := by
  unfold mergeP
  cases inB x (-1) 16777212 <;> cases inB a (-1) 16777212 <;> cases inB b (-1) 16777212 <;> by_cases h1 : a = b <;> by_cases h2 : b = x <;> by_cases h3 : a = x <;> simp_all <;> omega
theorem mergeP_cases (x a b : Int) : ((mergeP x a b).2 = true ∧ ((mergeP x a b).1 = a ∨ (mergeP x a b).1 = b)) ∨ mergeP x a b = (-2, false) := by
  unfold mergeP
  repeat' split
  all_goals simp
theorem FnMergePrint : laws_FnMergePrint.Stmt := by
  intro l hl hq
  refine Ev.rounds (g := fun k => laws_FnMergePrint.f k l) ?_
  obtain ⟨⟨x, a, b⟩, hd, -⟩ := drawMerge_ev l (fun z h => wf_u8 (hq z h))
  have em := impl_merge_ev x a b
  have es := spec_merge_ev x a b
  have ew := impl_merge_ev x b a
  have eo := impl_merge_ev x x b
  rw [mergeP_swap] at ew
  unfold laws_FnMergePrint.f
  rw [Ev_ite]
  split
  · exact Ev_some.mpr rfl
  rw [Ev_bd hd]
  dsimp only
  rw [Ev_bd em, Ev_bd es, Ev_pos rfl, bne_self_eq_false]
  refine Ev_succ.mpr ?_
  simp only [laws_FnMergePrint.j0]
  rw [Ev_neg (by simp)]
  have ew' := Ev_succ.mp ew
  rw [Ev_bd ew, Ev_pos rfl, bne_self_eq_false]
  refine Ev_succ.mpr ?_
  simp only [laws_FnMergePrint.j1]
  rw [Ev_neg (by simp), Ev_ite]
  by_cases hv : (mergeP x a b).2 = true
  · rw [if_pos hv, Ev_bd eo]
    have key : (mergeP x a b).1 = a ∨ (mergeP x a b).1 = b := by
      rcases mergeP_cases x a b with ⟨_, h⟩ | h
      · exact h
      · rw [h] at hv
        simp at hv
    have k2 : mergeP x x b = (b, true) := by
      unfold mergeP at hv ⊢
      by_cases hc : (inB x (-1) 16777212 && inB a (-1) 16777212 && inB b (-1) 16777212) = true
      · have : (inB x (-1) 16777212 && inB x (-1) 16777212 && inB b (-1) 16777212) = true := by
          simp only [Bool.and_eq_true] at hc ⊢
          exact ⟨⟨hc.1.1, hc.1.1⟩, hc.2⟩
        rw [if_pos this]
        by_cases e : x = b
        · rw [if_pos (Or.inl e), e]
        · rw [if_neg (by omega), if_pos rfl]
      · rw [if_neg hc] at hv
        simp at hv
    rw [k2]
    dsimp only
    simp only [Ev_ite, Ev_some, beq_self_eq_true, if_true]
    rcases key with h | h
    · by_cases g : (mergeP x a b).1 = b <;> simp [g, h]
    · by_cases g : (mergeP x a b).1 = a <;> simp [g, h]
  · rw [if_neg hv]
    have : (mergeP x a b).1 = -2 := by
      rcases mergeP_cases x a b with ⟨h, _⟩ | h
      · exact absurd h hv
      · rw [h]
    rw [Ev_pos this, Ev_bd alive_ev]
    exact Ev_some.mpr rfl
end Go.Proofs.Ytglfoihpgpdooaa.Pure
