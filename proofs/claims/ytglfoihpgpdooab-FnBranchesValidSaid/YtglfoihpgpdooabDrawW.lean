/- What the draws of words and prints come to. -/
import Derived.Test.YtglfoihpgpdooabPx0
import Derived.Test.YtglfoihpgpdooabPick
namespace Go.Proofs.Ytglfoihpgpdooab.Mod
open Go.RowKit Go.Proofs.Ytglfoihpgpdooab.P Go.Proofs.Ytglfoihpgpdooab.EvK Go.Proofs.YtglfoihpgpdooabW.PrintWords Go.Proofs.YtglfoihpgpdooabW.PrintLast
set_option linter.unusedVariables false
set_option linter.unusedSimpArgs false
theorem odd_p {b : List Int} {p : Int} (h : RdOk b p) (n : Int) (hn : n ≤ 1000000) : EvP (fun k => spec_l20Rd_odd.f k b p n) (fun r => p ≤ r.2 ∧ r.2 ≤ p + 1) := by
  unfold spec_l20Rd_odd.f
  rw [EvP_ite]
  split
  · refine EvP_bp (pick_p h n hn) ?_
    rintro ⟨v, q⟩ ⟨rfl, -, -⟩
    exact EvP_some.mpr ⟨by dsimp only; omega, by dsimp only; omega⟩
  · exact EvP_some.mpr ⟨by dsimp only; omega, by dsimp only; omega⟩
theorem five (v : Int) (h : 0 ≤ v ∧ v < 5) : v = 0 ∨ v = 1 ∨ v = 2 ∨ v = 3 ∨ v = 4 := by omega
theorem word_p {b : List Int} {p : Int} (h : RdOk b p) (hp : p + 2 ≤ 1000000) (n : Int) (hn : n ≤ 1000000) : EvP (fun k => spec_l20Word.f k b p n) (fun r => r.1.size ≤ 9 ∧ p ≤ r.2 ∧ r.2 ≤ p + 2) := by
  unfold spec_l20Word.f
  refine EvP_bp (odd_p h n hn) ?_
  rintro ⟨o, q⟩ ⟨h1, h2⟩
  dsimp only at h1 h2 ⊢
  have hq : RdOk b q := h.to h1 (by omega)
  rw [EvP_ite]
  split
  · simp only [Option.bind_some]
    refine EvP_bp (pick_p hq 5 (by omega)) ?_
    rintro ⟨v, q'⟩ ⟨rfl, r1, -⟩
    have r1 := r1 (by omega)
    dsimp only at r1 ⊢
    rw [EvP_pos r1.1, EvP_pos (by simpa using r1.2)]
    refine EvP_some.mpr ⟨?_, by dsimp only; omega, by dsimp only; omega⟩
    rcases five v r1 with rfl | rfl | rfl | rfl | rfl <;> (dsimp only; decide)
  · simp only [Option.bind_some]
    refine EvP_bp (pick_p hq 5 (by omega)) ?_
    rintro ⟨v, q'⟩ ⟨rfl, r1, -⟩
    have r1 := r1 (by omega)
    dsimp only at r1 ⊢
    rw [EvP_pos r1.1, EvP_pos (by simpa using r1.2)]
    refine EvP_some.mpr ⟨?_, by dsimp only; omega, by dsimp only; omega⟩
    rcases five v r1 with rfl | rfl | rfl | rfl | rfl <;> (dsimp only; decide)
theorem seven (v : Int) (h : 0 ≤ v ∧ v < 7) : 0 ≤ rd [0, 0, 0, 1, 1, 1, 2] v ∧ rd [0, 0, 0, 1, 1, 1, 2] v < 3 := by
  have : v = 0 ∨ v = 1 ∨ v = 2 ∨ v = 3 ∨ v = 4 ∨ v = 5 ∨ v = 6 := by omega
  rcases this with rfl | rfl | rfl | rfl | rfl | rfl | rfl <;> decide
end Go.Proofs.Ytglfoihpgpdooab.Mod
