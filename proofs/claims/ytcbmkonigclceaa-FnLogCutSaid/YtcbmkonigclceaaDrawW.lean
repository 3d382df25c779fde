/- What the draws of words and prints come to. -/
import Derived.Test.YtcbmkonigclceaaPx17
import Derived.Test.YtcbmkonigclceaaPick
namespace Go.Proofs.Ytcbmkonigclceaa.Mod
open Go.RowKit Go.Proofs.Ytcbmkonigclceaa.P Go.Proofs.Ytcbmkonigclceaa.EvK Go.Proofs.YtcbmkonigclceaaW.PrintWords Go.Proofs.YtcbmkonigclceaaW.PrintLast
set_option linter.unusedVariables false
set_option linter.unusedSimpArgs false
theorem odd_p {b : List Int} {p : Int} (h : RdOk b p) (n : Int) (hn : n ≤ 1000000) : EvP (fun k => spec_l20Rd_odd.f k b p n) (fun r => p ≤ r.2 ∧ r.2 ≤ p + 1) := by
  unfold spec_l20Rd_odd.f
  rw [EvP_ite]
  split
  · refine EvP_bp (pick_p h n hn) ?_
    rintro ⟨v, q⟩ ⟨rfl, -, -⟩
    exact EvP_some.mpr ⟨by dsimp only; omega, by dsimp only; omega⟩
  · exact EvP_some.mpr ⟨by dsimp only; omega, by dsimp only; omega⟩
theorem five (v : Int) (h : 0 ≤ v ∧ v < 5) : v = 0 ∨ v = 1 ∨ v = 2 ∨ v = 3 ∨ v = 4 := by omega
theorem seven (v : Int) (h : 0 ≤ v ∧ v < 7) : 0 ≤ rd [0, 0, 0, 1, 1, 1, 2] v ∧ rd [0, 0, 0, 1, 1, 1, 2] v < 3 := by
  have : v = 0 ∨ v = 1 ∨ v = 2 ∨ v = 3 ∨ v = 4 ∨ v = 5 ∨ v = 6 := by omega
  rcases this with rfl | rfl | rfl | rfl | rfl | rfl | rfl <;> decide
end Go.Proofs.Ytcbmkonigclceaa.Mod
