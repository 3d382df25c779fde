/- Words on rows of cells, beside the printed ones. -/
import Derived.Test.YtcbmkonigclceaaVMore
import Derived.WalkSpells
import Derived.Lib.Walk
import Derived.Lib.SliceRun
namespace Go.Proofs.Ytcbmkonigclceaa.KdW
open Go.RowKit Go.Proofs.YtcbmkonigclceaaW.PrintWords
theorem reps_one {α : Type} {R : α → List Value → Prop} {size : Nat} {ps : List α} {cs : List Value} (h : Reps R size ps cs) (hs : 0 < size) (h1 : ∀ p c, R p c → ∀ u ∈ c, u.oneCell' = true) : ∀ u ∈ cs, u.oneCell' = true := by
  intro u hu
  obtain ⟨i, hi, rfl⟩ := List.getElem_of_mem hu
  have hl := h.1
  have hj : i / size < ps.length := by
    rw [Nat.div_lt_iff_lt_mul hs]
    omega
  have hr := h.2 (i / size) _ (List.getElem?_eq_getElem hj)
  refine h1 _ _ hr _ ?_
  refine List.mem_of_getElem? (i := i % size) ?_
  have hm := Nat.mod_lt i hs
  have hd : i / size * size + i % size = i := by rw [Nat.mul_comm]; exact Nat.div_add_mod i size
  rw [List.getElem?_take, if_pos hm, List.getElem?_drop, hd, List.getElem?_eq_getElem hi]
theorem nil_of_none {α : Type} {d : Kd α} {w : World} {n : Nat} {xs : List α} (h : d.C w none n xs) : xs = [] ∧ n = 0 := by
  rcases Nat.eq_zero_or_pos n with h0 | h0
  · refine ⟨List.length_eq_zero_iff.1 (by rw [h.1]; exact h0), h0⟩
  · obtain ⟨ad, he, _⟩ := h.2.2 h0
    cases he
end Go.Proofs.Ytcbmkonigclceaa.KdW
