/- More on the nearest number of two lines. -/
import Derived.Test.YtbjfbmoeboagaaaNear
import Derived.Test.YtbjfbmoeboagaaaLineMore
namespace Go.Proofs.Ytbjfbmoeboagaaa.Mod
open Go.RowKit Go.Proofs.Ytbjfbmoeboagaaa.P Go.Proofs.Ytbjfbmoeboagaaa.EvK Go.Proofs.YtbjfbmoeboagaaaW.PrintWords Go.Proofs.YtbjfbmoeboagaaaW.PrintLast
set_option linter.unusedVariables false
set_option linter.unusedSimpArgs false
theorem nearest_none {x y : List Int} (h : ∀ m ∈ x, m ∉ y) : nearest x y = -1 := by
  induction x with
  | nil => rfl
  | cons n x ih =>
    rw [nearest_cons, if_neg (h n List.mem_cons_self)]
    exact ih (fun m hm => h m (List.mem_cons_of_mem _ hm))
theorem nearest_is {x y : List Int} (hx : x.Pairwise (fun a b => b < a)) {n : Int} (h0 : n ∈ x) (h1 : n ∈ y) (h2 : ∀ m ∈ x, m ∈ y → m ≤ n) : nearest x y = n := by
  induction x with
  | nil => simp at h0
  | cons a x ih =>
    have hp := List.pairwise_cons.1 hx
    rw [nearest_cons]
    by_cases ha : a ∈ y
    · rw [if_pos ha]
      have := h2 a List.mem_cons_self ha
      rcases List.mem_cons.1 h0 with h | h
      · exact h.symm
      · have := hp.1 n h
        omega
    · rw [if_neg ha]
      rcases List.mem_cons.1 h0 with h | h
      · exact absurd (h ▸ h1) ha
      · exact ih hp.2 h (fun m hm => h2 m (List.mem_cons_of_mem _ hm))
theorem nearest_cases {x : List Int} (y : List Int) (hx : x.Pairwise (fun a b => b < a)) : (∀ m ∈ x, m ∉ y) ∨ (nearest x y ∈ x ∧ nearest x y ∈ y ∧ ∀ m ∈ x, m ∈ y → m ≤ nearest x y) := by
  induction x with
  | nil => exact Or.inl (fun m hm => by simp at hm)
  | cons a x ih =>
    have hp := List.pairwise_cons.1 hx
    rw [nearest_cons]
    by_cases ha : a ∈ y
    · rw [if_pos ha]
      refine Or.inr ⟨List.mem_cons_self, ha, fun m hm _ => ?_⟩
      rcases List.mem_cons.1 hm with rfl | hm
      · exact Int.le_refl _
      · have := hp.1 m hm
        omega
    · rw [if_neg ha]
      rcases ih hp.2 with h | ⟨h1, h2, h3⟩
      · refine Or.inl (fun m hm => ?_)
        rcases List.mem_cons.1 hm with rfl | hm
        · exact ha
        · exact h m hm
      · refine Or.inr ⟨List.mem_cons_of_mem _ h1, h2, fun m hm g => ?_⟩
        rcases List.mem_cons.1 hm with rfl | hm
        · exact absurd g ha
        · exact h3 m hm g
theorem nearest_symm {x y : List Int} (hx : x.Pairwise (fun a b => b < a)) (hy : y.Pairwise (fun a b => b < a)) : nearest x y = nearest y x := by
  rcases nearest_cases y hx with h | ⟨h1, h2, h3⟩
  · rw [nearest_none h, nearest_none (fun m hm g => h m g hm)]
  · exact (nearest_is hy h2 h1 (fun m hm g => h3 m g hm)).symm
end Go.Proofs.Ytbjfbmoeboagaaa.Mod
