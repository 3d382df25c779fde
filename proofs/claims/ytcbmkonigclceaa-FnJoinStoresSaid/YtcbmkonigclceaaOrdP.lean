/- A binary search. Plain Lean; no program in it. -/
import Derived.Test.YtcbmkonigclceaaEv
namespace Go.Proofs.Ytcbmkonigclceaa.EvK
open Go Go.RowKit Go.Proofs.YtcbmkonigclceaaW.PrintWords
set_option linter.all false
theorem searchP_ev {α : Type} (xs : List α) (z : α) (p : α → Bool) (g : Nat → Int → Int → Option Int) (hlen : xs.length ≤ 1048576)
  (hm : ∀ i j, i < j → j < xs.length → p (xs.getD j z) = true → p (xs.getD i z) = true)
  (hs : ∀ i j : Nat, i < j → j ≤ xs.length → ∀ r, (if p (xs.getD ((i + j) / 2) z) = true then Ev (fun k => g k (((i + j) / 2 + 1 : Nat) : Int) (j : Int)) r else Ev (fun k => g k (i : Int) (((i + j) / 2 : Nat) : Int)) r) → Ev (fun k => g k (i : Int) (j : Int)) r)
  (he : ∀ i : Nat, Ev (fun k => g k (i : Int) (i : Int)) (i : Int)) :
  ∃ r : Nat, Ev (fun k => g k 0 (xs.length : Int)) (r : Int) ∧ r ≤ xs.length ∧ (∀ j, j < r → p (xs.getD j z) = true) ∧ (∀ j, r ≤ j → j < xs.length → p (xs.getD j z) = false) := by
 have main : ∀ (d i j : Nat), j - i ≤ d → i ≤ j → j ≤ xs.length → (∀ q, q < i → p (xs.getD q z) = true) → (∀ q, j ≤ q → q < xs.length → p (xs.getD q z) = false) →
   ∃ r : Nat, Ev (fun k => g k (i : Int) (j : Int)) (r : Int) ∧ r ≤ xs.length ∧ (∀ j, j < r → p (xs.getD j z) = true) ∧ (∀ j, r ≤ j → j < xs.length → p (xs.getD j z) = false) := by
  intro d
  induction d with
  | zero =>
   intro i j hd hij hj h1 h2
   obtain rfl : i = j := by omega
   exact ⟨i, he i, hj, h1, h2⟩
  | succ d ih =>
   intro i j hd hij hj h1 h2
   by_cases h : i = j
   ·subst h
    exact ⟨i, he i, hj, h1, h2⟩
   ·by_cases hl : p (xs.getD ((i + j) / 2) z) = true
    ·obtain ⟨r, hr, g1, g2, g3⟩ := ih ((i + j) / 2 + 1) j (by omega) (by omega) hj (fun q hq => by
      by_cases hqm : q = (i + j) / 2
      ·rw [hqm]; exact hl
      ·exact hm q ((i + j) / 2) (by omega) (by omega) hl) h2
     exact ⟨r, hs i j (by omega) hj _ (by rw [if_pos hl]; exact hr), g1, g2, g3⟩
    ·obtain ⟨r, hr, g1, g2, g3⟩ := ih i ((i + j) / 2) (by omega) (by omega) (by omega) h1 (fun q hq hq2 => by
      by_cases hqm : q = (i + j) / 2
      ·rw [hqm]; simpa using hl
      ·rw [Bool.eq_false_iff]
       exact fun gq => hl (hm ((i + j) / 2) q (by omega) hq2 gq))
     exact ⟨r, hs i j (by omega) hj _ (by rw [if_neg hl]; exact hr), g1, g2, g3⟩
 exact main xs.length 0 xs.length (by omega) (by omega) (Nat.le_refl _) (fun q hq => by omega) (fun q h1 h2 => by omega)
end Go.Proofs.Ytcbmkonigclceaa.EvK
