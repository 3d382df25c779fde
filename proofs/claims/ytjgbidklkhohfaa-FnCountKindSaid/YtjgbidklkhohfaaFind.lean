/- The search in a store. -/
import Derived.Test.YtjgbidklkhohfaaPx0
import Derived.Test.YtjgbidklkhohfaaStore
namespace Go.Proofs.Ytjgbidklkhohfaa.Mod
open Go.RowKit Go.Proofs.Ytjgbidklkhohfaa.P Go.Proofs.Ytjgbidklkhohfaa.EvK Go.Proofs.YtjgbidklkhohfaaW.PrintWords Go.Proofs.YtjgbidklkhohfaaW.PrintLast
set_option linter.all false
def posP (l : List S45) (t : Int) : Nat := (l.takeWhile (fun b => decide (b.f0 < t))).length
theorem posP_le (l : List S45) (t : Int) : posP l t ≤ l.length := by
 unfold posP
 exact (List.takeWhile_sublist _).length_le
theorem posP_spec (l : List S45) (t : Int) : (∀ j, j < posP l t → (l.getD j z45).f0 < t) ∧ (posP l t < l.length → t ≤ (l.getD (posP l t) z45).f0) := by
 unfold posP
 induction l with
 | nil => exact ⟨fun j hj => by simp at hj, fun h => by simp at h⟩
 | cons a l ih =>
  rw [List.takeWhile_cons]
  by_cases h : a.f0 < t
  ·rw [if_pos (by simpa using h)]
   refine ⟨fun j hj => ?_, fun hj => ?_⟩
   ·cases j with
    | zero => simpa using h
    | succ j => simpa using ih.1 j (by simpa using hj)
   ·simpa using ih.2 (by simpa using hj)
  ·rw [if_neg (by simpa using h)]
   exact ⟨fun j hj => by simp at hj, fun _ => by simpa using h⟩
theorem posP_uniq {l : List S45} {t : Int} {r : Nat} (h0 : r ≤ l.length) (h1 : ∀ j, j < r → (l.getD j z45).f0 < t) (h2 : r < l.length → t ≤ (l.getD r z45).f0) : r = posP l t := by
 obtain ⟨g1, g2⟩ := posP_spec l t
 have g0 := posP_le l t
 rcases Nat.lt_trichotomy r (posP l t) with q | q | q
 ·have := g1 r q
  have := h2 (by omega)
  omega
 ·exact q
 ·have := h1 _ q
  have := g2 (by omega)
  omega
def hasP (l : List S45) (t : Int) : Prop := posP l t < l.length ∧ (l.getD (posP l t) z45).f0 = t
theorem hasP_iff {l : List S45} (h : storeValid l = true) (t : Int) : hasP l t ↔ ∃ v ∈ l, v.f0 = t := by
 obtain ⟨g1, g2⟩ := posP_spec l t
 have g0 := posP_le l t
 constructor
 ·rintro ⟨h1, h2⟩
  refine ⟨_, ?_, h2⟩
  rw [pieceAt l _ h1]
  exact List.getElem_mem _
 ·rintro ⟨v, hv, e⟩
  obtain ⟨i, hi, rfl⟩ := List.getElem_of_mem hv
  rw [← pieceAt l i hi] at e
  rcases Nat.lt_trichotomy i (posP l t) with q | q | q
  ·have := g1 i q; omega
  ·subst q; exact ⟨hi, e⟩
  ·have := store_less h _ i q hi
   have := g2 (by omega)
   omega
theorem store_once {l : List S45} (h : storeValid l = true) {v w : S45} (hv : v ∈ l) (hw : w ∈ l) (e : v.f0 = w.f0) : v = w := by
 obtain ⟨i, hi, rfl⟩ := List.getElem_of_mem hv
 obtain ⟨j, hj, rfl⟩ := List.getElem_of_mem hw
 rw [← pieceAt l i hi, ← pieceAt l j hj] at e ⊢
 rcases Nat.lt_trichotomy i j with q | q | q
 ·have := store_less h i j q hj; omega
 ·rw [q]
 ·have := store_less h j i q hi; omega
end Go.Proofs.Ytjgbidklkhohfaa.Mod
