/- The search in a store. -/
import Derived.Test.YtcbmkonigclceaaPx0
import Derived.Test.YtcbmkonigclceaaPx1
import Derived.Test.YtcbmkonigclceaaStore
namespace Go.Proofs.Ytcbmkonigclceaa.Mod
open Go.RowKit Go.Proofs.Ytcbmkonigclceaa.P Go.Proofs.Ytcbmkonigclceaa.EvK Go.Proofs.YtcbmkonigclceaaW.PrintWords Go.Proofs.YtcbmkonigclceaaW.PrintLast
set_option linter.all false
theorem cmpInt_eq (a b : Int) : cmp_Compare_int.f a b = some (if a < b then -1 else if a > b then 1 else 0) := by
 unfold cmp_Compare_int.f cmp_isNaN_int.f
 simp only [bne_self_eq_false, Option.bind_some, Bool.false_eq_true, if_false]
 repeat' split
 all_goals rfl
theorem findPiece1_eq (a : Int) (s : ByteArray) (t : Int) : impl_findPiece_1.f a s t = some (if a < t then -1 else if a > t then 1 else 0) := by
 unfold impl_findPiece_1.f
 rw [cmpInt_eq]
 rfl
theorem findPiece_p {l : List S65} (h : storeValid l = true) (t : Int) :
  ∃ r : Nat, ∃ b : Bool, Ev (fun k => impl_findPiece.f k l t) ((r : Int), b) ∧ r ≤ l.length ∧ (∀ j, j < r → (l.getD j z65).f0 < t) ∧ (∀ j, r ≤ j → j < l.length → t ≤ (l.getD j z65).f0) ∧ (b = true ↔ r < l.length ∧ (l.getD r z65).f0 = t) := by
 have hlen := (storeValid_iff.1 h).1
 obtain ⟨r, hr, h1, h2, h3⟩ := searchP_ev l z65 (fun x => decide (x.f0 < t)) (fun k i j => impl_findPiece.l0 k l t i j) (by omega)
  (fun i j hij hj hl => by
   have := store_less h i j hij hj
   simp only [decide_eq_true_eq] at hl ⊢
   omega) (by
   intro i j hij hj r hr
   refine Ev_succ.mpr ?_
   simp only [impl_findPiece.l0]
   rw [Ev_pos (by omega), Ev_pos (by omega), Ev_pos (by omega), show ((i : Int) + (j : Int)) / 2 = (((i + j) / 2 : Nat) : Int) by omega, rdPiece, Ev_b0 (findPiece1_eq _ _ _), Ev_ite]
   by_cases hl : (l.getD ((i + j) / 2) z65).f0 < t
   ·rw [if_pos (by simpa using hl)] at hr
    rw [if_pos (by rw [if_pos hl]; omega)]
    exact hr
   ·rw [if_neg (by simpa using hl)] at hr
    rw [if_neg (by rw [if_neg hl]; split <;> omega)]
    exact hr) (by
   intro i
   refine Ev_succ.mpr ?_
   simp only [impl_findPiece.l0]
   rw [Ev_neg (by omega)]
   exact Ev_some.mpr rfl)
 have h2' : ∀ j, j < r → (l.getD j z65).f0 < t := fun j hj => by simpa using h2 j hj
 have h3' : ∀ j, r ≤ j → j < l.length → t ≤ (l.getD j z65).f0 := fun j hj hl => by simpa using h3 j hj hl
 by_cases hrl : r < l.length
 ·refine ⟨r, (if (l.getD r z65).f0 < t then (-1 : Int) else if (l.getD r z65).f0 > t then 1 else 0) == 0, ?_, h1, h2', h3', ?_⟩
  ·unfold impl_findPiece.f
   rw [Ev_bd hr, Ev_pos (by omega), Ev_pos (by omega), rdPiece, Ev_b0 (findPiece1_eq _ _ _)]
   exact Ev_some.mpr rfl
  ·rw [beq_iff_eq]
   constructor
   ·intro g
    refine ⟨hrl, ?_⟩
    by_cases q1 : (l.getD r z65).f0 < t
    ·rw [if_pos q1] at g; omega
    ·by_cases q2 : (l.getD r z65).f0 > t
     ·rw [if_neg q1, if_pos q2] at g; omega
     ·omega
   ·rintro ⟨-, g⟩
    rw [if_neg (by omega), if_neg (by omega)]
 ·refine ⟨r, false, ?_, h1, h2', h3', ?_⟩
  ·unfold impl_findPiece.f
   rw [Ev_bd hr, Ev_pos (by omega), Ev_neg (by omega)]
   exact Ev_some.mpr rfl
  ·exact ⟨fun g => by simp at g, fun g => absurd g.1 hrl⟩
def posP (l : List S65) (t : Int) : Nat := (l.takeWhile (fun b => decide (b.f0 < t))).length
theorem posP_le (l : List S65) (t : Int) : posP l t ≤ l.length := by
 unfold posP
 exact (List.takeWhile_sublist _).length_le
theorem posP_spec (l : List S65) (t : Int) : (∀ j, j < posP l t → (l.getD j z65).f0 < t) ∧ (posP l t < l.length → t ≤ (l.getD (posP l t) z65).f0) := by
 unfold posP
 induction l with
 | nil => exact ⟨fun j hj => by simp at hj, fun h => by simp at h⟩
 | cons a l ih =>
  rw [List.takeWhile_cons]
  by_cases h : a.f0 < t
  ·rw [if_pos (by simpa using h)]
   refine ⟨fun j hj => ?_, fun hj => ?_⟩
   ·cases j with
    | zero => simpa using h
    | succ j => simpa using ih.1 j (by simpa using hj)
   ·simpa using ih.2 (by simpa using hj)
  ·rw [if_neg (by simpa using h)]
   exact ⟨fun j hj => by simp at hj, fun _ => by simpa using h⟩
theorem posP_uniq {l : List S65} {t : Int} {r : Nat} (h0 : r ≤ l.length) (h1 : ∀ j, j < r → (l.getD j z65).f0 < t) (h2 : r < l.length → t ≤ (l.getD r z65).f0) : r = posP l t := by
 obtain ⟨g1, g2⟩ := posP_spec l t
 have g0 := posP_le l t
 rcases Nat.lt_trichotomy r (posP l t) with q | q | q
 ·have := g1 r q
  have := h2 (by omega)
  omega
 ·exact q
 ·have := h1 _ q
  have := g2 (by omega)
  omega
def hasP (l : List S65) (t : Int) : Prop := posP l t < l.length ∧ (l.getD (posP l t) z65).f0 = t
theorem hasP_iff {l : List S65} (h : storeValid l = true) (t : Int) : hasP l t ↔ ∃ v ∈ l, v.f0 = t := by
 obtain ⟨g1, g2⟩ := posP_spec l t
 have g0 := posP_le l t
 constructor
 ·rintro ⟨h1, h2⟩
  refine ⟨_, ?_, h2⟩
  rw [pieceAt l _ h1]
  exact List.getElem_mem _
 ·rintro ⟨v, hv, e⟩
  obtain ⟨i, hi, rfl⟩ := List.getElem_of_mem hv
  rw [← pieceAt l i hi] at e
  rcases Nat.lt_trichotomy i (posP l t) with q | q | q
  ·have := g1 i q; omega
  ·subst q; exact ⟨hi, e⟩
  ·have := store_less h _ i q hi
   have := g2 (by omega)
   omega
theorem store_once {l : List S65} (h : storeValid l = true) {v w : S65} (hv : v ∈ l) (hw : w ∈ l) (e : v.f0 = w.f0) : v = w := by
 obtain ⟨i, hi, rfl⟩ := List.getElem_of_mem hv
 obtain ⟨j, hj, rfl⟩ := List.getElem_of_mem hw
 rw [← pieceAt l i hi, ← pieceAt l j hj] at e ⊢
 rcases Nat.lt_trichotomy i j with q | q | q
 ·have := store_less h i j q hj; omega
 ·rw [q]
 ·have := store_less h j i q hi; omega
end Go.Proofs.Ytcbmkonigclceaa.Mod
