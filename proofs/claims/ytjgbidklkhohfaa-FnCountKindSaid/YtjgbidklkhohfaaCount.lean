/- What CountKind comes to. -/
import Derived.Test.YtjgbidklkhohfaaPx0
import Derived.Test.YtjgbidklkhohfaaPx11
import Derived.Test.YtjgbidklkhohfaaTChange
namespace Go.Proofs.Ytjgbidklkhohfaa.Mod
open Go.RowKit Go.Proofs.Ytjgbidklkhohfaa.P Go.Proofs.Ytjgbidklkhohfaa.EvK Go.Proofs.YtjgbidklkhohfaaW.PrintWords Go.Proofs.YtjgbidklkhohfaaW.PrintLast
set_option linter.all false
def countK (kind : Int) (l : List S37) : Nat := (l.filter (fun c => decide (c.f1 = kind))).length
theorem countK_le (kind : Int) (l : List S37) : countK kind l ≤ l.length := List.length_filter_le _ _
theorem countK_snoc (kind : Int) (l : List S37) (c : S37) : countK kind (l ++ [c]) = countK kind l + (if c.f1 = kind then 1 else 0) := by
 unfold countK
 rw [List.filter_append, List.length_append]
 by_cases h : c.f1 = kind <;> simp [h]
def ChangeSized (l : List S37) : Prop := l.length ≤ 9223372036854775807 ∧ ∀ v ∈ l, v.f0.size ≤ 9223372036854775807
theorem ev_countN {α : Type} (xs : List α) (z : α) (p : List α → Nat) (q : α → Nat) (hp : ∀ l c, p (l ++ [c]) = p l + q c) (hq : ∀ c, q c ≤ 1) (h0 : p [] = 0) (g : Nat → Int → Int → Option Int)
  (hs : ∀ (i : Nat) (m : Nat), i < xs.length → m ≤ i → ∀ r, Ev (fun k => g k ((m + q (xs.getD i z) : Nat) : Int) ((i + 1 : Nat) : Int)) r → Ev (fun k => g k (m : Int) (i : Int)) r)
  (he : ∀ m : Nat, Ev (fun k => g k (m : Int) (xs.length : Int)) (m : Int)) : Ev (fun k => g k 0 0) (p xs : Int) := by
 have key : ∀ d i, i + d = xs.length → p (xs.take i) ≤ i → Ev (fun k => g k (p (xs.take i) : Int) (i : Int)) (p xs : Int) := by
  intro d
  induction d with
  | zero =>
   intro i hi _
   obtain rfl : i = xs.length := by omega
   rw [List.take_length]
   exact he _
  | succ d ih =>
   intro i hi hle
   refine hs i _ (by omega) hle _ ?_
   have e : xs.take (i + 1) = xs.take i ++ [xs.getD i z] := by
    rw [List.take_succ_eq_append_getElem (show i < xs.length by omega)]
    simp [List.getD_eq_getElem?_getD, List.getElem?_eq_getElem (show i < xs.length by omega)]
   have e2 := hp (xs.take i) (xs.getD i z)
   rw [← e] at e2
   rw [← e2]
   exact ih (i + 1) (by omega) (by have := hq (xs.getD i z); omega)
 have := key xs.length 0 (by omega) (by simp [h0])
 simpa [h0] using this
theorem spec_count_ev (l : List S37) (kind : Int) (hl : ChangeSized l) : Ev (fun k => spec_CountKind.f k l kind) (countK kind l : Int) := by
 have hl := hl.1
 unfold spec_CountKind.f
 refine ev_countN l z37 (countK kind) (fun c => if c.f1 = kind then 1 else 0) (countK_snoc kind) (fun c => by split <;> omega) rfl (fun k m i => spec_CountKind.l0 k l kind m i) ?_ ?_
 ·intro i m hi hm r hr
  refine Ev_succ.mpr ?_
  simp only [spec_CountKind.l0, rdChange, w64s i (by omega), w64s m (by omega), Ev_ite]
  rw [if_pos (by omega), if_pos (by omega)]
  by_cases h : (l.getD i z37).f1 = kind
  ·rw [if_pos h]
   simp only [if_pos h] at hr
   exact hr
  ·rw [if_neg h]
   simp only [if_neg h] at hr
   exact hr
 ·intro m
  refine Ev_succ.mpr ?_
  simp [spec_CountKind.l0, Ev_some]
theorem impl_count_ev (l : List S37) (kind : Int) (hl : ChangeSized l) : Ev (fun k => impl_CountKind.f k l kind) (countK kind l : Int) := by
 have hl := hl.1
 unfold impl_CountKind.f
 refine ev_countN l z37 (countK kind) (fun c => if c.f1 = kind then 1 else 0) (countK_snoc kind) (fun c => by split <;> omega) rfl (fun k m i => impl_CountKind.l0 k kind m l l.length i) ?_ ?_
 ·intro i m hi hm r hr
  refine Ev_succ.mpr ?_
  simp only [impl_CountKind.l0, rdChange, w64s i (by omega), w64s m (by omega), Ev_ite]
  rw [if_pos (by omega), if_pos (by omega), if_pos (by omega)]
  by_cases h : (l.getD i z37).f1 = kind
  ·rw [if_pos h]
   simp only [if_pos h] at hr
   exact hr
  ·rw [if_neg h]
   simp only [if_neg h] at hr
   exact hr
 ·intro m
  refine Ev_succ.mpr ?_
  simp [impl_CountKind.l0, Ev_some]
end Go.Proofs.Ytjgbidklkhohfaa.Mod
