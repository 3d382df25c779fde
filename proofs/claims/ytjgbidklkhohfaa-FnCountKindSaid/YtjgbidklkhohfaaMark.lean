/- Marks: what the statements write over a result, to see that nothing else holds it. -/
import Derived.Test.YtjgbidklkhohfaaPx0

import Derived.Test.YtjgbidklkhohfaaEv
namespace Go.Proofs.Ytjgbidklkhohfaa.Mod
open Go.RowKit Go.Proofs.Ytjgbidklkhohfaa.P Go.Proofs.Ytjgbidklkhohfaa.EvK Go.Proofs.YtjgbidklkhohfaaW.PrintWords Go.Proofs.YtjgbidklkhohfaaW.PrintLast
set_option linter.all false
theorem getD_set {β : Type} (xs : List β) (z v : β) (i : Nat) (h : i < xs.length) : (xs.set i v).getD i z = v := by
 simp [List.getD_eq_getElem?_getD, h]
theorem ev_mark {β : Type} (n : Nat) (e : Nat → β) (k0 : Int) (m : Nat) (g : Nat → List β → Int → Int → Option (Int × List β))
  (hs : ∀ (i : Nat) (acc : List β), i < n → acc.length = n → ∀ r, Ev (fun q => g q (acc.set i (e i)) (k0 + ((m * (i + 1) : Nat) : Int)) ((i + 1 : Nat) : Int)) r → Ev (fun q => g q acc (k0 + ((m * i : Nat) : Int)) (i : Int)) r)
  (he : ∀ acc : List β, acc.length = n → Ev (fun q => g q acc (k0 + ((m * n : Nat) : Int)) (n : Int)) (k0 + ((m * n : Nat) : Int), acc)) (acc : List β) (hl : acc.length = n) :
  Ev (fun q => g q acc k0 0) (k0 + ((m * n : Nat) : Int), (List.range n).map e) := by
 have key : ∀ d i (acc : List β), i + d = n → acc.length = n → acc.take i = ((List.range n).map e).take i → Ev (fun q => g q acc (k0 + ((m * i : Nat) : Int)) (i : Int)) (k0 + ((m * n : Nat) : Int), (List.range n).map e) := by
  intro d
  induction d with
  | zero =>
   intro i acc hi hl ht
   obtain rfl : i = n := by omega
   have : acc = (List.range i).map e := by
    rw [List.take_of_length_le (by omega), List.take_of_length_le (by simp)] at ht
    exact ht
   rw [← this]
   exact he acc hl
  | succ d ih =>
   intro i acc hi hl ht
   refine hs i acc (by omega) hl _ (ih (i + 1) _ (by omega) (by simpa using hl) ?_)
   apply List.ext_getElem?
   intro j
   have hj := congrArg (fun l => l[j]?) ht
   simp only [List.getElem?_take] at hj ⊢
   by_cases h1 : j < i
   ·rw [if_pos h1, if_pos h1] at hj
    rw [if_pos (by omega), if_pos (by omega), List.getElem?_set_ne (by omega)]
    exact hj
   ·by_cases h2 : j = i
    ·subst h2
     rw [if_pos (by omega), if_pos (by omega), List.getElem?_set_self (by omega)]
     simp [List.getElem?_range (show j < n by omega)]
    ·rw [if_neg (by omega), if_neg (by omega)]
 have := key n 0 acc (by omega) hl (by simp)
 simpa using this
theorem ev_held (n : Nat) (k0 : Int) (m : Nat) (g : Nat → Int → Int → Option Int)
  (hs : ∀ (i : Nat), i < n → ∀ r, Ev (fun q => g q (k0 + ((m * (i + 1) : Nat) : Int)) ((i + 1 : Nat) : Int)) r → Ev (fun q => g q (k0 + ((m * i : Nat) : Int)) (i : Int)) r)
  (he : Ev (fun q => g q (k0 + ((m * n : Nat) : Int)) (n : Int)) (k0 + ((m * n : Nat) : Int))) : Ev (fun q => g q k0 0) (k0 + ((m * n : Nat) : Int)) := by
 have key : ∀ d i, i + d = n → Ev (fun q => g q (k0 + ((m * i : Nat) : Int)) (i : Int)) (k0 + ((m * n : Nat) : Int)) := by
  intro d
  induction d with
  | zero =>
   intro i hi
   obtain rfl : i = n := by omega
   exact he
  | succ d ih =>
   intro i hi
   exact hs i (by omega) _ (ih (i + 1) (by omega))
 have := key n 0 (by omega)
 simpa using this
end Go.Proofs.Ytjgbidklkhohfaa.Mod
