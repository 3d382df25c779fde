/- Marks: what the statements write over a result, to see that nothing else holds it. -/
import Derived.Test.YtjgbidklkhohfaaGreatDoorPx9
import Derived.Test.YtjgbidklkhohfaaGreatDoorEv
namespace Go.Proofs.YtjgbidklkhohfaaGreatDoor.Mod
open Go.RowKit Go.Proofs.YtjgbidklkhohfaaGreatDoor.P Go.Proofs.YtjgbidklkhohfaaGreatDoor.EvK Go.Proofs.YtjgbidklkhohfaaGreatDoorW.PrintWords Go.Proofs.YtjgbidklkhohfaaGreatDoorW.PrintLast
set_option linter.all false
theorem markText_ex (n : Int) (hn : n ≤ 1152921504606846976) : ∃ t, Ev (fun k => laws_markText.f k n) t := by
 have size1 : ∀ x : Int, (strOfNums [x]).size = 1 := fun x => rfl
 have key : ∀ (d : Nat) (n : Int) (s : ByteArray), n ≤ 1152921504606846976 → n.toNat ≤ d → s.size + d ≤ 2305843009213693952 → ∃ t, Ev (fun k => laws_markText.l0 k n s) t := by
  intro d
  induction d with
  | zero =>
   intro n s hn hd hs
   refine ⟨(⟨#[109]⟩ : ByteArray) ++ s, Ev_succ.mpr ?_⟩
   simp only [laws_markText.l0]
   rw [Ev_neg (by omega), Ev_pos (by omega)]
   exact Ev_some.mpr rfl
  | succ d ih =>
   intro n s hn hd hs
   by_cases h0 : n > 0
   ·have e : Int.tdiv n 10 = n / 10 := Int.tdiv_eq_ediv_of_nonneg (by omega)
    have hsz : (strOfNums [(wrap64 (48 + (Int.tmod n 10))) % 256] ++ s).size = 1 + s.size := by rw [ByteArray.size_append, size1]
    obtain ⟨t, ht⟩ := ih (n / 10) (strOfNums [(wrap64 (48 + (Int.tmod n 10))) % 256] ++ s) (by omega) (by omega) (by rw [hsz]; omega)
    refine ⟨t, Ev_succ.mpr ?_⟩
    simp only [laws_markText.l0, Option.bind_some]
    rw [Ev_pos h0, Ev_pos (by rw [size1]; omega), e, w64 (x := n / 10) (by omega) (by omega)]
    exact ht
   ·refine ⟨(⟨#[109]⟩ : ByteArray) ++ s, Ev_succ.mpr ?_⟩
    simp only [laws_markText.l0]
    rw [Ev_neg h0, Ev_pos (by omega)]
    exact Ev_some.mpr rfl
 unfold laws_markText.f
 by_cases h0 : n ≤ 0
 ·exact ⟨_, (Ev_pos h0).mpr (Ev_some.mpr rfl)⟩
 ·obtain ⟨t, ht⟩ := key n.toNat n ⟨#[]⟩ hn (Nat.le_refl _) (by
   have : (⟨#[]⟩ : ByteArray).size = 0 := rfl
   omega)
  exact ⟨t, (Ev_neg h0).mpr ht⟩
open Classical in
noncomputable def markT (n : Int) : ByteArray := if h : n ≤ 1152921504606846976 then Classical.choose (markText_ex n h) else ⟨#[]⟩
theorem markT_ev (n : Int) (h : n ≤ 1152921504606846976) : Ev (fun k => laws_markText.f k n) (markT n) := by
 unfold markT
 rw [dif_pos h]
 exact Classical.choose_spec (markText_ex n h)
theorem getD_set {β : Type} (xs : List β) (z v : β) (i : Nat) (h : i < xs.length) : (xs.set i v).getD i z = v := by
 simp [List.getD_eq_getElem?_getD, h]
theorem ev_mark {β : Type} (n : Nat) (e : Nat → β) (k0 : Int) (m : Nat) (g : Nat → List β → Int → Int → Option (Int × List β))
  (hs : ∀ (i : Nat) (acc : List β), i < n → acc.length = n → ∀ r, Ev (fun q => g q (acc.set i (e i)) (k0 + ((m * (i + 1) : Nat) : Int)) ((i + 1 : Nat) : Int)) r → Ev (fun q => g q acc (k0 + ((m * i : Nat) : Int)) (i : Int)) r)
  (he : ∀ acc : List β, acc.length = n → Ev (fun q => g q acc (k0 + ((m * n : Nat) : Int)) (n : Int)) (k0 + ((m * n : Nat) : Int), acc)) (acc : List β) (hl : acc.length = n) :
  Ev (fun q => g q acc k0 0) (k0 + ((m * n : Nat) : Int), (List.range n).map e) := by
 have key : ∀ d i (acc : List β), i + d = n → acc.length = n → acc.take i = ((List.range n).map e).take i → Ev (fun q => g q acc (k0 + ((m * i : Nat) : Int)) (i : Int)) (k0 + ((m * n : Nat) : Int), (List.range n).map e) := by
  intro d
  induction d with
  | zero =>
   intro i acc hi hl ht
   obtain rfl : i = n := by omega
   have : acc = (List.range i).map e := by
    rw [List.take_of_length_le (by omega), List.take_of_length_le (by simp)] at ht
    exact ht
   rw [← this]
   exact he acc hl
  | succ d ih =>
   intro i acc hi hl ht
   refine hs i acc (by omega) hl _ (ih (i + 1) _ (by omega) (by simpa using hl) ?_)
   apply List.ext_getElem?
   intro j
   have hj := congrArg (fun l => l[j]?) ht
   simp only [List.getElem?_take] at hj ⊢
   by_cases h1 : j < i
   ·rw [if_pos h1, if_pos h1] at hj
    rw [if_pos (by omega), if_pos (by omega), List.getElem?_set_ne (by omega)]
    exact hj
   ·by_cases h2 : j = i
    ·subst h2
     rw [if_pos (by omega), if_pos (by omega), List.getElem?_set_self (by omega)]
     simp [List.getElem?_range (show j < n by omega)]
    ·rw [if_neg (by omega), if_neg (by omega)]
 have := key n 0 acc (by omega) hl (by simp)
 simpa using this
theorem ev_held (n : Nat) (k0 : Int) (m : Nat) (g : Nat → Int → Int → Option Int)
  (hs : ∀ (i : Nat), i < n → ∀ r, Ev (fun q => g q (k0 + ((m * (i + 1) : Nat) : Int)) ((i + 1 : Nat) : Int)) r → Ev (fun q => g q (k0 + ((m * i : Nat) : Int)) (i : Int)) r)
  (he : Ev (fun q => g q (k0 + ((m * n : Nat) : Int)) (n : Int)) (k0 + ((m * n : Nat) : Int))) : Ev (fun q => g q k0 0) (k0 + ((m * n : Nat) : Int)) := by
 have key : ∀ d i, i + d = n → Ev (fun q => g q (k0 + ((m * i : Nat) : Int)) (i : Int)) (k0 + ((m * n : Nat) : Int)) := by
  intro d
  induction d with
  | zero =>
   intro i hi
   obtain rfl : i = n := by omega
   exact he
  | succ d ih =>
   intro i hi
   exact hs i (by omega) _ (ih (i + 1) (by omega))
 have := key n 0 (by omega)
 simpa using this
end Go.Proofs.YtjgbidklkhohfaaGreatDoor.Mod
