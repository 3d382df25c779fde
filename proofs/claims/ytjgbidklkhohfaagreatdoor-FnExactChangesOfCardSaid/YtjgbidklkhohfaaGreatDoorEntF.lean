/- What The search among entries. -/
import Derived.Test.YtjgbidklkhohfaaGreatDoorPx0
import Derived.Test.YtjgbidklkhohfaaGreatDoorPx6
import Derived.Test.YtjgbidklkhohfaaGreatDoorEnt
namespace Go.Proofs.YtjgbidklkhohfaaGreatDoor.Mod
open Go.RowKit Go.Proofs.YtjgbidklkhohfaaGreatDoor.P Go.Proofs.YtjgbidklkhohfaaGreatDoor.EvK Go.Proofs.YtjgbidklkhohfaaGreatDoorW.PrintWords Go.Proofs.YtjgbidklkhohfaaGreatDoorW.PrintLast
set_option linter.all false
theorem cmpStr_eq (a b : ByteArray) : cmp_Compare_string.f a b = some (cmpS a b) := by
 unfold cmp_Compare_string.f cmp_isNaN_string.f cmpS lessS
 simp only [bne_self_eq_false, Option.bind_some, Bool.false_eq_true, if_false]
 repeat' split
 all_goals rfl
theorem findEntry1_eq (a : ByteArray) (n : Int) (t : ByteArray) : impl_findEntry_1.f a n t = some (cmpS a t) := by
 unfold impl_findEntry_1.f
 rw [cmpStr_eq]
 rfl
theorem findEntry_p {l : List S75} (h : entriesValid l = true) (t : ByteArray) :
  ∃ r : Nat, ∃ b : Bool, Ev (fun k => impl_findEntry.f k l t) ((r : Int), b) ∧ r ≤ l.length ∧ (∀ j, j < r → lessS (l.getD j z75).f0 t = true) ∧ (∀ j, r ≤ j → j < l.length → lessS (l.getD j z75).f0 t = false) ∧ (b = true ↔ r < l.length ∧ (l.getD r z75).f0 = t) := by
 have hlen := entriesValid_len h
 obtain ⟨r, hr, h1, h2, h3⟩ := search_ev l z75 (fun x => x.f0) t (fun k i j => impl_findEntry.l0 k l t i j) (by omega)
  (fun i j hij hj hl => lessS_trans (entriesValid_less h j i hij hj) hl) (by
   intro i j hij hj r hr
   refine Ev_succ.mpr ?_
   simp only [impl_findEntry.l0]
   rw [Ev_pos (by omega), Ev_pos (by omega), Ev_pos (by omega), show ((i : Int) + (j : Int)) / 2 = (((i + j) / 2 : Nat) : Int) by omega, rdEntry, Ev_b0 (findEntry1_eq _ _ _), Ev_ite]
   by_cases hl : lessS (l.getD ((i + j) / 2) z75).f0 t = true
   ·rw [if_pos hl] at hr
    rw [if_pos (cmpS_neg.2 hl)]
    exact hr
   ·rw [if_neg hl] at hr
    rw [if_neg (fun g => hl (cmpS_neg.1 g))]
    exact hr) (by
   intro i
   refine Ev_succ.mpr ?_
   simp only [impl_findEntry.l0]
   rw [Ev_neg (by omega)]
   exact Ev_some.mpr rfl)
 by_cases hrl : r < l.length
 ·refine ⟨r, cmpS (l.getD r z75).f0 t == 0, ?_, h1, h2, h3, ?_⟩
  ·unfold impl_findEntry.f
   rw [Ev_bd hr, Ev_pos (by omega), Ev_pos (by omega), rdEntry, Ev_b0 (findEntry1_eq _ _ _)]
   exact Ev_some.mpr rfl
  ·rw [beq_iff_eq, cmpS_zero]
   exact ⟨fun g => ⟨hrl, g⟩, fun g => g.2⟩
 ·refine ⟨r, false, ?_, h1, h2, h3, ?_⟩
  ·unfold impl_findEntry.f
   rw [Ev_bd hr, Ev_pos (by omega), Ev_neg (by omega)]
   exact Ev_some.mpr rfl
  ·exact ⟨fun g => by simp at g, fun g => absurd g.1 hrl⟩
end Go.Proofs.YtjgbidklkhohfaaGreatDoor.Mod
