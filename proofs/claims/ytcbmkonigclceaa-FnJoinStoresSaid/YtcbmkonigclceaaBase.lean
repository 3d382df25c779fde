/- What the smallest functions of the program and of the reference come to: words, texts, prints, sides. -/
import Derived.Test.YtcbmkonigclceaaPx0
import Derived.Test.YtcbmkonigclceaaPx2
import Derived.Test.YtcbmkonigclceaaEv
namespace Go.Proofs.Ytcbmkonigclceaa.Mod
open Go.RowKit Go.Proofs.Ytcbmkonigclceaa.P Go.Proofs.Ytcbmkonigclceaa.EvK Go.Proofs.YtcbmkonigclceaaW.PrintWords Go.Proofs.YtcbmkonigclceaaW.PrintLast
set_option linter.all false

def inB (a l h : Int) : Bool := decide (l ≤ a ∧ a ≤ h)
theorem l1In_eq (a l h : Int) : spec_l1In.f a l h = some (inB a l h) := by
 unfold spec_l1In.f inB
 by_cases h1 : a ≥ l <;> by_cases h2 : a ≤ h <;> simp [h1, h2] <;> omega
theorem inB_iff {a l h : Int} : inB a l h = true ↔ l ≤ a ∧ a ≤ h := by simp [inB]
theorem isDigit_eq (c : Int) : impl_isDigit.f c = some (inB c 48 57) := by
 unfold impl_isDigit.f inB
 by_cases h1 : c ≥ 48 <;> by_cases h2 : c ≤ 57 <;> simp [h1, h2] <;> omega
theorem isSmall_eq (c : Int) : impl_isSmall.f c = some (inB c 97 122) := by
 unfold impl_isSmall.f inB
 by_cases h1 : c ≥ 97 <;> by_cases h2 : c ≤ 122 <;> simp [h1, h2] <;> omega

def wchar (k : Nat) (c : Int) : Bool := inB c 97 122 || (decide (k ≠ 0) && inB c 48 57)
def wordValid (s : ByteArray) : Bool := allN s.size (fun k => wchar k ((bytesOf s).getD k 0)) && inB s.size 1 8
theorem spec_word_ev (s : ByteArray) (hs : s.size ≤ 9223372036854775807) : Ev (fun k => spec_WordValid.f k s) (wordValid s) := by
 unfold spec_WordValid.f wordValid
 refine ev_allN s.size (fun k i => spec_WordValid.l0 k s i) _ _ ?_ ?_
 ·intro i hi r hr
  refine Ev_succ.mpr ?_
  simp only [spec_WordValid.l0, bt_getD, w64s i (by omega), Ev_ite]
  generalize (bytesOf s).getD i 0 = c at hr ⊢
  rw [if_pos (by omega), if_pos (by omega)]
  by_cases hw : (97 ≤ c ∧ c ≤ 122) ∨ (i ≠ 0 ∧ 48 ≤ c ∧ c ≤ 57)
  ·have e : wchar i c = true := by simp [wchar, inB]; omega
   rw [if_pos e] at hr
   repeat' split
   all_goals first | exact hr | (exfalso; omega)
  ·have e : ¬ wchar i c = true := by simp [wchar, inB]; omega
   rw [if_neg e] at hr
   repeat' split
   all_goals first | exact Ev_some.mpr hr | (exfalso; omega)
 ·refine Ev_succ.mpr ?_
  simp [spec_WordValid.l0, l1In_eq, Ev_some]
theorem impl_word_ev (s : ByteArray) (hs : s.size ≤ 9223372036854775807) : Ev (fun k => impl_WordValid.f k s) (wordValid s) := by
 have hj1 : Ev (fun k => impl_WordValid.j0 k s true) false := Ev_succ.mpr (by simp [impl_WordValid.j0, Ev_some])
 have hl : Ev (fun k => impl_WordValid.l0 k s 0) (allN s.size (fun k => inB ((bytesOf s).getD k 0) 97 122 || inB ((bytesOf s).getD k 0) 48 57) && true) := by
  refine ev_allN s.size (fun k i => impl_WordValid.l0 k s i) _ _ ?_ ?_
  ·intro i hi r hr
   refine Ev_succ.mpr ?_
   simp only [impl_WordValid.l0, bt_getD, w64s i (by omega), isSmall_eq, isDigit_eq, Option.bind_some, Ev_ite]
   rw [if_pos (by omega), if_pos (by omega)]
   by_cases h1 : inB ((bytesOf s).getD i 0) 97 122 = true <;> by_cases h2 : inB ((bytesOf s).getD i 0) 48 57 = true <;> simp_all [Ev_some]
  ·refine Ev_succ.mpr ?_
   simp [impl_WordValid.l0, Ev_some]
 unfold impl_WordValid.f wordValid
 simp only [Ev_ite, isDigit_eq, Option.bind_some]
 by_cases h1 : (s.size : Int) < 1
 ·rw [if_pos h1]
  have : inB s.size 1 8 = false := by simp [inB]; omega
  rw [this, Bool.and_false]
  exact hj1
 rw [if_neg h1]
 by_cases h2 : (s.size : Int) > 8
 ·rw [if_pos h2]
  have : inB s.size 1 8 = false := by simp [inB]; omega
  rw [this, Bool.and_false]
  exact hj1
 rw [if_neg h2, if_pos (by omega)]
 have e : inB s.size 1 8 = true := by simp [inB]; omega
 have b0 : bt s 0 = (bytesOf s).getD 0 0 := bt_getD s 0
 rw [e, Bool.and_true, b0]
 by_cases h3 : inB ((bytesOf s).getD 0 0) 48 57 = true
 ·rw [h3]
  have : allN s.size (fun k => wchar k ((bytesOf s).getD k 0)) = false := by
   rw [Bool.eq_false_iff]
   intro h
   have := allN_iff.1 h 0 (by omega)
   unfold wchar inB at this
   unfold inB at h3
   simp at this h3
   omega
  rw [this]
  exact hj1
 ·have h3' : inB ((bytesOf s).getD 0 0) 48 57 = false := by simpa using h3
  rw [h3']
  refine Ev_succ.mpr ?_
  simp only [impl_WordValid.j0, Ev_ite]
  rw [if_neg (by simp)]
  rw [Bool.and_true] at hl
  have : allN s.size (fun k => wchar k ((bytesOf s).getD k 0)) = allN s.size (fun k => inB ((bytesOf s).getD k 0) 97 122 || inB ((bytesOf s).getD k 0) 48 57) := by
   refine allN_congr (fun i hi => ?_)
   by_cases h0 : i = 0
   ·subst h0
    simp only [wchar, h3', Bool.or_false, Bool.and_false]
   ·simp only [wchar, ne_eq, h0, not_false_eq_true, decide_true, Bool.true_and]
  rw [this]
  exact hl
theorem alive_ev : Ev (fun k => laws_alive.f k) true := by
 unfold laws_alive.f
 rw [Ev_bd (impl_word_ev _ (by decide))]
 rw [Ev_ite, if_pos (by decide)]
 rw [Ev_bd (impl_word_ev _ (by decide)), Ev_some]
 decide
end Go.Proofs.Ytcbmkonigclceaa.Mod
