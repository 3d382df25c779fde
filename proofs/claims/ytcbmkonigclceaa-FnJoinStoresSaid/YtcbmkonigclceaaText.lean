/- What TextValid comes to. -/
import Derived.Test.YtcbmkonigclceaaPx0
import Derived.Test.YtcbmkonigclceaaBase
namespace Go.Proofs.Ytcbmkonigclceaa.Mod
open Go.RowKit Go.Proofs.Ytcbmkonigclceaa.P Go.Proofs.Ytcbmkonigclceaa.EvK Go.Proofs.YtcbmkonigclceaaW.PrintWords Go.Proofs.YtcbmkonigclceaaW.PrintLast
set_option linter.all false
def textValid (s : ByteArray) : Bool := allN s.size (fun k => inB ((bytesOf s).getD k 0) 32 126) && decide ((s.size : Int) ≤ 60)
theorem textValid_size {s : ByteArray} (h : textValid s = true) : s.size ≤ 60 := by
 unfold textValid at h
 simp only [Bool.and_eq_true, decide_eq_true_eq] at h
 omega
theorem spec_text_ev (s : ByteArray) (hs : s.size ≤ 9223372036854775807) : Ev (fun k => spec_TextValid.f k s) (textValid s) := by
 unfold spec_TextValid.f textValid
 refine ev_allN s.size (fun k i => spec_TextValid.l0 k s i) _ _ ?_ ?_
 ·intro i hi r hr
  refine Ev_succ.mpr ?_
  simp only [spec_TextValid.l0, bt_getD, w64s i (by omega), Ev_ite]
  generalize (bytesOf s).getD i 0 = c at hr ⊢
  rw [if_pos (by omega), if_pos (by omega)]
  by_cases hw : 32 ≤ c ∧ c ≤ 126
  ·rw [if_pos (inB_iff.2 hw)] at hr
   rw [if_neg (by omega), if_neg (by omega)]
   exact hr
  ·rw [if_neg (fun h => hw (inB_iff.1 h))] at hr
   repeat' split
   all_goals first | exact Ev_some.mpr hr | (exfalso; omega)
 ·refine Ev_succ.mpr ?_
  simp [spec_TextValid.l0, Ev_some]
theorem impl_text_ev (s : ByteArray) (hs : s.size ≤ 9223372036854775807) : Ev (fun k => impl_TextValid.f k s) (textValid s) := by
 unfold impl_TextValid.f textValid
 rw [Ev_ite]
 by_cases h : (s.size : Int) > 60
 ·rw [if_pos h, decide_eq_false (by omega), Bool.and_false]
  exact Ev_some.mpr rfl
 ·rw [if_neg h, decide_eq_true (by omega)]
  refine ev_allN s.size (fun k i => impl_TextValid.l0 k s i) _ _ ?_ ?_
  ·intro i hi r hr
   refine Ev_succ.mpr ?_
   simp only [impl_TextValid.l0, bt_getD, w64s i (by omega), Ev_ite]
   generalize (bytesOf s).getD i 0 = c at hr ⊢
   rw [if_pos (by omega), if_pos (by omega)]
   by_cases hw : 32 ≤ c ∧ c ≤ 126
   ·rw [if_pos (inB_iff.2 hw)] at hr
    rw [if_neg (by omega), if_neg (by omega)]
    exact hr
   ·rw [if_neg (fun h => hw (inB_iff.1 h))] at hr
    repeat' split
    all_goals first | exact Ev_some.mpr hr | (exfalso; omega)
  ·refine Ev_succ.mpr ?_
   simp [impl_TextValid.l0, Ev_some]
end Go.Proofs.Ytcbmkonigclceaa.Mod
