/- What WalkTo and ReadAt come to. -/
import Derived.Test.YtcbmkonigclceaaPx0
import Derived.Test.YtcbmkonigclceaaPx4
import Derived.Test.YtcbmkonigclceaaGet
namespace Go.Proofs.Ytcbmkonigclceaa.Mod
open Go.RowKit Go.Proofs.Ytcbmkonigclceaa.P Go.Proofs.Ytcbmkonigclceaa.EvK Go.Proofs.YtcbmkonigclceaaW.PrintWords Go.Proofs.YtcbmkonigclceaaW.PrintLast
set_option linter.all false
noncomputable def walkL (l : List S65) : Int → List ByteArray → Int × Bool
 | t, [] => if (getP l t).2 = true then (t, true) else (-1, false)
 | t, n :: ns => if (namedP (folderP l t).1 n).2 = true then walkL l (namedP (folderP l t).1 n).1 ns else (-1, false)
noncomputable def walkTo (l : List S65) (root : Int) (p : ByteArray) : Int × Bool := if (pathParts p).2 = true ∧ storeValid l = true then walkL l root (pathParts p).1 else (-1, false)
noncomputable def readAt (l : List S65) (root : Int) (p : ByteArray) : ByteArray × Bool := if (walkTo l root p).2 = true then fileP l (walkTo l root p).1 else ((⟨#[]⟩ : ByteArray), false)
theorem spec_l9_ev {l : List S65} (h : storeValid l = true) (root : Int) (ps : List ByteArray) (hps : ps.length ≤ 1048576) : Ev (fun k => spec_l9Walk.f k l root ps) (walkL l root ps) := by
 unfold spec_l9Walk.f
 have h40 := (storeValid_iff.1 h).1
 have key : ∀ d i (t : Int), i + d = ps.length → Ev (fun k => spec_l9Walk.l0 k l t ps (i : Int)) (walkL l t (ps.drop i)) := by
  intro d
  induction d with
  | zero =>
   intro i t hi
   refine Ev_succ.mpr ?_
   simp only [spec_l9Walk.l0]
   rw [Ev_neg (by omega), Ev_bd (spec_l4_ev l t (by omega)), List.drop_eq_nil_of_le (by omega), walkL, Ev_ite]
   split <;> exact Ev_some.mpr rfl
  | succ d ih =>
   intro i t hi
   refine Ev_succ.mpr ?_
   have hs := getP_size h t
   have hfp : readFolder (getP l t).1 = folderP l t := rfl
   simp only [spec_l9Walk.l0]
   rw [Ev_pos (by omega), Ev_bd (spec_l4_ev l t (by omega)), Ev_bd (spec_readFolder_ev _ (by omega)), hfp, drop_cons ps ByteArray.empty i (by omega), walkL]
   have hfv : entriesValid (folderP l t).1 = true := folderP_valid
   have hlen := entriesValid_len hfv
   by_cases hf : (folderP l t).2 = true
   ·rw [hf]
    generalize (folderP l t).1 = L at *
    have inner : ∀ d2 j, j + d2 = L.length → Ev (fun k => spec_l9Walk.l1 k l t ps (i : Int) L true false (j : Int)) (if (namedP (L.drop j) (ps.getD i ByteArray.empty)).2 = true then walkL l (namedP (L.drop j) (ps.getD i ByteArray.empty)).1 (ps.drop (i + 1)) else (-1, false)) := by
     intro d2
     induction d2 with
     | zero =>
      intro j hj
      refine Ev_succ.mpr ?_
      simp only [spec_l9Walk.l1]
      rw [Ev_neg (by omega), List.drop_eq_nil_of_le (by omega), Ev_neg (by simp), if_neg (by simp [namedP])]
      exact Ev_some.mpr rfl
     | succ d2 ih2 =>
      intro j hj
      refine Ev_succ.mpr ?_
      simp only [spec_l9Walk.l1, rdEntry, rdS_nat, w64s i (by omega), w64s j (by omega)]
      rw [Ev_pos (by omega), Ev_pos trivial, Ev_pos (by omega), Ev_pos (by omega), Ev_pos (by omega), drop_cons L z109 j (by omega), namedP, Ev_ite]
      by_cases he : (L.getD j z109).f0 = ps.getD i ByteArray.empty
      ·rw [if_pos (by rw [he]), if_pos he, if_pos rfl]
       exact ih (i + 1) _ (by omega)
      ·rw [if_neg (fun g => he (toList_iff.1 g)), if_neg he]
       exact ih2 (j + 1) (by omega)
    exact inner L.length 0 (by omega)
   ·have e := folderP_not hf
    rw [e]
    refine Ev_succ.mpr ?_
    simp only [spec_l9Walk.l1]
    rw [Ev_neg (by simp), Ev_neg (by simp), if_neg (by simp [namedP])]
    exact Ev_some.mpr rfl
 exact key ps.length 0 root (by omega)
end Go.Proofs.Ytcbmkonigclceaa.Mod
