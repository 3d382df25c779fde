/- What WalkTo and ReadAt come to. -/
import Derived.Test.YtjgbidklkhohfaaPx0
import Derived.Test.YtjgbidklkhohfaaPx3
import Derived.Test.YtjgbidklkhohfaaPx10
import Derived.Test.YtjgbidklkhohfaaPx11
import Derived.Test.YtjgbidklkhohfaaGet
namespace Go.Proofs.Ytjgbidklkhohfaa.Mod
open Go.RowKit Go.Proofs.Ytjgbidklkhohfaa.P Go.Proofs.Ytjgbidklkhohfaa.EvK Go.Proofs.YtjgbidklkhohfaaW.PrintWords Go.Proofs.YtjgbidklkhohfaaW.PrintLast
set_option linter.all false
noncomputable def walkL (l : List S45) : Int → List ByteArray → Int × Bool
 | t, [] => if (getP l t).2 = true then (t, true) else (-1, false)
 | t, n :: ns => if (namedP (folderP l t).1 n).2 = true then walkL l (namedP (folderP l t).1 n).1 ns else (-1, false)
noncomputable def walkTo (l : List S45) (root : Int) (p : ByteArray) : Int × Bool := if (pathParts p).2 = true ∧ storeValid l = true then walkL l root (pathParts p).1 else (-1, false)
noncomputable def readAt (l : List S45) (root : Int) (p : ByteArray) : ByteArray × Bool := if (walkTo l root p).2 = true then fileP l (walkTo l root p).1 else ((⟨#[]⟩ : ByteArray), false)
theorem spec_l9_ev {l : List S45} (h : storeValid l = true) (root : Int) (ps : List ByteArray) (hps : ps.length ≤ 1048576) : Ev (fun k => spec_l9Walk.f k l root ps) (walkL l root ps) := by
 unfold spec_l9Walk.f
 have h40 := (storeValid_iff.1 h).1
 have key : ∀ d i (t : Int), i + d = ps.length → Ev (fun k => spec_l9Walk.l0 k l t ps (i : Int)) (walkL l t (ps.drop i)) := by
  intro d
  induction d with
  | zero =>
   intro i t hi
   refine Ev_succ.mpr ?_
   simp only [spec_l9Walk.l0]
   rw [Ev_neg (by omega), Ev_bd (spec_l4_ev l t (by omega)), List.drop_eq_nil_of_le (by omega), walkL, Ev_ite]
   split <;> exact Ev_some.mpr rfl
  | succ d ih =>
   intro i t hi
   refine Ev_succ.mpr ?_
   have hs := getP_size h t
   have hfp : readFolder (getP l t).1 = folderP l t := rfl
   simp only [spec_l9Walk.l0]
   rw [Ev_pos (by omega), Ev_bd (spec_l4_ev l t (by omega)), Ev_bd (spec_readFolder_ev _ (by omega)), hfp, drop_cons ps ByteArray.empty i (by omega), walkL]
   have hfv : entriesValid (folderP l t).1 = true := folderP_valid
   have hlen := entriesValid_len hfv
   by_cases hf : (folderP l t).2 = true
   ·rw [hf]
    generalize (folderP l t).1 = L at *
    have inner : ∀ d2 j, j + d2 = L.length → Ev (fun k => spec_l9Walk.l1 k l t ps (i : Int) L true false (j : Int)) (if (namedP (L.drop j) (ps.getD i ByteArray.empty)).2 = true then walkL l (namedP (L.drop j) (ps.getD i ByteArray.empty)).1 (ps.drop (i + 1)) else (-1, false)) := by
     intro d2
     induction d2 with
     | zero =>
      intro j hj
      refine Ev_succ.mpr ?_
      simp only [spec_l9Walk.l1]
      rw [Ev_neg (by omega), List.drop_eq_nil_of_le (by omega), Ev_neg (by simp), if_neg (by simp [namedP])]
      exact Ev_some.mpr rfl
     | succ d2 ih2 =>
      intro j hj
      refine Ev_succ.mpr ?_
      simp only [spec_l9Walk.l1, rdEntry, rdS_nat, w64s i (by omega), w64s j (by omega)]
      rw [Ev_pos (by omega), Ev_pos trivial, Ev_pos (by omega), Ev_pos (by omega), Ev_pos (by omega), drop_cons L z79 j (by omega), namedP, Ev_ite]
      by_cases he : (L.getD j z79).f0 = ps.getD i ByteArray.empty
      ·rw [if_pos (by rw [he]), if_pos he, if_pos rfl]
       exact ih (i + 1) _ (by omega)
      ·rw [if_neg (fun g => he (toList_iff.1 g)), if_neg he]
       exact ih2 (j + 1) (by omega)
    exact inner L.length 0 (by omega)
   ·have e := folderP_not hf
    rw [e]
    refine Ev_succ.mpr ?_
    simp only [spec_l9Walk.l1]
    rw [Ev_neg (by simp), Ev_neg (by simp), if_neg (by simp [namedP])]
    exact Ev_some.mpr rfl
 exact key ps.length 0 root (by omega)
theorem spec_walk_ev (l : List S45) (root : Int) (p : ByteArray) (hl : StoreSized l) (hp : p.size ≤ 4294967200) : Ev (fun k => spec_WalkTo.f k l root p) (walkTo l root p) := by
 unfold spec_WalkTo.f walkTo
 rw [Ev_bd (spec_pathParts_ev p hp), Ev_ite]
 have h3 := (pathOk_iff.1 (pathParts_ok p)).1
 by_cases hb : (pathParts p).2 = true
 ·rw [if_pos hb, Ev_bd (spec_store_ev l hl), Ev_ite]
  by_cases h : storeValid l = true
  ·rw [if_pos h, if_pos ⟨hb, h⟩, Ev_bd (spec_l9_ev h root _ (by omega))]
   exact Ev_some.mpr rfl
  ·rw [if_neg h, if_neg (fun g => h g.2)]
   exact Ev_some.mpr rfl
 ·rw [if_neg hb, if_neg (fun g => hb g.1)]
  exact Ev_some.mpr rfl
theorem spec_readAt_ev (l : List S45) (root : Int) (p : ByteArray) (hl : StoreSized l) (hp : p.size ≤ 4294967200) : Ev (fun k => spec_ReadAt.f k l root p) (readAt l root p) := by
 unfold spec_ReadAt.f readAt
 have hn := hl.1
 rw [Ev_bd (spec_walk_ev l root p hl hp)]
 have hg : ∀ t, Ev (fun k => spec_GetText.f k l t) (if storeValid l = true then getP l t else ((⟨#[]⟩ : ByteArray), false)) := by
  intro t
  unfold spec_GetText.f
  rw [Ev_bd (spec_store_ev l hl), Ev_ite]
  split
  ·rw [Ev_bd (spec_l4_ev l t hn)]
   exact Ev_some.mpr rfl
  ·exact Ev_some.mpr rfl
 rw [Ev_bd (hg _), Ev_ite]
 by_cases h : (walkTo l root p).2 = true
 ·have hv : storeValid l = true := by
   unfold walkTo at h
   split at h
   ·rename_i g; exact g.2
   ·simp at h
  have hs := getP_size hv (walkTo l root p).1
  rw [if_pos h, if_pos h, if_pos hv, Ev_bd (spec_readFile_ev _ (by omega))]
  exact Ev_some.mpr rfl
 ·rw [if_neg h, if_neg h]
  exact Ev_some.mpr rfl
end Go.Proofs.Ytjgbidklkhohfaa.Mod
