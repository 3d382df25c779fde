/- What the functions over files come to. -/
import Derived.Test.YtjgbidklkhohfaaGreatDoorPx0
import Derived.Test.YtjgbidklkhohfaaGreatDoorPx17
import Derived.Test.YtjgbidklkhohfaaGreatDoorFilesS
import Derived.Test.YtjgbidklkhohfaaGreatDoorTexts
import Derived.Test.YtjgbidklkhohfaaGreatDoorWalk
namespace Go.Proofs.YtjgbidklkhohfaaGreatDoor.Mod
open Go.RowKit Go.Proofs.YtjgbidklkhohfaaGreatDoor.P Go.Proofs.YtjgbidklkhohfaaGreatDoor.EvK Go.Proofs.YtjgbidklkhohfaaGreatDoorW.PrintWords Go.Proofs.YtjgbidklkhohfaaGreatDoorW.PrintLast
set_option linter.unusedVariables false
set_option linter.unusedSimpArgs false
/-- Two folders hold the same files. -/
noncomputable def sameOn (l : List S46) (r1 r2 : Int) (F : List ByteArray) : Bool := F.all (fun p => eqb (readAt l r1 p).1 (readAt l r2 p).1)
noncomputable def sameFiles (l : List S46) (r1 r2 : Int) : Bool := if storeValid l = true then (if allFiles l r1 = allFiles l r2 then sameOn l r1 r2 (allFiles l r1) else false) else false
theorem equalTexts_ev (a b : List ByteArray) (ha : a.length ≤ 9223372036854775807) : Ev (fun k => slices_Equal_string_string.f k a b) (eqb a b) := by
  unfold slices_Equal_string_string.f
  rw [Ev_ite]
  by_cases h : (a.length : Int) = (b.length : Int)
  · rw [if_pos h]
    refine ev_eqS a b ByteArray.empty (fun k i => slices_Equal_string_string.l0 k a b (a.length : Int) i) (by omega) ?_ ?_
    · intro i hi r hr
      refine Ev_succ.mpr ?_
      simp only [slices_Equal_string_string.l0, rdT_nat, w64s i (by omega), Ev_ite]
      rw [if_pos (by omega), if_pos (by omega), if_pos (by omega), if_pos (by omega)]
      by_cases he : a.getD i ByteArray.empty = b.getD i ByteArray.empty
      · rw [if_pos (eqb_iff.2 he)] at hr
        rw [if_pos (by rw [he])]
        exact hr
      · rw [if_neg (fun g => he (eqb_iff.1 g))] at hr
        rw [if_neg (fun g => he (toList_iff.1 g))]
        exact Ev_some.mpr hr
    · refine Ev_succ.mpr ?_
      simp only [slices_Equal_string_string.l0, Ev_ite]
      rw [if_neg (by omega)]
      exact Ev_some.mpr rfl
  · rw [if_neg h, eqb_ne (fun e => h (by rw [e]))]
    exact Ev_some.mpr rfl
theorem impl_same_ev (l : List S46) (r1 r2 : Int) (hl : StoreSized l) : Ev (fun k => impl_SameFiles.f k l r1 r2) (sameFiles l r1 r2) := by
  unfold impl_SameFiles.f sameFiles
  rw [Ev_bd (impl_store_ev l hl), Ev_ite]
  by_cases h : storeValid l = true
  case neg => rw [if_neg h, if_neg h]; exact Ev_some.mpr rfl
  have h27 := allFiles_len l r1
  have h28 := allFiles_size l r1
  rw [if_pos h, if_pos h, Ev_bd (impl_files_ev l r1 hl), Ev_bd (impl_files_ev l r2 hl), Ev_bd (equalTexts_ev _ _ (by omega)), Ev_ite]
  by_cases he : allFiles l r1 = allFiles l r2
  case neg => rw [if_neg (fun g => he (eqb_iff.1 g)), if_neg he]; exact Ev_some.mpr rfl
  rw [if_pos (eqb_iff.2 he), if_pos he]
  generalize allFiles l r1 = F at *
  have key : ∀ d i, i + d = F.length → Ev (fun k => impl_SameFiles.l0 k l r1 r2 F (F.length : Int) (i : Int)) (sameOn l r1 r2 (F.drop i)) := by
    intro d
    induction d with
    | zero =>
      intro i hi
      refine Ev_succ.mpr ?_
      simp only [impl_SameFiles.l0]
      rw [Ev_neg (by omega), List.drop_eq_nil_of_le (by omega)]
      exact Ev_some.mpr rfl
    | succ d ih =>
      intro i hi
      have hs := h28 _ (mem_getD F ByteArray.empty i (by omega))
      refine Ev_succ.mpr ?_
      simp only [impl_SameFiles.l0, rdT_nat, w64s i (by omega)]
      rw [Ev_pos (by omega), Ev_pos (by omega), Ev_pos (by omega), Ev_bd (impl_readAt_ev l r1 _ hl (by omega)), Ev_bd (impl_readAt_ev l r2 _ hl (by omega)), drop_cons F ByteArray.empty i (by omega), sameOn, List.all_cons, Ev_ite]
      by_cases hc : (readAt l r1 (F.getD i ByteArray.empty)).1 = (readAt l r2 (F.getD i ByteArray.empty)).1
      · rw [if_pos (by rw [hc]), eqb_iff.2 hc, Bool.true_and]
        exact ih (i + 1) (by omega)
      · rw [if_neg (fun g => hc (toList_iff.1 g)), eqb_ne hc, Bool.false_and]
        exact Ev_some.mpr rfl
  exact key F.length 0 (by omega)
theorem spec_same_ev (l : List S46) (r1 r2 : Int) (hl : StoreSized l) : Ev (fun k => spec_SameFiles.f k l r1 r2) (sameFiles l r1 r2) := by
  unfold spec_SameFiles.f sameFiles
  have h27 := allFiles_len l r1
  have h28 := allFiles_size l r1
  have h27' := allFiles_len l r2
  have h28' := allFiles_size l r2
  rw [Ev_bd (spec_files_ev l r1 hl), Ev_bd (spec_files_ev l r2 hl), Ev_bd (spec_store_ev l hl), Ev_ite]
  have hj : ∀ (b : Bool) (r : Bool), b = true → r = false → Ev (fun k => spec_SameFiles.j0 k l r1 r2 (allFiles l r1) (allFiles l r2) b) r := by
    rintro b r rfl rfl
    refine Ev_succ.mpr ?_
    simp only [spec_SameFiles.j0, if_true]
    exact Ev_some.mpr rfl
  by_cases h : storeValid l = true
  case neg => rw [if_neg h, if_neg h]; exact hj _ _ rfl rfl
  rw [if_pos h, if_pos h]
  by_cases hlen : (allFiles l r1).length = (allFiles l r2).length
  case neg =>
    rw [if_neg (fun g => hlen (by rw [g]))]
    exact hj _ _ (by simp; omega) rfl
  generalize allFiles l r1 = F at *
  generalize allFiles l r2 = G at *
  refine Ev_succ.mpr ?_
  simp only [spec_SameFiles.j0]
  rw [Ev_neg (by simp; omega)]
  have key : ∀ d i, i + d = F.length → Ev (fun k => spec_SameFiles.l0 k l r1 r2 F G (i : Int)) (if F.drop i = G.drop i then sameOn l r1 r2 (F.drop i) else false) := by
    intro d
    induction d with
    | zero =>
      intro i hi
      refine Ev_succ.mpr ?_
      simp only [spec_SameFiles.l0]
      rw [Ev_neg (by omega), List.drop_eq_nil_of_le (by omega), List.drop_eq_nil_of_le (by omega), if_pos rfl]
      exact Ev_some.mpr rfl
    | succ d ih =>
      intro i hi
      have hs := h28 _ (mem_getD F ByteArray.empty i (by omega))
      have hs' := h28' _ (mem_getD G ByteArray.empty i (by omega))
      refine Ev_succ.mpr ?_
      simp only [spec_SameFiles.l0, rdT_nat, w64s i (by omega)]
      rw [Ev_pos (by omega), Ev_pos (by omega), Ev_bd (spec_readAt_ev l r1 _ hl (by omega)), Ev_pos (by omega), Ev_bd (spec_readAt_ev l r2 _ hl (by omega)), drop_cons F ByteArray.empty i (by omega), drop_cons G ByteArray.empty i (by omega), Ev_ite]
      by_cases hp : F.getD i ByteArray.empty = G.getD i ByteArray.empty
      case neg =>
        rw [if_neg (fun g => hp (toList_iff.1 g)), if_neg (fun g => hp (List.cons.inj g).1)]
        exact Ev_some.mpr rfl
      rw [if_pos (by rw [hp]), ← hp, Ev_ite]
      by_cases hc : (readAt l r1 (F.getD i ByteArray.empty)).1 = (readAt l r2 (F.getD i ByteArray.empty)).1
      · rw [if_pos (by rw [hc])]
        have := ih (i + 1) (by omega)
        by_cases hd : F.drop (i + 1) = G.drop (i + 1)
        · rw [if_pos hd] at this
          rw [if_pos (by rw [hd]), sameOn, List.all_cons, eqb_iff.2 hc, Bool.true_and]
          exact this
        · rw [if_neg hd] at this
          rw [if_neg (fun g => hd (List.cons.inj g).2)]
          exact this
      · rw [if_neg (fun g => hc (toList_iff.1 g))]
        have e : (if F.getD i ByteArray.empty :: F.drop (i + 1) = F.getD i ByteArray.empty :: G.drop (i + 1) then sameOn l r1 r2 (F.getD i ByteArray.empty :: F.drop (i + 1)) else false) = false := by
          split
          · rw [sameOn, List.all_cons, eqb_ne hc, Bool.false_and]
          · rfl
        rw [e]
        exact Ev_some.mpr rfl
  have := key F.length 0 (by omega)
  simpa using this
end Go.Proofs.YtjgbidklkhohfaaGreatDoor.Mod
