/- What the functions over files come to. -/
import Derived.Test.YtjgbidklkhohfaaGreatDoorPx0
import Derived.Test.YtjgbidklkhohfaaGreatDoorPx16
import Derived.Test.YtjgbidklkhohfaaGreatDoorFilesS
import Derived.Test.YtjgbidklkhohfaaGreatDoorTexts
namespace Go.Proofs.YtjgbidklkhohfaaGreatDoor.Mod
open Go.RowKit Go.Proofs.YtjgbidklkhohfaaGreatDoor.P Go.Proofs.YtjgbidklkhohfaaGreatDoor.EvK Go.Proofs.YtjgbidklkhohfaaGreatDoorW.PrintWords Go.Proofs.YtjgbidklkhohfaaGreatDoorW.PrintLast
set_option linter.unusedVariables false
set_option linter.unusedSimpArgs false
/-- The last name of a path is the one asked for. -/
noncomputable def lastIs (n p : ByteArray) : Bool := eqb ((pathParts p).1.getD ((pathParts p).1.length - 1) ByteArray.empty) n
noncomputable def filesNamed (l : List S46) (root : Int) (n : ByteArray) : List ByteArray := (allFiles l root).filter (lastIs n)
theorem filesNamed_len (l : List S46) (root : Int) (n : ByteArray) : (filesNamed l root n).length ≤ 27 := Nat.le_trans (List.length_filter_le _ _) (allFiles_len l root)
theorem rdLast (ps : List ByteArray) (h : ps ≠ []) (hl : ps.length ≤ 3) : 0 ≤ wrap64 ((ps.length : Int) - 1) ∧ wrap64 ((ps.length : Int) - 1) < (ps.length : Int) ∧ rdOf ByteArray.empty ps (wrap64 ((ps.length : Int) - 1)) = ps.getD (ps.length - 1) ByteArray.empty := by
  have hp := List.length_pos_iff.2 h
  rw [w64 (by omega) (by omega)]
  refine ⟨by omega, by omega, ?_⟩
  rw [show (ps.length : Int) - 1 = ((ps.length - 1 : Nat) : Int) by omega, rdT_nat]
theorem impl_named_files_ev (l : List S46) (root : Int) (n : ByteArray) (hl : StoreSized l) : Ev (fun k => impl_FilesNamed.f k l root n) (filesNamed l root n) := by
  unfold impl_FilesNamed.f filesNamed
  rw [Ev_bd (impl_files_ev l root hl)]
  have h27 := allFiles_len l root
  have h28 := allFiles_size l root
  have hne := allFiles_parts l root
  generalize allFiles l root = F at *
  have key : ∀ d i (acc : List ByteArray), i + d = F.length → acc.length ≤ i → Ev (fun k => impl_FilesNamed.l0 k n acc F (F.length : Int) (i : Int)) (acc ++ (F.drop i).filter (lastIs n)) := by
    intro d
    induction d with
    | zero =>
      intro i acc hi ha
      refine Ev_succ.mpr ?_
      simp only [impl_FilesNamed.l0]
      rw [Ev_neg (by omega), List.drop_eq_nil_of_le (by omega)]
      exact Ev_some.mpr (by simp)
    | succ d ih =>
      intro i acc hi ha
      have hm := mem_getD F ByteArray.empty i (by omega)
      have hs := h28 _ hm
      obtain ⟨r1, r2, r3⟩ := rdLast _ (hne _ hm) (pathOk_iff.1 (pathParts_ok (F.getD i ByteArray.empty))).1
      refine Ev_succ.mpr ?_
      simp only [impl_FilesNamed.l0, rdT_nat, w64s i (by omega)]
      rw [Ev_pos (by omega), Ev_pos (by omega), Ev_pos (by omega), Ev_bd (impl_pathParts_ev _ (by omega)), Ev_pos r1, Ev_pos r2, r3, drop_cons F ByteArray.empty i (by omega), Ev_ite]
      by_cases he : (pathParts (F.getD i ByteArray.empty)).1.getD ((pathParts (F.getD i ByteArray.empty)).1.length - 1) ByteArray.empty = n
      · rw [if_pos (by rw [he]), Ev_pos (by omega), List.filter_cons_of_pos (by unfold lastIs; exact eqb_iff.2 he)]
        have := ih (i + 1) (acc ++ [F.getD i ByteArray.empty]) (by omega) (by simp; omega)
        simpa using this
      · rw [if_neg (fun g => he (toList_iff.1 g)), List.filter_cons_of_neg (by unfold lastIs; exact fun g => he (eqb_iff.1 g))]
        exact ih (i + 1) acc (by omega) (by omega)
  have := key F.length 0 [] (by omega) (by simp)
  simpa using this
theorem spec_named_files_ev (l : List S46) (root : Int) (n : ByteArray) (hl : StoreSized l) : Ev (fun k => spec_FilesNamed.f k l root n) (filesNamed l root n) := by
  unfold spec_FilesNamed.f filesNamed
  rw [Ev_bd (spec_files_ev l root hl)]
  have h27 := allFiles_len l root
  have h28 := allFiles_size l root
  have hne := allFiles_parts l root
  generalize allFiles l root = F at *
  have key : ∀ d i (acc : List ByteArray), i + d = F.length → acc.length ≤ i → Ev (fun k => spec_FilesNamed.l0 k n acc F (i : Int)) (acc ++ (F.drop i).filter (lastIs n)) := by
    intro d
    induction d with
    | zero =>
      intro i acc hi ha
      refine Ev_succ.mpr ?_
      simp only [spec_FilesNamed.l0]
      rw [Ev_neg (by omega), List.drop_eq_nil_of_le (by omega)]
      exact Ev_some.mpr (by simp)
    | succ d ih =>
      intro i acc hi ha
      have hm := mem_getD F ByteArray.empty i (by omega)
      have hs := h28 _ hm
      have hp := List.length_pos_iff.2 (hne _ hm)
      obtain ⟨r1, r2, r3⟩ := rdLast _ (hne _ hm) (pathOk_iff.1 (pathParts_ok (F.getD i ByteArray.empty))).1
      refine Ev_succ.mpr ?_
      simp only [spec_FilesNamed.l0, rdT_nat, w64s i (by omega)]
      rw [Ev_pos (by omega), Ev_pos (by omega), Ev_bd (spec_pathParts_ev _ (by omega)), Ev_pos (by omega), Ev_pos r1, Ev_pos r2, r3, drop_cons F ByteArray.empty i (by omega), Ev_ite]
      by_cases he : (pathParts (F.getD i ByteArray.empty)).1.getD ((pathParts (F.getD i ByteArray.empty)).1.length - 1) ByteArray.empty = n
      · rw [if_pos (by rw [he]), Ev_pos (by omega), List.filter_cons_of_pos (by unfold lastIs; exact eqb_iff.2 he)]
        have := ih (i + 1) (acc ++ [F.getD i ByteArray.empty]) (by omega) (by simp; omega)
        simpa using this
      · rw [if_neg (fun g => he (toList_iff.1 g)), List.filter_cons_of_neg (by unfold lastIs; exact fun g => he (eqb_iff.1 g))]
        exact ih (i + 1) acc (by omega) (by omega)
  have := key F.length 0 [] (by omega) (by simp)
  simpa using this
end Go.Proofs.YtjgbidklkhohfaaGreatDoor.Mod
