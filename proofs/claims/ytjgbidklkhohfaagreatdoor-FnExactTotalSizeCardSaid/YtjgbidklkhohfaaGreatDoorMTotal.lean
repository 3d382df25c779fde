/- What the functions over files come to. -/
import Derived.Test.YtjgbidklkhohfaaGreatDoorPx0
import Derived.Test.YtjgbidklkhohfaaGreatDoorPx18
import Derived.Test.YtjgbidklkhohfaaGreatDoorFilesS
import Derived.Test.YtjgbidklkhohfaaGreatDoorTexts
import Derived.Test.YtjgbidklkhohfaaGreatDoorWalk
namespace Go.Proofs.YtjgbidklkhohfaaGreatDoor.Mod
open Go.RowKit Go.Proofs.YtjgbidklkhohfaaGreatDoor.P Go.Proofs.YtjgbidklkhohfaaGreatDoor.EvK Go.Proofs.YtjgbidklkhohfaaGreatDoorW.PrintWords Go.Proofs.YtjgbidklkhohfaaGreatDoorW.PrintLast
set_option linter.unusedVariables false
set_option linter.unusedSimpArgs false
/-- The sizes of files, one after the other. -/
noncomputable def sizes (l : List S46) (root : Int) : List ByteArray → Int → Int
  | [], a => a
  | p :: F, a => sizes l root F (wrap64 (a + ((readAt l root p).1.size : Int)))
noncomputable def totalSize (l : List S46) (root : Int) : Int := sizes l root (allFiles l root) 0
theorem impl_total_ev (l : List S46) (root : Int) (hl : StoreSized l) : Ev (fun k => impl_TotalSize.f k l root) (totalSize l root) := by
  unfold impl_TotalSize.f totalSize
  rw [Ev_bd (impl_files_ev l root hl)]
  have h27 := allFiles_len l root
  have h28 := allFiles_size l root
  generalize allFiles l root = F at *
  have key : ∀ d i (a : Int), i + d = F.length → Ev (fun k => impl_TotalSize.l0 k l root a F (F.length : Int) (i : Int)) (sizes l root (F.drop i) a) := by
    intro d
    induction d with
    | zero =>
      intro i a hi
      refine Ev_succ.mpr ?_
      simp only [impl_TotalSize.l0]
      rw [Ev_neg (by omega), List.drop_eq_nil_of_le (by omega)]
      exact Ev_some.mpr rfl
    | succ d ih =>
      intro i a hi
      have hs := h28 _ (mem_getD F ByteArray.empty i (by omega))
      refine Ev_succ.mpr ?_
      simp only [impl_TotalSize.l0, rdT_nat, w64s i (by omega)]
      rw [Ev_pos (by omega), Ev_pos (by omega), Ev_pos (by omega), Ev_bd (impl_readAt_ev l root _ hl (by omega)), drop_cons F ByteArray.empty i (by omega), sizes]
      exact ih (i + 1) _ (by omega)
  exact key F.length 0 0 (by omega)
theorem spec_total_ev (l : List S46) (root : Int) (hl : StoreSized l) : Ev (fun k => spec_TotalSize.f k l root) (totalSize l root) := by
  unfold spec_TotalSize.f totalSize
  rw [Ev_bd (spec_files_ev l root hl)]
  have h27 := allFiles_len l root
  have h28 := allFiles_size l root
  generalize allFiles l root = F at *
  have key : ∀ d i (a : Int), i + d = F.length → Ev (fun k => spec_TotalSize.l0 k l root a F (i : Int)) (sizes l root (F.drop i) a) := by
    intro d
    induction d with
    | zero =>
      intro i a hi
      refine Ev_succ.mpr ?_
      simp only [spec_TotalSize.l0]
      rw [Ev_neg (by omega), List.drop_eq_nil_of_le (by omega)]
      exact Ev_some.mpr rfl
    | succ d ih =>
      intro i a hi
      have hs := h28 _ (mem_getD F ByteArray.empty i (by omega))
      refine Ev_succ.mpr ?_
      simp only [spec_TotalSize.l0, rdT_nat, w64s i (by omega)]
      rw [Ev_pos (by omega), Ev_pos (by omega), Ev_bd (spec_readAt_ev l root _ hl (by omega)), drop_cons F ByteArray.empty i (by omega), sizes]
      exact ih (i + 1) _ (by omega)
  exact key F.length 0 0 (by omega)
end Go.Proofs.YtjgbidklkhohfaaGreatDoor.Mod
