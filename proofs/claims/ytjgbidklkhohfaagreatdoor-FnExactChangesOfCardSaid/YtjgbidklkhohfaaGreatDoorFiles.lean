/- What AllFiles comes to. -/
import Derived.Test.YtjgbidklkhohfaaGreatDoorPx0
import Derived.Test.YtjgbidklkhohfaaGreatDoorPx8
import Derived.Test.YtjgbidklkhohfaaGreatDoorGet
namespace Go.Proofs.YtjgbidklkhohfaaGreatDoor.Mod
open Go.RowKit Go.Proofs.YtjgbidklkhohfaaGreatDoor.P Go.Proofs.YtjgbidklkhohfaaGreatDoor.EvK Go.Proofs.YtjgbidklkhohfaaGreatDoorW.PrintWords Go.Proofs.YtjgbidklkhohfaaGreatDoorW.PrintLast
set_option linter.all false
noncomputable def filesD (l : List S46) : Nat → Int → List ByteArray → List ByteArray
 | 0, _, _ => []
 | d + 1, t, ps => (folderP l t).1.flatMap (fun e => if (fileP l e.f1).2 = true then [joinPath (ps ++ [e.f0])] else filesD l d e.f1 (ps ++ [e.f0]))
noncomputable def allFiles (l : List S46) (root : Int) : List ByteArray := if storeValid l = true then filesD l 3 root [] else []
theorem flatMap_le {α β : Type} (L : List α) (f : α → List β) (n : Nat) (h : ∀ x ∈ L, (f x).length ≤ n) : (L.flatMap f).length ≤ L.length * n := by
 induction L with
 | nil => simp
 | cons x L ih =>
  rw [List.flatMap_cons, List.length_append, List.length_cons, Nat.succ_mul]
  have h1 := h x List.mem_cons_self
  have h2 := ih (fun y hy => h y (List.mem_cons_of_mem _ hy))
  omega
theorem filesD_len (l : List S46) : ∀ (d : Nat) (t : Int) (ps : List ByteArray), (filesD l d t ps).length ≤ 3 ^ d := by
 intro d
 induction d with
 | zero => intro t ps; simp [filesD]
 | succ d ih =>
  intro t ps
  unfold filesD
  have hv : entriesValid (folderP l t).1 = true := folderP_valid
  have h3 := entriesValid_len hv
  have h4 := flatMap_le (folderP l t).1 (fun e => if (fileP l e.f1).2 = true then [joinPath (ps ++ [e.f0])] else filesD l d e.f1 (ps ++ [e.f0])) (3 ^ d) (fun x hx => by
   split
   ·have : 0 < 3 ^ d := Nat.pow_pos (by omega)
    simp; omega
   ·exact ih _ _)
  have h5 : (folderP l t).1.length * 3 ^ d ≤ 3 * 3 ^ d := Nat.mul_le_mul_right _ h3
  rw [Nat.pow_succ]
  omega
theorem allFiles_len (l : List S46) (root : Int) : (allFiles l root).length ≤ 27 := by
 unfold allFiles
 split
 ·exact filesD_len l 3 root []
 ·simp
theorem filesD_size (l : List S46) : ∀ (d : Nat) (t : Int) (ps : List ByteArray), ∀ p ∈ filesD l d t ps, p.size ≤ 28 := by
 intro d
 induction d with
 | zero => intro t ps p hp; simp [filesD] at hp
 | succ d ih =>
  intro t ps p hp
  unfold filesD at hp
  obtain ⟨e, -, he⟩ := List.mem_flatMap.1 hp
  split at he
  ·rw [List.mem_singleton.1 he]; exact joinPath_size _
  ·exact ih _ _ p he
theorem allFiles_size (l : List S46) (root : Int) : ∀ p ∈ allFiles l root, p.size ≤ 28 := by
 unfold allFiles
 split
 ·exact filesD_size l 3 root []
 ·intro p hp; simp at hp
theorem impl_below_ev {l : List S46} (h : storeValid l = true) : ∀ (d : Nat) (t : Int) (ps : List ByteArray), ps.length + d = 3 → (∀ p ∈ ps, p.size ≤ 8) → Ev (fun k => impl_filesBelow.f k l t ps) (filesD l d t ps) := by
 intro d
 induction d with
 | zero =>
  intro t ps hd hps
  refine Ev_succ.mpr ?_
  simp only [impl_filesBelow.f]
  rw [Ev_pos (by omega), filesD]
  exact Ev_some.mpr rfl
 | succ d ih =>
  intro t ps hd hps
  refine Ev_succ.mpr ?_
  simp only [impl_filesBelow.f]
  rw [Ev_neg (by omega), Ev_bd (impl_folderOf_ev h t), filesD]
  have hv : entriesValid (folderP l t).1 = true := folderP_valid
  have h3 := entriesValid_len hv
  have hw := entriesValid_word hv
  have h3d : 3 ^ d ≤ 27 := by
   have : 3 ^ d ≤ 3 ^ 3 := Nat.pow_le_pow_right (by omega) (by omega)
   omega
  generalize (folderP l t).1 = L at *
  have hc : slices_Clone_string.f ps = some ps := by
   unfold slices_Clone_string.f
   rw [if_pos (by omega)]
  have key : ∀ n i (acc : List ByteArray), i + n = L.length → acc.length ≤ 27 * i → Ev (fun k => impl_filesBelow.l0 k l ps acc L (L.length : Int) (i : Int)) (acc ++ (L.drop i).flatMap (fun e => if (fileP l e.f1).2 = true then [joinPath (ps ++ [e.f0])] else filesD l d e.f1 (ps ++ [e.f0]))) := by
   intro n
   induction n with
   | zero =>
    intro i acc hi ha
    refine Ev_succ.mpr ?_
    simp only [impl_filesBelow.l0]
    rw [Ev_neg (by omega), List.drop_eq_nil_of_le (by omega)]
    exact Ev_some.mpr (by simp)
   | succ n ih2 =>
    intro i acc hi ha
    have hm : L.getD i z75 ∈ L := by rw [getD_at L _ i (by omega)]; exact List.getElem_mem _
    have h8 := hw _ hm
    refine Ev_succ.mpr ?_
    simp only [impl_filesBelow.l0, rdEntry, w64s i (by omega)]
    rw [Ev_pos (by omega), Ev_pos (by omega), Ev_pos (by omega), Ev_b0 hc, Ev_bs, Ev_pos (by simp; omega), Ev_bs, Ev_bd (impl_fileOf_ev h _), drop_cons L z75 i (by omega), List.flatMap_cons]
    generalize L.getD i z75 = e at *
    have hsz : ∀ p ∈ ps ++ [e.f0], p.size ≤ 8 := by
     intro p hp
     rcases List.mem_append.1 hp with hp | hp
     ·exact hps p hp
     ·rw [List.mem_singleton.1 hp]; exact h8
    rw [Ev_ite]
    by_cases hf : (fileP l e.f1).2 = true
    ·rw [if_pos hf, if_pos hf, Ev_bd (impl_joinPath_ev _ (by simp; omega) (fun p hp => by have := hsz p hp; omega)), Ev_bs, Ev_pos (by simp; omega), ← List.append_assoc]
     exact ih2 (i + 1) _ (by omega) (by simp; omega)
    ·have hlen := filesD_len l d e.f1 (ps ++ [e.f0])
     rw [if_neg hf, if_neg hf, Ev_bd (ih _ _ (by simp; omega) hsz), Ev_pos (by omega), ← List.append_assoc]
     exact ih2 (i + 1) _ (by omega) (by rw [List.length_append]; omega)
  have := key L.length 0 [] (by omega) (by simp)
  simpa using this
theorem impl_files_ev (l : List S46) (root : Int) (hl : StoreSized l) : Ev (fun k => impl_AllFiles.f k l root) (allFiles l root) := by
 unfold impl_AllFiles.f allFiles
 rw [Ev_bd (impl_store_ev l hl), Ev_ite]
 by_cases h : storeValid l = true
 ·rw [if_pos h, if_pos h, Ev_bd (impl_below_ev h 3 root [] (by simp) (fun p hp => by simp at hp))]
  exact Ev_some.mpr rfl
 ·rw [if_neg h, if_neg h]
  exact Ev_some.mpr rfl
end Go.Proofs.YtjgbidklkhohfaaGreatDoor.Mod
