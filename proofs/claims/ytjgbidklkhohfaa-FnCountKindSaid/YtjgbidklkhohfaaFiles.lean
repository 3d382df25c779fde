/- What AllFiles comes to. -/
import Derived.Test.YtjgbidklkhohfaaPx0
import Derived.Test.YtjgbidklkhohfaaGet
namespace Go.Proofs.Ytjgbidklkhohfaa.Mod
open Go.RowKit Go.Proofs.Ytjgbidklkhohfaa.P Go.Proofs.Ytjgbidklkhohfaa.EvK Go.Proofs.YtjgbidklkhohfaaW.PrintWords Go.Proofs.YtjgbidklkhohfaaW.PrintLast
set_option linter.all false
noncomputable def filesD (l : List S45) : Nat → Int → List ByteArray → List ByteArray
 | 0, _, _ => []
 | d + 1, t, ps => (folderP l t).1.flatMap (fun e => if (fileP l e.f1).2 = true then [joinPath (ps ++ [e.f0])] else filesD l d e.f1 (ps ++ [e.f0]))
noncomputable def allFiles (l : List S45) (root : Int) : List ByteArray := if storeValid l = true then filesD l 3 root [] else []
theorem flatMap_le {α β : Type} (L : List α) (f : α → List β) (n : Nat) (h : ∀ x ∈ L, (f x).length ≤ n) : (L.flatMap f).length ≤ L.length * n := by
 induction L with
 | nil => simp
 | cons x L ih =>
  rw [List.flatMap_cons, List.length_append, List.length_cons, Nat.succ_mul]
  have h1 := h x List.mem_cons_self
  have h2 := ih (fun y hy => h y (List.mem_cons_of_mem _ hy))
  omega
theorem filesD_len (l : List S45) : ∀ (d : Nat) (t : Int) (ps : List ByteArray), (filesD l d t ps).length ≤ 3 ^ d := by
 intro d
 induction d with
 | zero => intro t ps; simp [filesD]
 | succ d ih =>
  intro t ps
  unfold filesD
  have hv : entriesValid (folderP l t).1 = true := folderP_valid
  have h3 := entriesValid_len hv
  have h4 := flatMap_le (folderP l t).1 (fun e => if (fileP l e.f1).2 = true then [joinPath (ps ++ [e.f0])] else filesD l d e.f1 (ps ++ [e.f0])) (3 ^ d) (fun x hx => by
   split
   ·have : 0 < 3 ^ d := Nat.pow_pos (by omega)
    simp; omega
   ·exact ih _ _)
  have h5 : (folderP l t).1.length * 3 ^ d ≤ 3 * 3 ^ d := Nat.mul_le_mul_right _ h3
  rw [Nat.pow_succ]
  omega
theorem allFiles_len (l : List S45) (root : Int) : (allFiles l root).length ≤ 27 := by
 unfold allFiles
 split
 ·exact filesD_len l 3 root []
 ·simp
theorem filesD_size (l : List S45) : ∀ (d : Nat) (t : Int) (ps : List ByteArray), ∀ p ∈ filesD l d t ps, p.size ≤ 28 := by
 intro d
 induction d with
 | zero => intro t ps p hp; simp [filesD] at hp
 | succ d ih =>
  intro t ps p hp
  unfold filesD at hp
  obtain ⟨e, -, he⟩ := List.mem_flatMap.1 hp
  split at he
  ·rw [List.mem_singleton.1 he]; exact joinPath_size _
  ·exact ih _ _ p he
theorem allFiles_size (l : List S45) (root : Int) : ∀ p ∈ allFiles l root, p.size ≤ 28 := by
 unfold allFiles
 split
 ·exact filesD_size l 3 root []
 ·intro p hp; simp at hp
end Go.Proofs.Ytjgbidklkhohfaa.Mod
