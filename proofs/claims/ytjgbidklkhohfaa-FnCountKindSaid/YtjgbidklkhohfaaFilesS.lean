/- What spec's AllFiles comes to; the form of the paths. -/
import Derived.Test.YtjgbidklkhohfaaPx0
import Derived.Test.YtjgbidklkhohfaaPx10
import Derived.Test.YtjgbidklkhohfaaFiles
namespace Go.Proofs.Ytjgbidklkhohfaa.Mod
open Go.RowKit Go.Proofs.Ytjgbidklkhohfaa.P Go.Proofs.Ytjgbidklkhohfaa.EvK Go.Proofs.YtjgbidklkhohfaaW.PrintWords Go.Proofs.YtjgbidklkhohfaaW.PrintLast
set_option linter.all false
theorem spec_l11_ev {l : List S45} (h : storeValid l = true) : ∀ (d : Nat) (t : Int) (ps : List ByteArray), ps.length + d = 3 → (∀ p ∈ ps, p.size ≤ 8) → Ev (fun k => spec_l11Files.f k l t ps) (if (fileP l t).2 = true ∧ ps ≠ [] then [joinPath ps] else filesD l d t ps) := by
 have h40 := (storeValid_iff.1 h).1
 intro d
 induction d with
 | zero =>
  intro t ps hd hps
  have hs := getP_size h t
  have hfile : readFile (getP l t).1 = fileP l t := rfl
  have hfold : readFolder (getP l t).1 = folderP l t := rfl
  have hj1 : ∀ T b, Ev (fun k => spec_l11Files.j0 k l ps T b true) [joinPath ps] := by
   intro T b
   refine Ev_succ.mpr ?_
   simp only [spec_l11Files.j0]
   rw [Ev_pos trivial, Ev_bd (spec_joinPath_ev ps (by omega) (fun p hp => by have := hps p hp; omega))]
   exact Ev_some.mpr rfl
  have hj0 : ∀ b, Ev (fun k => spec_l11Files.j0 k l ps (getP l t).1 b false) (filesD l 0 t ps) := by
   intro b
   refine Ev_succ.mpr ?_
   simp only [spec_l11Files.j0]
   rw [Ev_neg (by simp), Ev_bd (spec_readFolder_ev _ (by omega)), hfold]
   refine Ev_succ.mpr ?_
   simp only [spec_l11Files.l0]
   have e : decide ((ps.length : Int) < 3) = false := decide_eq_false (by omega)
   have hj2 : ∀ b', b' = false → Ev (fun k => spec_l11Files.j2 k l ps b [] (folderP l t).1 (folderP l t).2 0 b') [] := by
    rintro _ rfl
    refine Ev_succ.mpr ?_
    simp only [spec_l11Files.j2]
    rw [Ev_neg (by simp)]
    exact Ev_some.mpr rfl
   rw [filesD]
   rw [Ev_ite]
   split
   ·rw [Ev_ite]
    split
    ·rw [Ev_ite]
     split
     ·exact hj2 _ e
     ·exact hj2 _ rfl
    ·exact hj2 _ rfl
   ·exact hj2 _ rfl
  refine Ev_succ.mpr ?_
  simp only [spec_l11Files.f]
  rw [Ev_bd (spec_l4_ev l t (by omega)), Ev_bd (spec_readFile_ev _ (by omega)), hfile, Ev_ite]
  by_cases g : (getP l t).2 = true
  ·rw [if_pos g]
   by_cases hf : (fileP l t).2 = true
   ·rw [Ev_pos hf, if_pos ⟨hf, fun e => by subst e; simp at hd⟩, decide_eq_true (show (ps.length : Int) > 0 by omega)]
    exact hj1 _ _
   ·rw [Ev_neg hf, if_neg (fun q => hf q.1)]
    exact hj0 _
  ·have hf : ¬ (fileP l t).2 = true := by
    unfold fileP
    rw [getP_not g, readFile_empty]
    simp
   rw [if_neg g, if_neg (fun q => hf q.1)]
   exact hj0 _
 | succ d ih =>
  intro t ps hd hps
  have hs := getP_size h t
  have hfile : readFile (getP l t).1 = fileP l t := rfl
  have hfold : readFolder (getP l t).1 = folderP l t := rfl
  have hj1 : ∀ T b, Ev (fun k => spec_l11Files.j0 k l ps T b true) [joinPath ps] := by
   intro T b
   refine Ev_succ.mpr ?_
   simp only [spec_l11Files.j0]
   rw [Ev_pos trivial, Ev_bd (spec_joinPath_ev ps (by omega) (fun p hp => by have := hps p hp; omega))]
   exact Ev_some.mpr rfl
  have hj0 : ∀ b, (b = true ∨ folderP l t = ([], false)) → Ev (fun k => spec_l11Files.j0 k l ps (getP l t).1 b false) (filesD l (d + 1) t ps) := by
   intro b hb
   refine Ev_succ.mpr ?_
   simp only [spec_l11Files.j0]
   rw [Ev_neg (by simp), Ev_bd (spec_readFolder_ev _ (by omega)), hfold]
   by_cases hnil : folderP l t = ([], false)
   ·refine Ev_succ.mpr ?_
    simp only [spec_l11Files.l0, filesD, hnil]
    rw [Ev_neg (by simp)]
    refine Ev_succ.mpr ?_
    simp only [spec_l11Files.j2]
    rw [Ev_neg (by simp)]
    exact Ev_some.mpr rfl
   ·obtain rfl : b = true := hb.resolve_right hnil
    have hfo : (folderP l t).2 = true := by
     by_cases q : (folderP l t).2 = true
     ·exact q
     ·exact absurd (folderP_not q) hnil
    have hv : entriesValid (folderP l t).1 = true := folderP_valid
    have h3 := entriesValid_len hv
    have hw := entriesValid_word hv
    have h3d : 3 ^ d ≤ 27 := by
     have : 3 ^ d ≤ 3 ^ 3 := Nat.pow_le_pow_right (by omega) (by omega)
     omega
    rw [hfo, filesD]
    generalize (folderP l t).1 = L at *
    have e : decide ((ps.length : Int) < 3) = true := decide_eq_true (by omega)
    have key : ∀ n i (acc : List ByteArray), i + n = L.length → acc.length ≤ 27 * i → Ev (fun k => spec_l11Files.l0 k l ps true acc L true (i : Int)) (acc ++ (L.drop i).flatMap (fun e => if (fileP l e.f1).2 = true then [joinPath (ps ++ [e.f0])] else filesD l d e.f1 (ps ++ [e.f0]))) := by
     intro n
     induction n with
     | zero =>
      intro i acc hi ha
      refine Ev_succ.mpr ?_
      simp only [spec_l11Files.l0]
      rw [Ev_neg (by omega), List.drop_eq_nil_of_le (by omega)]
      refine Ev_succ.mpr ?_
      simp only [spec_l11Files.j2]
      rw [Ev_neg (by simp)]
      exact Ev_some.mpr (by simp)
     | succ n ih2 =>
      intro i acc hi ha
      have hm : L.getD i z79 ∈ L := by rw [getD_at L _ i (by omega)]; exact List.getElem_mem _
      have h8 := hw _ hm
      refine Ev_succ.mpr ?_
      simp only [spec_l11Files.l0]
      rw [Ev_pos (by omega), Ev_pos trivial, Ev_pos trivial, e]
      refine Ev_succ.mpr ?_
      simp only [spec_l11Files.j2, rdEntry, w64s i (by omega)]
      rw [Ev_pos trivial, Ev_pos (by omega), Ev_pos (by omega), Ev_bs, Ev_pos (by simp; omega), Ev_bs, Ev_bs, Ev_pos (by simp; omega), drop_cons L z79 i (by omega), List.flatMap_cons, List.nil_append]
      generalize L.getD i z79 = e at *
      have hsz : ∀ p ∈ ps ++ [e.f0], p.size ≤ 8 := by
       intro p hp
       rcases List.mem_append.1 hp with hp | hp
       ·exact hps p hp
       ·rw [List.mem_singleton.1 hp]; exact h8
      have hne : ps ++ [e.f0] ≠ [] := by simp
      have hr := ih e.f1 (ps ++ [e.f0]) (by simp; omega) hsz
      have hlen := filesD_len l d e.f1 (ps ++ [e.f0])
      rw [Ev_bd hr, ← List.append_assoc]
      by_cases hf : (fileP l e.f1).2 = true
      ·rw [if_pos ⟨hf, hne⟩, if_pos hf, Ev_pos (by simp; omega)]
       exact ih2 (i + 1) _ (by omega) (by simp; omega)
      ·rw [if_neg (fun q => hf q.1), if_neg hf, Ev_pos (by omega)]
       exact ih2 (i + 1) _ (by omega) (by rw [List.length_append]; omega)
    have := key L.length 0 [] (by omega) (by simp)
    simpa using this
  refine Ev_succ.mpr ?_
  simp only [spec_l11Files.f]
  rw [Ev_bd (spec_l4_ev l t (by omega)), Ev_bd (spec_readFile_ev _ (by omega)), hfile, Ev_ite]
  by_cases g : (getP l t).2 = true
  ·rw [if_pos g]
   by_cases hf : (fileP l t).2 = true
   ·rw [Ev_pos hf]
    by_cases hp : ps = []
    ·subst hp
     rw [if_neg (fun q => q.2 rfl)]
     exact hj0 _ (Or.inl g)
    ·have : 0 < ps.length := List.length_pos_iff.2 hp
     rw [if_pos ⟨hf, hp⟩, decide_eq_true (show (ps.length : Int) > 0 by omega)]
     exact hj1 _ _
   ·rw [Ev_neg hf, if_neg (fun q => hf q.1)]
    exact hj0 _ (Or.inl g)
  ·have hf : ¬ (fileP l t).2 = true := by
    unfold fileP
    rw [getP_not g, readFile_empty]
    simp
   rw [if_neg g, if_neg (fun q => hf q.1)]
   refine hj0 _ (Or.inr ?_)
   unfold folderP
   rw [getP_not g, readFolder_empty]
theorem spec_files_ev (l : List S45) (root : Int) (hl : StoreSized l) : Ev (fun k => spec_AllFiles.f k l root) (allFiles l root) := by
 unfold spec_AllFiles.f allFiles
 rw [Ev_bd (spec_store_ev l hl), Ev_ite]
 by_cases h : storeValid l = true
 ·have := spec_l11_ev h 3 root [] (by simp) (fun p hp => by simp at hp)
  rw [if_neg (fun q => q.2 rfl)] at this
  rw [if_pos h, if_pos h, Ev_bd this]
  exact Ev_some.mpr rfl
 ·rw [if_neg h, if_neg h]
  exact Ev_some.mpr rfl
theorem filesD_form (l : List S45) : ∀ (d : Nat) (t : Int) (ps : List ByteArray), ps.length + d ≤ 3 → (∀ p ∈ ps, wordValid p = true) → ∀ p ∈ filesD l d t ps, ∃ qs, qs ≠ [] ∧ pathOk qs = true ∧ p = mkB (joinL qs) := by
 intro d
 induction d with
 | zero => intro t ps _ _ p hp; simp [filesD] at hp
 | succ d ih =>
  intro t ps hd hps p hp
  unfold filesD at hp
  obtain ⟨e, hm, he⟩ := List.mem_flatMap.1 hp
  have hv : entriesValid (folderP l t).1 = true := folderP_valid
  have hw : wordValid e.f0 = true := ((entriesValid_iff.1 hv).2.1 e hm).1
  have hall : ∀ q ∈ ps ++ [e.f0], wordValid q = true := by
   intro q hq
   rcases List.mem_append.1 hq with hq | hq
   ·exact hps q hq
   ·rw [List.mem_singleton.1 hq]; exact hw
  split at he
  ·have hok : pathOk (ps ++ [e.f0]) = true := pathOk_iff.2 ⟨by simp; omega, hall⟩
   refine ⟨ps ++ [e.f0], by simp, hok, ?_⟩
   rw [List.mem_singleton.1 he, joinPath, if_pos hok]
  ·exact ih _ _ (by simp; omega) hall p he
theorem allFiles_parts (l : List S45) (root : Int) : ∀ p ∈ allFiles l root, (pathParts p).1 ≠ [] := by
 unfold allFiles
 split
 ·intro p hp
  obtain ⟨qs, h1, h2, rfl⟩ := filesD_form l 3 root [] (by simp) (fun p hp => by simp at hp) p hp
  rw [pathParts_join h2]
  exact h1
 ·intro p hp; simp at hp
theorem mem_getD {α : Type} (l : List α) (z : α) (i : Nat) (h : i < l.length) : l.getD i z ∈ l := by rw [getD_at l z i h]; exact List.getElem_mem _
end Go.Proofs.Ytjgbidklkhohfaa.Mod
