/- Texts of prints, folders, files, names. -/
import Derived.Test.YtcbmkonigclceaaPx0
import Derived.Test.YtcbmkonigclceaaPx2
import Derived.Test.YtcbmkonigclceaaPx3
import Derived.Test.YtcbmkonigclceaaPath
import Derived.Test.YtcbmkonigclceaaFind
import Derived.Test.YtcbmkonigclceaaEntF
namespace Go.Proofs.Ytcbmkonigclceaa.Mod
open Go.RowKit Go.Proofs.Ytcbmkonigclceaa.P Go.Proofs.Ytcbmkonigclceaa.EvK Go.Proofs.YtcbmkonigclceaaW.PrintWords Go.Proofs.YtcbmkonigclceaaW.PrintLast
set_option linter.all false
def getP : List S65 → Int → ByteArray × Bool
 | [], _ => ((⟨#[]⟩ : ByteArray), false)
 | p :: l, t => if p.f0 = t then (p.f1, true) else getP l t
theorem getP_none {l : List S65} {t : Int} (h : ∀ v ∈ l, v.f0 ≠ t) : getP l t = ((⟨#[]⟩ : ByteArray), false) := by
 induction l with
 | nil => rfl
 | cons p l ih =>
  rw [getP, if_neg (h p List.mem_cons_self)]
  exact ih (fun v hv => h v (List.mem_cons_of_mem _ hv))
theorem getP_first : ∀ {l : List S65} {t : Int} (i : Nat), i < l.length → (l.getD i z65).f0 = t → (∀ j, j < i → (l.getD j z65).f0 ≠ t) → getP l t = ((l.getD i z65).f1, true)
 | [], _, _, h, _, _ => by simp at h
 | b :: l, t, 0, _, h, _ => by
  rw [getP, if_pos (by simpa using h)]
  simp
 | b :: l, t, i + 1, hi, h, hn => by
  rw [getP, if_neg (by simpa using hn 0 (by omega))]
  have := getP_first (l := l) (t := t) i (by simpa using hi) (by simpa using h) (fun j hj => by simpa using hn (j + 1) (by omega))
  simpa using this
theorem getP_mem {l : List S65} {t : Int} (h : (getP l t).2 = true) : (⟨t, (getP l t).1⟩ : S65) ∈ l := by
 induction l with
 | nil => simp [getP] at h
 | cons p l ih =>
  unfold getP at h ⊢
  by_cases e : p.f0 = t
  ·rw [if_pos e]
   cases p
   simp only at e
   rw [e]
   exact List.mem_cons_self
  ·rw [if_neg e] at h ⊢
   exact List.mem_cons_of_mem _ (ih h)
theorem getP_not {l : List S65} {t : Int} (h : ¬ (getP l t).2 = true) : getP l t = ((⟨#[]⟩ : ByteArray), false) := by
 induction l with
 | nil => rfl
 | cons p l ih =>
  unfold getP at h ⊢
  by_cases e : p.f0 = t
  ·rw [if_pos e] at h; simp at h
  ·rw [if_neg e] at h ⊢; exact ih h
theorem getP_of_mem {l : List S65} (h : storeValid l = true) {v : S65} (hv : v ∈ l) : getP l v.f0 = (v.f1, true) := by
 have h1 : (getP l v.f0).2 = true := by
  by_cases g : (getP l v.f0).2 = true
  ·exact g
  ·exfalso
   clear h
   induction l with
   | nil => simp at hv
   | cons p l ih =>
    unfold getP at g
    by_cases e : p.f0 = v.f0
    ·rw [if_pos e] at g; simp at g
    ·rw [if_neg e] at g
     rcases List.mem_cons.1 hv with rfl | hv
     ·exact e rfl
     ·exact ih hv g
 have h2 := store_once h (getP_mem h1) hv rfl
 have h3 : (getP l v.f0).1 = v.f1 := by rw [← h2]
 rw [← h3, ← h1]
theorem getP_size {l : List S65} (h : storeValid l = true) (t : Int) : (getP l t).1.size ≤ 60 := by
 by_cases g : (getP l t).2 = true
 ·have := ((storeValid_iff.1 h).2.1 _ (getP_mem g)).1
  exact textValid_size this
 ·rw [getP_not g]; decide
theorem getP_text {l : List S65} (h : storeValid l = true) {t : Int} (g : (getP l t).2 = true) : textValid (getP l t).1 = true ∧ t = printOf (getP l t).1 := (storeValid_iff.1 h).2.1 _ (getP_mem g)
theorem spec_l4_ev (l : List S65) (t : Int) (hn : l.length ≤ 9223372036854775807) : Ev (fun k => spec_l4Get.f k l t) (getP l t) := by
 unfold spec_l4Get.f
 have key : ∀ d i, i + d = l.length → Ev (fun k => spec_l4Get.l0 k l t (i : Int)) (getP (l.drop i) t) := by
  intro d
  induction d with
  | zero =>
   intro i hi
   refine Ev_succ.mpr ?_
   simp only [spec_l4Get.l0]
   rw [Ev_neg (by omega), List.drop_eq_nil_of_le (by omega)]
   exact Ev_some.mpr rfl
  | succ d ih =>
   intro i hi
   refine Ev_succ.mpr ?_
   simp only [spec_l4Get.l0, rdPiece, w64s i (by omega)]
   rw [Ev_pos (by omega), Ev_pos (by omega), drop_cons l z65 i (by omega), getP, Ev_ite]
   by_cases e : (l.getD i z65).f0 = t
   ·rw [if_pos e, if_pos e]; exact Ev_some.mpr rfl
   ·rw [if_neg e, if_neg e]; exact ih (i + 1) (by omega)
 exact key l.length 0 (by omega)
theorem impl_textOf_ev {l : List S65} (h : storeValid l = true) (t : Int) : Ev (fun k => impl_textOf.f k l t) (getP l t) := by
 unfold impl_textOf.f
 obtain ⟨r, b, hr, h1, h2, h3, h4⟩ := findPiece_p h t
 rw [Ev_bd hr]
 dsimp only
 rw [Ev_ite]
 by_cases hb : b = true
 ·have hb' := h4.1 hb
  rw [if_pos hb, Ev_pos (by omega), Ev_pos (by omega), rdPiece, getP_first r hb'.1 hb'.2 (fun j hj => by have := h2 j hj; omega)]
  exact Ev_some.mpr rfl
 ·rw [if_neg hb, getP_none (fun v hv e => hb (h4.2 ?_))]
  ·exact Ev_some.mpr rfl
  ·obtain ⟨i, hi, rfl⟩ := List.getElem_of_mem hv
   rw [← pieceAt l i hi] at e
   rcases Nat.lt_trichotomy i r with q | q | q
   ·have := h2 i q; omega
   ·subst q; exact ⟨hi, e⟩
   ·have := store_less h r i q hi
    have := h3 r (Nat.le_refl _) (by omega)
    omega
noncomputable def folderP (l : List S65) (t : Int) : List S109 × Bool := readFolder (getP l t).1
noncomputable def fileP (l : List S65) (t : Int) : ByteArray × Bool := readFile (getP l t).1
open Classical in
noncomputable def namedP : List S109 → ByteArray → Int × Bool
 | [], _ => (-1, false)
 | e :: l, t => if e.f0 = t then (e.f1, true) else namedP l t
theorem namedP_none {l : List S109} {t : ByteArray} (h : ∀ v ∈ l, v.f0 ≠ t) : namedP l t = (-1, false) := by
 induction l with
 | nil => rfl
 | cons p l ih =>
  rw [namedP, if_neg (h p List.mem_cons_self)]
  exact ih (fun v hv => h v (List.mem_cons_of_mem _ hv))
theorem namedP_first : ∀ {l : List S109} {t : ByteArray} (i : Nat), i < l.length → (l.getD i z109).f0 = t → (∀ j, j < i → (l.getD j z109).f0 ≠ t) → namedP l t = ((l.getD i z109).f1, true)
 | [], _, _, h, _, _ => by simp at h
 | b :: l, t, 0, _, h, _ => by
  rw [namedP, if_pos (by simpa using h)]
  simp
 | b :: l, t, i + 1, hi, h, hn => by
  rw [namedP, if_neg (by simpa using hn 0 (by omega))]
  have := namedP_first (l := l) (t := t) i (by simpa using hi) (by simpa using h) (fun j hj => by simpa using hn (j + 1) (by omega))
  simpa using this
theorem namedP_mem {l : List S109} {t : ByteArray} (h : (namedP l t).2 = true) : (⟨t, (namedP l t).1⟩ : S109) ∈ l := by
 induction l with
 | nil => simp [namedP] at h
 | cons p l ih =>
  unfold namedP at h ⊢
  by_cases e : p.f0 = t
  ·rw [if_pos e]
   cases p
   simp only at e
   rw [e]
   exact List.mem_cons_self
  ·rw [if_neg e] at h ⊢
   exact List.mem_cons_of_mem _ (ih h)
theorem namedP_not {l : List S109} {t : ByteArray} (h : ¬ (namedP l t).2 = true) : namedP l t = (-1, false) := by
 induction l with
 | nil => rfl
 | cons p l ih =>
  unfold namedP at h ⊢
  by_cases e : p.f0 = t
  ·rw [if_pos e] at h; simp at h
  ·rw [if_neg e] at h ⊢; exact ih h
theorem folderP_valid {l : List S65} {t : Int} : entriesValid (folderP l t).1 = true := by
 unfold folderP
 rcases readFolder_cases (getP l t).1 with ⟨M, hM, e, hr⟩ | ⟨hno, hr⟩
 ·rw [hr]; exact hM
 ·rw [hr]; exact entriesValid_nil
theorem folderP_not {l : List S65} {t : Int} (h : ¬ (folderP l t).2 = true) : folderP l t = ([], false) := readFolder_not h
end Go.Proofs.Ytcbmkonigclceaa.Mod
