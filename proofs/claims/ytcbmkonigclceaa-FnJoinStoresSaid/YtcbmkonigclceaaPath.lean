/- What ReadFile, JoinPath and PathParts come to. -/
import Derived.Test.YtcbmkonigclceaaPx0
import Derived.Test.YtcbmkonigclceaaPx3
import Derived.Test.YtcbmkonigclceaaPx6
import Derived.Test.YtcbmkonigclceaaFold
namespace Go.Proofs.Ytcbmkonigclceaa.Mod
open Go.RowKit Go.Proofs.Ytcbmkonigclceaa.P Go.Proofs.Ytcbmkonigclceaa.EvK Go.Proofs.YtcbmkonigclceaaW.PrintWords Go.Proofs.YtcbmkonigclceaaW.PrintLast
set_option linter.all false
def contentValid (s : ByteArray) : Bool := textValid s && decide ((s.size : Int) ≤ 40)
theorem spec_content_ev (s : ByteArray) (hs : s.size ≤ 9223372036854775807) : Ev (fun k => spec_ContentValid.f k s) (contentValid s) := by
 unfold spec_ContentValid.f contentValid
 rw [Ev_bd (spec_text_ev s hs), Ev_ite]
 cases textValid s <;> exact Ev_some.mpr rfl
theorem contentValid_size {s : ByteArray} (h : contentValid s = true) : s.size ≤ 40 := by
 unfold contentValid at h
 simp only [Bool.and_eq_true, decide_eq_true_eq] at h
 omega
def fileL (c : ByteArray) : List UInt8 := 102 :: c.data.toList
def readFile (s : ByteArray) : ByteArray × Bool :=
 if s.data.toList.head? = some 102 ∧ contentValid (mkB s.data.toList.tail) = true then (mkB s.data.toList.tail, true) else ((⟨#[]⟩ : ByteArray), false)
theorem readFile_cons (l : List UInt8) : readFile (mkB (102 :: l)) = if contentValid (mkB l) = true then (mkB l, true) else ((⟨#[]⟩ : ByteArray), false) := by
 unfold readFile
 rw [list_mkB]
 simp only [List.head?_cons, List.tail_cons, true_and]
theorem readFile_no {s : ByteArray} (h : ∀ l, s ≠ mkB (102 :: l)) : readFile s = ((⟨#[]⟩ : ByteArray), false) := by
 unfold readFile
 refine if_neg (fun g => ?_)
 cases hd : s.data.toList with
 | nil => rw [hd] at g; simp at g
 | cons c l =>
  rw [hd] at g
  simp only [List.head?_cons, Option.some.injEq] at g
  exact h l (by rw [← mkB_list s, hd, g.1])
theorem readFile_yes {s : ByteArray} (h : (readFile s).2 = true) : s = mkB (fileL (readFile s).1) ∧ contentValid (readFile s).1 = true := by
 by_cases hc : ∃ l, s = mkB (102 :: l)
 ·obtain ⟨l, rfl⟩ := hc
  rw [readFile_cons] at h ⊢
  by_cases hv : contentValid (mkB l) = true
  ·rw [if_pos hv]
   exact ⟨by unfold fileL; rw [list_mkB], hv⟩
  ·rw [if_neg hv] at h
   simp at h
 ·rw [readFile_no (fun l e => hc ⟨l, e⟩)] at h
  simp at h
theorem readFile_file {c : ByteArray} (h : contentValid c = true) : readFile (mkB (fileL c)) = (c, true) := by
 unfold fileL
 rw [readFile_cons, mkB_list, if_pos h]
theorem readFile_folder (L : List S109) : readFile (folderT L) = ((⟨#[]⟩ : ByteArray), false) := by
 refine readFile_no (fun l e => ?_)
 unfold folderT at e
 split at e
 ·have := mkB_inj e
  simp at this
 ·have := mkB_inj (a := []) e
  simp at this
theorem readFolder_file (l : List UInt8) : readFolder (mkB (102 :: l)) = ([], false) := by
 rcases readFolder_cases (mkB (102 :: l)) with ⟨M, hM, e, hr⟩ | ⟨hno, hr⟩
 ·exfalso
  unfold folderT at e
  rw [if_pos hM] at e
  have := mkB_inj e
  simp at this
 ·exact hr
theorem readFile_empty : readFile (⟨#[]⟩ : ByteArray) = ((⟨#[]⟩ : ByteArray), false) := readFile_no (fun l e => by have := mkB_inj (a := []) e; simp at this)
theorem readFolder_empty : readFolder (⟨#[]⟩ : ByteArray) = ([], false) := by
 rcases readFolder_cases (⟨#[]⟩ : ByteArray) with ⟨M, hM, e, hr⟩ | ⟨hno, hr⟩
 ·exfalso
  unfold folderT at e
  rw [if_pos hM] at e
  have := mkB_inj (a := []) e
  simp at this
 ·exact hr
theorem spec_readFile_ev (s : ByteArray) (hs : s.size ≤ 9223372036854775807) : Ev (fun k => spec_ReadFile.f k s) (readFile s) := by
 unfold spec_ReadFile.f
 cases hd : s.data.toList with
 | nil =>
  have e : s = mkB [] := by rw [← mkB_list s, hd]
  rw [Ev_pos (by rw [e, mkB_nil]), e, readFile_no (fun l e => by have := mkB_inj e; simp at this)]
  exact Ev_some.mpr rfl
 | cons c l =>
  have e : s = mkB (c :: l) := by rw [← mkB_list s, hd]
  subst e
  have hsz : (mkB (c :: l)).size = l.length + 1 := by rw [ba_size]; simp
  have hb : bt (mkB (c :: l)) 0 = (c.toNat : Int) := by
   have := bt_byte (mkB (c :: l)) 0 (by omega)
   rw [byteAt_mk] at this
   simpa using this
  have hx : (mkB (c :: l)).extract 1 (mkB (c :: l)).size = mkB l := by rw [ba_ext, list_mkB, ba_size]; simp
  rw [Ev_neg (by rw [mkB_nil]; simp), Ev_pos (by omega), hb, hx, Ev_ite]
  by_cases hc : (c.toNat : Int) = 102
  ·have hc' : c = 102 := UInt8.toNat_inj.1 (by rw [show (102 : UInt8).toNat = 102 from rfl]; omega)
   subst hc'
   rw [if_pos hc, Ev_pos (by omega), Ev_bd (spec_content_ev _ (by rw [ba_size]; omega)), readFile_cons, Ev_ite]
   by_cases hv : contentValid (mkB l) = true
   ·rw [if_pos hv, if_pos hv]; exact Ev_some.mpr rfl
   ·rw [if_neg hv, if_neg hv]; exact Ev_some.mpr rfl
  ·rw [if_neg hc, readFile_no (fun l' e => hc (by have := (List.cons.inj (mkB_inj e)).1; rw [this]; rfl))]
   exact Ev_some.mpr rfl

/-! paths -/
theorem mkB_toList (l : List UInt8) : (mkB l).toList = l := by
 rw [ByteArray.toList_eq]
def pathOk (ps : List ByteArray) : Bool := decide (ps.length ≤ 3) && ps.all wordValid
theorem pathOk_iff {ps : List ByteArray} : pathOk ps = true ↔ ps.length ≤ 3 ∧ ∀ p ∈ ps, wordValid p = true := by
 unfold pathOk
 rw [Bool.and_eq_true, decide_eq_true_iff, List.all_eq_true]
def tailL (ps : List ByteArray) : List UInt8 := ps.flatMap (fun p => 47 :: p.data.toList)
def joinL (ps : List ByteArray) : List UInt8 := if ps = [] then [47] else tailL ps
def joinPath (ps : List ByteArray) : ByteArray := if pathOk ps = true then mkB (joinL ps) else (⟨#[]⟩ : ByteArray)
theorem rdS_nat (xs : List ByteArray) (i : Nat) : rdOf ByteArray.empty xs (i : Int) = xs.getD i ByteArray.empty := by simp [rdOf]
theorem tailL_len {ps : List ByteArray} (h : ∀ p ∈ ps, p.size ≤ 8) : (tailL ps).length ≤ 9 * ps.length := by
 induction ps with
 | nil => simp [tailL]
 | cons p ps ih =>
  have h1 := ih (fun q hq => h q (List.mem_cons_of_mem _ hq))
  have h2 := h p List.mem_cons_self
  have h3 := ba_len p
  unfold tailL at h1 ⊢
  rw [List.flatMap_cons, List.length_append, List.length_cons, List.length_cons]
  omega
theorem words_size {ps : List ByteArray} (h : ∀ p ∈ ps, wordValid p = true) : ∀ p ∈ ps, p.size ≤ 8 := fun p hp => wordValid_size' (h p hp)
theorem joinTail_eq (ps : List ByteArray) : Lib.joinTail [47] (ps.map (·.data.toList)) = tailL ps := by
 unfold Lib.joinTail tailL
 induction ps with
 | nil => rfl
 | cons p ps ih => simp only [List.map_cons, List.flatten_cons, List.flatMap_cons] at ih ⊢; rw [ih]; rfl
theorem joinB_eq (ps : List ByteArray) : 47 :: (joinB ps (⟨#[47]⟩ : ByteArray)).data.toList = joinL ps := by
 unfold joinB joinL
 cases ps with
 | nil => simp [Lib.join_nil]
 | cons p ps =>
  rw [if_neg (by simp), List.map_cons]
  show 47 :: (mkB (Lib.join _ [47])).data.toList = _
  rw [list_mkB, Lib.join_cons, joinTail_eq]
  rfl
theorem spec_joinPath_ev (ps : List ByteArray) (hl : ps.length ≤ 9223372036854775807) (hs : ∀ p ∈ ps, p.size ≤ 9223372036854775807) : Ev (fun k => spec_JoinPath.f k ps) (joinPath ps) := by
 unfold spec_JoinPath.f joinPath
 have key : ∀ d i, i + d = ps.length → (∀ p ∈ ps.take i, wordValid p = true) → (i = 0 ∨ ps.length ≤ 3) → Ev (fun k => spec_JoinPath.l0 k ps (mkB (tailL (ps.take i))) (i : Int)) (if pathOk ps = true then mkB (joinL ps) else (⟨#[]⟩ : ByteArray)) := by
  intro d
  induction d with
  | zero =>
   intro i hi hw h03
   rw [List.take_of_length_le (by omega)] at hw ⊢
   have hok : pathOk ps = true := pathOk_iff.2 ⟨by omega, hw⟩
   refine Ev_succ.mpr ?_
   simp only [spec_JoinPath.l0]
   rw [Ev_neg (by omega), if_pos hok, Ev_ite]
   unfold joinL
   by_cases he : ps = []
   ·rw [if_pos he, he, if_pos (mkB_nil.2 (show tailL [] = [] from rfl))]
    exact Ev_some.mpr rfl
   ·rw [if_neg he, if_neg (by
     rw [mkB_nil]
     intro e
     cases ps with
     | nil => exact he rfl
     | cons p ps => unfold tailL at e; simp at e)]
    exact Ev_some.mpr rfl
  | succ d ih =>
   intro i hi hw h03
   have hm : ps.getD i ByteArray.empty ∈ ps := by rw [List.getD_eq_getElem?_getD, List.getElem?_eq_getElem (show i < ps.length by omega)]; exact List.getElem_mem _
   have e1 : ps.take (i + 1) = ps.take i ++ [ps.getD i ByteArray.empty] := by
    rw [List.take_add_one, List.getElem?_eq_getElem (show i < ps.length by omega), Option.toList_some, List.getD_eq_getElem?_getD, List.getElem?_eq_getElem (show i < ps.length by omega), Option.getD_some]
   refine Ev_succ.mpr ?_
   simp only [spec_JoinPath.l0, rdS_nat, w64s i (by omega)]
   rw [Ev_pos (by omega), Ev_pos (by omega), Ev_bd (spec_word_ev _ (hs _ hm)), Ev_ite]
   by_cases hv : wordValid (ps.getD i ByteArray.empty) = true
   ·rw [if_pos hv, Ev_ite]
    by_cases h3 : (ps.length : Int) > 3
    ·rw [if_pos h3, if_neg (fun g => by have := (pathOk_iff.1 g).1; omega)]
     exact Ev_some.mpr rfl
    ·rw [if_neg h3]
     have hsz := tailL_len (words_size hw)
     rw [List.length_take] at hsz
     have h8 := wordValid_size' hv
     rw [Ev_pos (by rw [ba_size]; omega), Ev_pos (by rw [ByteArray.size_append, ba_size, show (⟨#[47]⟩ : ByteArray).size = 1 from rfl]; omega)]
     have e2 : (mkB (tailL (ps.take i)) ++ (⟨#[47]⟩ : ByteArray)) ++ ps.getD i ByteArray.empty = mkB (tailL (ps.take (i + 1))) := by
      rw [e1]
      generalize ps.getD i ByteArray.empty = v
      rw [← mkB_list v, show (⟨#[47]⟩ : ByteArray) = mkB [47] from rfl]
      simp only [mkB, ba_app]
      unfold tailL
      simp
     rw [e2]
     refine ih (i + 1) (by omega) (fun p hp => ?_) (Or.inr (by omega))
     rw [e1] at hp
     rcases List.mem_append.1 hp with hp | hp
     ·exact hw p hp
     ·rw [List.mem_singleton.1 hp]; exact hv
   ·rw [if_neg hv, if_neg (fun g => hv ((pathOk_iff.1 g).2 _ hm))]
    exact Ev_some.mpr rfl
 have := key ps.length 0 (by omega) (fun p hp => by simp at hp) (Or.inl rfl)
 simpa [tailL] using this
open Classical in
noncomputable def pathParts (s : ByteArray) : List ByteArray × Bool := if h : ∃ ps : List ByteArray, pathOk ps = true ∧ s = mkB (joinL ps) then (h.choose, true) else ([], false)
theorem pathParts_cases (s : ByteArray) : (∃ ps, pathOk ps = true ∧ s = mkB (joinL ps) ∧ pathParts s = (ps, true)) ∨ ((∀ ps, pathOk ps = true → s ≠ mkB (joinL ps)) ∧ pathParts s = ([], false)) := by
 unfold pathParts
 by_cases h : ∃ ps : List ByteArray, pathOk ps = true ∧ s = mkB (joinL ps)
 ·left
  exact ⟨h.choose, h.choose_spec.1, h.choose_spec.2, dif_pos h⟩
 ·right
  exact ⟨fun l h1 h2 => h ⟨l, h1, h2⟩, dif_neg h⟩
theorem joinL_ne (ps : List ByteArray) : joinL ps ≠ [] := by
 unfold joinL
 split
 ·simp
 ·cases ps with
  | nil => contradiction
  | cons p ps => unfold tailL; simp
theorem tailL_cons (p : ByteArray) (ps : List ByteArray) : tailL (p :: ps) = 47 :: (p.data.toList ++ tailL ps) := by unfold tailL; simp
theorem word_ne {p : ByteArray} (h : wordValid p = true) : p.data.toList ≠ [] := by
 intro e
 have h2 := ba_len p
 rw [e] at h2
 unfold wordValid at h
 simp only [Bool.and_eq_true] at h
 have := (inB_iff.1 h.2).1
 simp at h2
 omega
theorem joinL_root {ps : List ByteArray} (h : pathOk ps = true) : joinL ps = [47] ↔ ps = [] := by
 constructor
 ·intro e
  unfold joinL at e
  split at e
  ·assumption
  ·cases ps with
   | nil => rfl
   | cons p ps =>
    exfalso
    rw [tailL_cons] at e
    have hw := word_ne ((pathOk_iff.1 h).2 p List.mem_cons_self)
    have e2 := (List.cons.inj e).2
    exact hw (List.append_eq_nil_iff.1 e2).1
 ·rintro rfl
  rfl
theorem split_words : ∀ (ps : List ByteArray) (p : ByteArray) (k : Nat), (∀ q ∈ p :: ps, (47 : UInt8) ∉ q.data.toList) → ps.length ≤ k → Lib.splitB (⟨#[47]⟩ : ByteArray) 0 k (mkB (p.data.toList ++ tailL ps)) = p :: ps
 | [], p, k, h, hk => by
  have h1 : Lib.indexB (mkB (p.data.toList ++ tailL [])) (⟨#[47]⟩ : ByteArray) = -1 := by
   unfold Lib.indexB
   rw [list_mkB]
   exact index_none 47 _ (by simpa [tailL] using h p List.mem_cons_self)
  rw [Lib.splitB_miss _ _ _ _ h1]
  simp [tailL, mkB_list]
 | q :: ps, p, 0, h, hk => by simp at hk
 | q :: ps, p, k + 1, h, hk => by
  have h1 : Lib.indexB (mkB (p.data.toList ++ tailL (q :: ps))) (⟨#[47]⟩ : ByteArray) = (p.data.toList.length : Nat) := by
   unfold Lib.indexB
   rw [list_mkB, tailL_cons]
   exact index_at 47 _ _ (h p List.mem_cons_self)
  rw [Lib.splitB_hit _ _ _ _ _ h1]
  have e1 : (mkB (p.data.toList ++ tailL (q :: ps))).extract 0 (p.data.toList.length + 0) = p := by
   rw [ba_ext, list_mkB]
   simp [mkB_list]
  have e2 : (mkB (p.data.toList ++ tailL (q :: ps))).extract (p.data.toList.length + (⟨#[47]⟩ : ByteArray).size) (mkB (p.data.toList ++ tailL (q :: ps))).size = mkB (q.data.toList ++ tailL ps) := by
   rw [ba_ext, list_mkB, ba_size, show (⟨#[47]⟩ : ByteArray).size = 1 from rfl, tailL_cons]
   have : List.drop (p.data.toList.length + 1) (p.data.toList ++ 47 :: (q.data.toList ++ tailL ps)) = q.data.toList ++ tailL ps := by
    rw [List.drop_append]
    simp
   rw [this, List.take_of_length_le (by simp only [List.length_append, List.length_cons]; omega)]
  rw [e1, e2, split_words ps q k (fun r hr => h r (List.mem_cons_of_mem _ hr)) (by simpa using hk)]
theorem splitB_sizes : ∀ (k : Nat) (s : ByteArray), (∀ p ∈ Lib.splitB (⟨#[47]⟩ : ByteArray) 0 k s, p.size ≤ s.size) ∧ (Lib.splitB (⟨#[47]⟩ : ByteArray) 0 k s).length ≤ k + 1 ∧ Lib.splitB (⟨#[47]⟩ : ByteArray) 0 k s ≠ []
 | 0, s => ⟨fun p hp => by rw [Lib.splitB_zero] at hp; rw [List.mem_singleton.1 hp]; exact Nat.le_refl _, by simp [Lib.splitB_zero], by simp [Lib.splitB_zero]⟩
 | k + 1, s => by
  rcases Lib.indexB_cases s (⟨#[47]⟩ : ByteArray) with h | ⟨i, h, hr⟩
  ·rw [Lib.splitB_miss _ _ _ _ h]
   exact ⟨fun p hp => by rw [List.mem_singleton.1 hp]; exact Nat.le_refl _, by simp, by simp⟩
  ·rw [Lib.splitB_hit _ _ _ _ _ h]
   obtain ⟨h1, h2, h3⟩ := splitB_sizes k (s.extract (i + (⟨#[47]⟩ : ByteArray).size) s.size)
   refine ⟨fun p hp => ?_, by simp; omega, by simp⟩
   rcases List.mem_cons.1 hp with rfl | hp
   ·rw [ByteArray.size_extract]; omega
   ·have := h1 p hp
    rw [ByteArray.size_extract] at this
    omega
def stepP (out : List ByteArray) (c : UInt8) : List ByteArray :=
 if c = 47 then out ++ [(⟨#[]⟩ : ByteArray)] else if out = [] then out else out.set (out.length - 1) (out.getD (out.length - 1) ByteArray.empty ++ mkB [c])
theorem stepP_bound {out : List ByteArray} {c : UInt8} {n : Nat} (h1 : out.length ≤ n) (h2 : ∀ p ∈ out, p.size ≤ n) : (stepP out c).length ≤ n + 1 ∧ ∀ p ∈ stepP out c, p.size ≤ n + 1 := by
 unfold stepP
 split
 ·refine ⟨by simp; omega, fun p hp => ?_⟩
  rcases List.mem_append.1 hp with hp | hp
  ·have := h2 p hp; omega
  ·rw [List.mem_singleton.1 hp, show (⟨#[]⟩ : ByteArray).size = 0 from rfl]; omega
 ·split
  ·exact ⟨by omega, fun p hp => by have := h2 p hp; omega⟩
  ·rename_i hne
   refine ⟨by simp; omega, fun p hp => ?_⟩
   rcases List.mem_or_eq_of_mem_set hp with hp | hp
   ·have := h2 p hp; omega
   ·rw [hp, ByteArray.size_append, show (mkB [c]).size = 1 from rfl]
    have hpos : 0 < out.length := List.length_pos_iff.2 hne
    have hm : out.getD (out.length - 1) ByteArray.empty ∈ out := by rw [List.getD_eq_getElem?_getD, List.getElem?_eq_getElem (by omega)]; exact List.getElem_mem _
    have := h2 _ hm
    omega
theorem fold_word : ∀ (w : List UInt8) (out : List ByteArray) (x : List UInt8), (47 : UInt8) ∉ w → w.foldl stepP (out ++ [mkB x]) = out ++ [mkB (x ++ w)]
 | [], out, x, _ => by simp
 | c :: w, out, x, h => by
  have h1 : c ≠ 47 := fun e => h (by rw [e]; exact List.mem_cons_self)
  have e : stepP (out ++ [mkB x]) c = out ++ [mkB (x ++ [c])] := by
   unfold stepP
   rw [if_neg h1, if_neg (by simp)]
   have e1 : (out ++ [mkB x]).length - 1 = out.length := by simp
   rw [e1, List.set_append_right _ _ (Nat.le_refl _), Nat.sub_self, List.getD_eq_getElem?_getD, List.getElem?_append_right (Nat.le_refl _), Nat.sub_self]
   simp only [List.getElem?_cons_zero, Option.getD_some, List.set_cons_zero]
   rw [show mkB x ++ mkB [c] = mkB (x ++ [c]) from ba_app x [c]]
  rw [List.foldl_cons, e, fold_word w out (x ++ [c]) (fun g => h (List.mem_cons_of_mem _ g)), List.append_assoc, List.singleton_append]
theorem fold_tail : ∀ (ps out : List ByteArray), (∀ p ∈ ps, (47 : UInt8) ∉ p.data.toList) → (tailL ps).foldl stepP out = out ++ ps
 | [], out, _ => by simp [tailL]
 | p :: ps, out, h => by
  rw [tailL_cons, List.foldl_cons, List.foldl_append]
  have e : stepP out 47 = out ++ [mkB []] := by unfold stepP; rw [if_pos rfl]
  rw [e, fold_word _ out [] (h p List.mem_cons_self), List.nil_append, mkB_list, fold_tail ps _ (fun q hq => h q (List.mem_cons_of_mem _ hq)), List.append_assoc, List.singleton_append]
theorem spec_pathParts_ev (s : ByteArray) (hs : s.size ≤ 4294967200) : Ev (fun k => spec_PathParts.f k s) (pathParts s) := by
 unfold spec_PathParts.f
 rw [Ev_bs, Ev_ite]
 by_cases h0 : s.toList = ([47] : List UInt8)
 ·rw [if_pos h0]
  have e : s = mkB [47] := toList_iff.1 (by rw [h0, mkB_toList])
  rcases pathParts_cases s with ⟨ps, h1, h2, h3⟩ | ⟨hno, h3⟩
  ·rw [h3]
   have : ps = [] := (joinL_root h1).1 (mkB_inj (by rw [← h2, e]))
   rw [this]
   exact Ev_some.mpr rfl
  ·exact absurd e (hno [] (by decide))
 ·rw [if_neg h0]
  have hl := ba_len s
  have key : ∀ d i (out : List ByteArray), i + d = s.size → out.length ≤ i → (∀ p ∈ out, p.size ≤ i) → ∀ r, Ev (fun k => spec_PathParts.l0 k s ((s.data.toList.drop i).foldl stepP out) (s.size : Int)) r → Ev (fun k => spec_PathParts.l0 k s out (i : Int)) r := by
   intro d
   induction d with
   | zero =>
    intro i out hi _ _ r hr
    rw [List.drop_eq_nil_of_le (by omega)] at hr
    obtain rfl : i = s.size := by omega
    exact hr
   | succ d ih =>
    intro i out hi ho1 ho2 r hr
    have hbt := bt_byte s i (by omega)
    have hdc : s.data.toList.drop i = byteAt s i :: s.data.toList.drop (i + 1) := by
     unfold byteAt
     exact drop_cons _ _ _ (by omega)
    rw [hdc, List.foldl_cons] at hr
    obtain ⟨n1, n2⟩ := stepP_bound (c := byteAt s i) ho1 ho2
    have hr := ih (i + 1) _ (by omega) n1 n2 r hr
    have hx : s.extract i (i + 1) = mkB [byteAt s i] := by
     rw [ba_ext, hdc, Nat.add_sub_cancel_left]
     rfl
    refine Ev_succ.mpr ?_
    simp only [spec_PathParts.l0, hbt, w64s i (by omega), Int.toNat_natCast]
    rw [Ev_pos (by omega), Ev_pos (by omega), Ev_ite]
    unfold stepP at hr
    by_cases hc : byteAt s i = 47
    ·rw [if_pos hc] at hr
     rw [if_pos (by rw [hc]; rfl), Ev_pos (by omega)]
     exact hr
    ·rw [if_neg hc] at hr
     rw [if_neg (fun e => hc (UInt8.toNat_inj.1 (by rw [show (47 : UInt8).toNat = 47 from rfl]; omega))), Ev_ite]
     by_cases he : out = []
     ·rw [if_pos he] at hr
      rw [if_neg (by rw [he]; simp)]
      exact hr
     ·rw [if_neg he] at hr
      have hpos : 0 < out.length := List.length_pos_iff.2 he
      have hm : out.getD (out.length - 1) ByteArray.empty ∈ out := by rw [List.getD_eq_getElem?_getD, List.getElem?_eq_getElem (by omega)]; exact List.getElem_mem _
      have := ho2 _ hm
      rw [if_pos (by omega), w64 (x := (out.length : Int) - 1) (by omega) (by omega), show (out.length : Int) - 1 = ((out.length - 1 : Nat) : Int) by omega, rdS_nat, hx]
      simp only [Int.toNat_natCast]
      rw [Ev_pos (by omega), Ev_pos (by omega), Ev_pos (by omega), Ev_pos (by omega), Ev_pos (by rw [show (mkB [byteAt s i]).size = 1 from rfl]; omega)]
      exact hr
  have bound : ∀ (l : List UInt8) (out : List ByteArray) (n : Nat), out.length ≤ n → (∀ p ∈ out, p.size ≤ n) → (l.foldl stepP out).length ≤ n + l.length ∧ ∀ p ∈ l.foldl stepP out, p.size ≤ n + l.length := by
   intro l
   induction l with
   | nil => intro out n h1 h2; exact ⟨by simpa using h1, by simpa using h2⟩
   | cons c l ih =>
    intro out n h1 h2
    obtain ⟨n1, n2⟩ := stepP_bound (c := c) h1 h2
    obtain ⟨m1, m2⟩ := ih _ _ n1 n2
    rw [List.foldl_cons, List.length_cons]
    exact ⟨by omega, fun p hp => by have := m2 p hp; omega⟩
  obtain ⟨b1, b2⟩ := bound s.data.toList [] 0 (by simp) (by simp)
  refine key s.size 0 [] (by omega) (by simp) (by simp) _ ?_
  rw [List.drop_zero]
  refine Ev_succ.mpr ?_
  simp only [spec_PathParts.l0]
  rw [Ev_neg (by omega), Ev_ite]
  rcases pathParts_cases s with ⟨ps, h1, h2, h3⟩ | ⟨hno, h3⟩
  ·rw [h3]
   obtain ⟨g1, g2⟩ := pathOk_iff.1 h1
   have hne : ps ≠ [] := fun e => h0 (by rw [h2, e, mkB_toList]; rfl)
   have e : s.data.toList = tailL ps := by rw [h2, list_mkB]; unfold joinL; rw [if_neg hne]
   rw [if_neg (by rw [h2, mkB_nil]; exact joinL_ne ps), e, fold_tail ps [] (fun p hp => word_no (g2 p hp) (by decide)), List.nil_append, Ev_bd (spec_joinPath_ev _ (by omega) (fun q hq => by have := words_size g2 q hq; omega)), Ev_pos]
   ·exact Ev_some.mpr rfl
   ·unfold joinPath
    rw [if_pos h1, ← h2]
  ·rw [h3]
   split
   ·exact Ev_some.mpr rfl
   ·rename_i hse
    rw [Ev_bd (spec_joinPath_ev _ (by omega) (fun q hq => by have := b2 q hq; omega)), Ev_neg]
    ·exact Ev_some.mpr rfl
    ·rw [toList_iff]
     unfold joinPath
     split
     ·rename_i hok
      exact fun e2 => hno _ hok e2.symm
     ·exact fun e2 => hse (toList_nil.2 e2.symm)
theorem tailL_inj : ∀ (a b : List ByteArray), (∀ p ∈ a, wordValid p = true) → (∀ p ∈ b, wordValid p = true) → tailL a = tailL b → a = b := by
 intro a b ha hb e
 have h1 := fold_tail a [] (fun p hp => word_no (ha p hp) (by decide))
 rw [e, fold_tail b [] (fun p hp => word_no (hb p hp) (by decide))] at h1
 simpa using h1.symm
theorem pathParts_join {ps : List ByteArray} (h : pathOk ps = true) : pathParts (mkB (joinL ps)) = (ps, true) := by
 rcases pathParts_cases (mkB (joinL ps)) with ⟨qs, h1, h2, h3⟩ | ⟨hno, h3⟩
 ·rw [h3]
  have e := mkB_inj h2
  by_cases hq : qs = []
  ·subst hq
   rw [(joinL_root h).1 e]
  ·by_cases hp : ps = []
   ·subst hp
    exact absurd ((joinL_root h1).1 e.symm) hq
   ·unfold joinL at e
    rw [if_neg hp, if_neg hq] at e
    rw [tailL_inj ps qs (pathOk_iff.1 h).2 (pathOk_iff.1 h1).2 e]
 ·exact absurd rfl (hno ps h)
theorem pathParts_yes {s : ByteArray} (h : (pathParts s).2 = true) : pathOk (pathParts s).1 = true ∧ s = mkB (joinL (pathParts s).1) := by
 rcases pathParts_cases s with ⟨qs, h1, h2, h3⟩ | ⟨hno, h3⟩
 ·rw [h3]; exact ⟨h1, h2⟩
 ·rw [h3] at h; simp at h
theorem pathParts_ok (s : ByteArray) : pathOk (pathParts s).1 = true := by
 rcases pathParts_cases s with ⟨qs, h1, h2, h3⟩ | ⟨hno, h3⟩
 ·rw [h3]; exact h1
 ·rw [h3]; decide
theorem joinPath_size (ps : List ByteArray) : (joinPath ps).size ≤ 28 := by
 unfold joinPath
 split
 ·rename_i h
  obtain ⟨h1, h2⟩ := pathOk_iff.1 h
  have := tailL_len (words_size h2)
  rw [ba_size]
  unfold joinL
  split
  ·simp
  ·omega
 ·decide
end Go.Proofs.Ytcbmkonigclceaa.Mod
