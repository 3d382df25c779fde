/- What FolderText and ReadFolder come to. -/
import Derived.Test.YtcbmkonigclceaaPx0
import Derived.Test.YtcbmkonigclceaaPx2
import Derived.Test.YtcbmkonigclceaaPx3
import Derived.Test.YtcbmkonigclceaaHexT
import Derived.Test.YtcbmkonigclceaaEnt
import Derived.Test.YtcbmkonigclceaaText
namespace Go.Proofs.Ytcbmkonigclceaa.Mod
open Go.RowKit Go.Proofs.Ytcbmkonigclceaa.P Go.Proofs.Ytcbmkonigclceaa.EvK Go.Proofs.YtcbmkonigclceaaW.PrintWords Go.Proofs.YtcbmkonigclceaaW.PrintLast
set_option linter.all false
abbrev mkB (l : List UInt8) : ByteArray := ⟨l.toArray⟩
theorem mkB_list (s : ByteArray) : mkB s.data.toList = s := by
 apply ByteArray.ext
 simp [mkB]
theorem list_mkB (l : List UInt8) : (mkB l).data.toList = l := by simp [mkB]
theorem mkB_inj {a b : List UInt8} (h : mkB a = mkB b) : a = b := by rw [← list_mkB a, h, list_mkB]
theorem ba_len (s : ByteArray) : s.data.toList.length = s.size := by simp
theorem ba_ext (s : ByteArray) (a b : Nat) : s.extract a b = mkB ((s.data.toList.drop a).take (b - a)) := by
 apply ByteArray.ext
 apply Array.toList_inj.1
 rw [ByteArray.data_extract, Array.toList_extract]
theorem byteAt_mk (l : List UInt8) (i : Nat) : byteAt (mkB l) i = l.getD i 0 := by
 unfold byteAt
 rw [list_mkB]
def encE (e : S109) : List UInt8 := e.f0.data.toList ++ 61 :: (hexL e.f1.toNat ++ [59])
def encL (l : List S109) : List UInt8 := l.flatMap encE
def folderT (l : List S109) : ByteArray := if entriesValid l = true then mkB (100 :: encL l) else (⟨#[]⟩ : ByteArray)
theorem ent_ok {l : List S109} (h : entriesValid l = true) : ∀ e ∈ l, wordValid e.f0 = true ∧ 0 ≤ e.f1 ∧ e.f1 ≤ 16777212 := by
 obtain ⟨-, h2, -⟩ := entriesValid_iff.1 h
 intro e he
 obtain ⟨g1, g2⟩ := h2 e he
 exact ⟨g1, inB_iff.1 g2⟩
theorem encE_len {e : S109} (h : wordValid e.f0 = true) (h1 : 0 ≤ e.f1 ∧ e.f1 ≤ 16777212) : (encE e).length ≤ 16 := by
 unfold encE
 have := wordValid_size' h
 have := hexL_len 5 e.f1.toNat (by omega)
 have := ba_len e.f0
 simp only [List.length_append, List.length_cons, List.length_nil]
 omega
theorem encL_take (l : List S109) (i : Nat) (h : i < l.length) : encL (l.take (i + 1)) = encL (l.take i) ++ encE (l.getD i z109) := by
 unfold encL
 rw [List.take_add_one, List.getElem?_eq_getElem h, Option.toList_some, List.flatMap_append, getD_at l _ i h]
 simp
theorem encL_take_len {l : List S109} (h : entriesValid l = true) : ∀ i, i ≤ l.length → (encL (l.take i)).length ≤ 16 * i := by
 intro i
 induction i with
 | zero => intro _; simp [encL]
 | succ i ih =>
  intro hi
  rw [encL_take l i (by omega), List.length_append]
  have h1 := ih (by omega)
  have h2 := ent_ok h (l.getD i z109) (by rw [getD_at l _ i (by omega)]; exact List.getElem_mem _)
  have := encE_len h2.1 h2.2
  omega
theorem folderT_size (l : List S109) : (folderT l).size ≤ 49 := by
 unfold folderT
 split
 ·rename_i h
  have h1 := encL_take_len h l.length (Nat.le_refl _)
  rw [List.take_of_length_le (Nat.le_refl _)] at h1
  have := entriesValid_len h
  rw [ba_size]
  simp only [List.length_cons]
  omega
 ·decide
theorem step_text (a : List UInt8) (e : S109) (h : 0 ≤ e.f1 ∧ e.f1 ≤ 16777212) :
  ((((mkB a ++ e.f0) ++ (⟨#[61]⟩ : ByteArray)) ++ hexT e.f1) ++ (⟨#[59]⟩ : ByteArray)) = mkB (a ++ encE e) ∧ mkB a ++ (((e.f0 ++ (⟨#[61]⟩ : ByteArray)) ++ hexT e.f1) ++ (⟨#[59]⟩ : ByteArray)) = mkB (a ++ encE e) := by
 have h1 : hexT e.f1 = mkB (hexL e.f1.toNat) := hexT_in h
 rw [h1, ← mkB_list e.f0, show (⟨#[61]⟩ : ByteArray) = mkB [61] from rfl, show (⟨#[59]⟩ : ByteArray) = mkB [59] from rfl]
 simp only [mkB, ba_app]
 unfold encE
 constructor <;> simp
theorem spec_folderT_ev (l : List S109) (hl : EntSized l) : Ev (fun k => spec_FolderText.f k l) (folderT l) := by
 unfold spec_FolderText.f folderT
 rw [Ev_bd (spec_ent_ev l hl), Ev_ite]
 by_cases h : entriesValid l = true
 ·rw [if_pos h, if_pos h]
  have h3 := entriesValid_len h
  have key : ∀ d i, i + d = l.length → Ev (fun k => spec_FolderText.l0 k l (mkB (100 :: encL (l.take i))) (i : Int)) (mkB (100 :: encL l)) := by
   intro d
   induction d with
   | zero =>
    intro i hi
    refine Ev_succ.mpr ?_
    simp only [spec_FolderText.l0]
    rw [Ev_neg (by omega), List.take_of_length_le (by omega)]
    exact Ev_some.mpr rfl
   | succ d ih =>
    intro i hi
    have h4 := encL_take_len h i (by omega)
    obtain ⟨g1, g2⟩ := ent_ok h (l.getD i z109) (by rw [getD_at l _ i (by omega)]; exact List.getElem_mem _)
    have g3 := wordValid_size' g1
    have g4 := ba_len (l.getD i z109).f0
    have g5 := hexL_len 5 (l.getD i z109).f1.toNat (by omega)
    have g6 : (hexT (l.getD i z109).f1).size ≤ 6 := by rw [hexT_in g2]; unfold hexB; rw [ba_size]; exact g5
    have g7 : (mkB (100 :: encL (l.take i))).size ≤ 1 + 16 * i := by rw [ba_size]; simp only [List.length_cons]; omega
    refine Ev_succ.mpr ?_
    simp only [spec_FolderText.l0, rdEntry, w64s i (by omega)]
    rw [Ev_pos (by omega), Ev_pos (by omega), Ev_pos (by omega), Ev_pos (by rw [ByteArray.size_append]; omega), Ev_bd (spec_hex_ev _), Ev_pos (by rw [ByteArray.size_append, ByteArray.size_append, show (⟨#[61]⟩ : ByteArray).size = 1 from rfl]; omega), Ev_pos (by rw [ByteArray.size_append, ByteArray.size_append, ByteArray.size_append, show (⟨#[61]⟩ : ByteArray).size = 1 from rfl]; omega), (step_text _ _ g2).1, List.cons_append, ← encL_take l i (by omega)]
    exact ih (i + 1) (by omega)
  have := key l.length 0 (by omega)
  simpa [encL] using this
 ·rw [if_neg h, if_neg h]
  exact Ev_some.mpr rfl
open Classical in
noncomputable def readFolder (s : ByteArray) : List S109 × Bool := if h : ∃ l : List S109, entriesValid l = true ∧ s = folderT l then (h.choose, true) else ([], false)
theorem readFolder_cases (s : ByteArray) : (∃ l, entriesValid l = true ∧ s = folderT l ∧ readFolder s = (l, true)) ∨ ((∀ l, entriesValid l = true → s ≠ folderT l) ∧ readFolder s = ([], false)) := by
 unfold readFolder
 by_cases h : ∃ l : List S109, entriesValid l = true ∧ s = folderT l
 ·left
  exact ⟨h.choose, h.choose_spec.1, h.choose_spec.2, dif_pos h⟩
 ·right
  exact ⟨fun l h1 h2 => h ⟨l, h1, h2⟩, dif_neg h⟩
theorem wordValid_chars {s : ByteArray} (h : wordValid s = true) : ∀ c ∈ s.data.toList, (48 ≤ c.toNat ∧ c.toNat ≤ 57) ∨ (97 ≤ c.toNat ∧ c.toNat ≤ 122) := by
 intro c hc
 unfold wordValid at h
 simp only [Bool.and_eq_true] at h
 obtain ⟨i, hi, rfl⟩ := List.getElem_of_mem hc
 have hi2 : i < s.size := by rw [← ba_len]; exact hi
 have h1 := allN_iff.1 h.1 i hi2
 have e := bt_byte s i hi2
 rw [bt_getD] at e
 rw [e] at h1
 unfold byteAt at h1
 rw [List.getD_eq_getElem?_getD, List.getElem?_eq_getElem hi, Option.getD_some] at h1
 unfold wchar inB at h1
 simp only [Bool.or_eq_true, Bool.and_eq_true, decide_eq_true_eq] at h1
 omega
theorem word_no {s : ByteArray} (h : wordValid s = true) {c : UInt8} (hc : c.toNat < 48 ∨ (57 < c.toNat ∧ c.toNat < 97)) : c ∉ s.data.toList := by
 intro hm
 have := wordValid_chars h c hm
 omega
theorem hex_no (n : Nat) {c : UInt8} (hc : isHx c = false) : c ∉ hexL n := by
 intro hm
 rw [hexL_hx n c hm] at hc
 simp at hc
theorem encL_cons (e : S109) (l : List S109) : encL (e :: l) = (e.f0.data.toList ++ 61 :: hexL e.f1.toNat) ++ 59 :: encL l := by
 unfold encL encE
 simp
theorem mkB_nil {l : List UInt8} : (mkB l).toList = ([] : List UInt8) ↔ l = [] := by
 rw [toList_nil]
 exact ⟨fun h => mkB_inj h, fun h => by rw [h]⟩
theorem scan_to {α : Type} (s : ByteArray) (c : Int) (g : Nat → Int → Option α) (j : Nat → Int → Option α)
  (hs : ∀ i : Nat, i < s.size → bt s i ≠ c → ∀ r, Ev (fun k => g k ((i + 1 : Nat) : Int)) r → Ev (fun k => g k (i : Int)) r)
  (hh : ∀ i : Nat, i < s.size → bt s i = c → ∀ r, Ev (fun k => j k (i : Int)) r → Ev (fun k => g k (i : Int)) r)
  (he : ∀ r, Ev (fun k => j k (s.size : Int)) r → Ev (fun k => g k (s.size : Int)) r) : ∀ d a : Nat, a + d = s.size →
  ∃ q : Nat, a ≤ q ∧ q ≤ s.size ∧ (q < s.size → bt s q = c) ∧ (∀ i, a ≤ i → i < q → bt s i ≠ c) ∧ ∀ r, Ev (fun k => j k (q : Int)) r → Ev (fun k => g k (a : Int)) r := by
 intro d
 induction d with
 | zero =>
  intro a ha
  obtain rfl : a = s.size := by omega
  exact ⟨s.size, Nat.le_refl _, Nat.le_refl _, fun h => by omega, fun i h1 h2 => by omega, he⟩
 | succ d ih =>
  intro a ha
  by_cases h : bt s a = c
  ·exact ⟨a, Nat.le_refl _, by omega, fun _ => h, fun i h1 h2 => by omega, hh a (by omega) h⟩
  ·obtain ⟨q, h1, h2, h3, h4, h5⟩ := ih (a + 1) (by omega)
   refine ⟨q, by omega, h2, h3, fun i g1 g2 => ?_, fun r hr => hs a (by omega) h r (h5 r hr)⟩
   by_cases e : i = a
   ·rw [e]; exact h
   ·exact h4 i (by omega) g2
theorem bt_split (s : ByteArray) (a b : List UInt8) (h : s.data.toList = a ++ b) (i : Nat) (hi : i < b.length) : bt s ((a.length + i : Nat) : Int) = ((b.getD i 0).toNat : Int) := by
 have hl := ba_len s
 rw [h, List.length_append] at hl
 rw [bt_byte s _ (by omega)]
 unfold byteAt
 rw [h, List.getD_eq_getElem?_getD, List.getElem?_append_right (by omega), Nat.add_sub_cancel_left, List.getD_eq_getElem?_getD]
theorem first_at {s : ByteArray} {p x y : List UInt8} {c : UInt8} (h : s.data.toList = p ++ (x ++ c :: y)) (hx : c ∉ x) {q : Nat} (h1 : p.length ≤ q) (h2 : q ≤ s.size) (h3 : q < s.size → bt s q = (c.toNat : Int)) (h4 : ∀ i, p.length ≤ i → i < q → bt s i ≠ (c.toNat : Int)) : q = p.length + x.length := by
 have hl := ba_len s
 rw [h, List.length_append, List.length_append, List.length_cons] at hl
 rcases Nat.lt_trichotomy q (p.length + x.length) with g | g | g
 ·exfalso
  have e := h3 (by omega)
  have e2 := bt_split s p (x ++ c :: y) h (q - p.length) (by rw [List.length_append]; omega)
  rw [show p.length + (q - p.length) = q by omega, e, List.getD_eq_getElem?_getD, List.getElem?_append_left (by omega), List.getElem?_eq_getElem (by omega), Option.getD_some] at e2
  apply hx
  have e3 : c = x[q - p.length]'(by omega) := UInt8.toNat_inj.1 (by omega)
  rw [e3]
  exact List.getElem_mem _
 ·exact g
 ·exfalso
  have e2 := bt_split s p (x ++ c :: y) h x.length (by rw [List.length_append, List.length_cons]; omega)
  refine h4 (p.length + x.length) (by omega) g ?_
  rw [e2, List.getD_eq_getElem?_getD, List.getElem?_append_right (Nat.le_refl _), Nat.sub_self]
  rfl
theorem ext_mid {s : ByteArray} {p x y : List UInt8} (h : s.data.toList = p ++ (x ++ y)) : s.extract p.length (p.length + x.length) = mkB x := by
 rw [ba_ext, h, List.drop_left, Nat.add_sub_cancel_left, List.take_left]
theorem spec_readFolder_ev (s : ByteArray) (hs : s.size ≤ 4294967200) : Ev (fun k => spec_ReadFolder.f k s) (readFolder s) := by
 unfold spec_ReadFolder.f
 -- one round, whatever the text
 have round : ∀ (out : List S109) (at_ : Nat), at_ < s.size → out.length ≤ at_ → ∃ q e : Nat, at_ ≤ q ∧ q ≤ e ∧ e ≤ s.size ∧ (q < s.size → bt s q = 61) ∧ (∀ i, at_ ≤ i → i < q → bt s i ≠ 61) ∧ (e < s.size → bt s e = 59) ∧ (∀ i, q ≤ i → i < e → bt s i ≠ 59) ∧
   (e = s.size → Ev (fun k => spec_ReadFolder.l0 k s out (at_ : Int)) ([], false)) ∧
   (e < s.size → q < e ∧ ∀ r, Ev (fun k => spec_ReadFolder.l0 k s (out ++ [⟨s.extract at_ q, readHex (s.extract (q + 1) e)⟩]) ((e + 1 : Nat) : Int)) r → Ev (fun k => spec_ReadFolder.l0 k s out (at_ : Int)) r) := by
  intro out at_ hat hol
  obtain ⟨q, a1, a2, a3, a4, a5⟩ := scan_to s 61 (fun k i => spec_ReadFolder.l1 k s out (at_ : Int) i) (fun k i => spec_ReadFolder.j2 k s out (at_ : Int) i) (fun i hi hb r hr => by
    refine Ev_succ.mpr ?_
    simp only [spec_ReadFolder.l1, w64s i (by omega)]
    rw [Ev_pos (by omega), Ev_pos (by omega), Ev_neg hb]
    exact hr) (fun i hi hb r hr => by
    refine Ev_succ.mpr ?_
    simp only [spec_ReadFolder.l1]
    rw [Ev_pos (by omega), Ev_pos (by omega), Ev_pos hb]
    exact hr) (fun r hr => by
    refine Ev_succ.mpr ?_
    simp only [spec_ReadFolder.l1]
    rw [Ev_neg (by omega)]
    exact hr) (s.size - at_) at_ (by omega)
  obtain ⟨e, b1, b2, b3, b4, b5⟩ := scan_to s 59 (fun k i => spec_ReadFolder.l2 k s out (at_ : Int) (q : Int) i) (fun k i => spec_ReadFolder.j4 k s out (at_ : Int) (q : Int) i) (fun i hi hb r hr => by
    refine Ev_succ.mpr ?_
    simp only [spec_ReadFolder.l2, w64s i (by omega)]
    rw [Ev_pos (by omega), Ev_pos (by omega), Ev_neg hb]
    exact hr) (fun i hi hb r hr => by
    refine Ev_succ.mpr ?_
    simp only [spec_ReadFolder.l2]
    rw [Ev_pos (by omega), Ev_pos (by omega), Ev_pos hb]
    exact hr) (fun r hr => by
    refine Ev_succ.mpr ?_
    simp only [spec_ReadFolder.l2]
    rw [Ev_neg (by omega)]
    exact hr) (s.size - q) q (by omega)
  have go : ∀ r, Ev (fun k => spec_ReadFolder.j4 k s out (at_ : Int) (q : Int) (e : Int)) r → Ev (fun k => spec_ReadFolder.l0 k s out (at_ : Int)) r := by
   intro r hr
   refine Ev_succ.mpr ?_
   simp only [spec_ReadFolder.l0]
   rw [Ev_pos (by omega)]
   refine a5 r ?_
   refine Ev_succ.mpr ?_
   simp only [spec_ReadFolder.j2]
   exact b5 r hr
  refine ⟨q, e, a1, b1, b2, a3, a4, b3, b4, fun he => go _ ?_, fun he => ?_⟩
  ·refine Ev_succ.mpr ?_
   simp only [spec_ReadFolder.j4]
   rw [Ev_pos (by omega)]
   exact Ev_some.mpr rfl
  ·have hqe : q < e := by
    rcases Nat.lt_or_ge q e with h | h
    ·exact h
    ·exfalso
     have h1 := b3 he
     have h2 : q = e := by omega
     rw [← h2, a3 (by omega)] at h1
     omega
   refine ⟨hqe, fun r hr => go r ?_⟩
   refine Ev_succ.mpr ?_
   simp only [spec_ReadFolder.j4, w64s q (by omega), w64s e (by omega), Int.toNat_natCast]
   rw [Ev_neg (by omega), Ev_pos (by omega), Ev_pos (by omega), Ev_pos (by omega), Ev_pos (by omega), Ev_pos (by omega), Ev_pos (by omega), Ev_bd (spec_readHex_ev _ (by rw [ByteArray.size_extract]; omega)), Ev_pos (by omega)]
   exact hr
 rcases readFolder_cases s with ⟨L, hL, hsL, hr⟩ | ⟨hno, hr⟩
 ·rw [hr]
  have hlen := entriesValid_len hL
  have hsz := entriesValid_sized hL
  have e0 : s = mkB (100 :: encL L) := by rw [hsL]; unfold folderT; rw [if_pos hL]
  have hdat : s.data.toList = 100 :: encL L := by rw [e0, list_mkB]
  have hsz0 : s.size = 1 + (encL L).length := by rw [e0, ba_size]; simp only [List.length_cons]; omega
  have key : ∀ d i, i + d = L.length → Ev (fun k => spec_ReadFolder.l0 k s (L.take i) ((1 + (encL (L.take i)).length : Nat) : Int)) (L, true) := by
   intro d
   induction d with
   | zero =>
    intro i hi
    rw [List.take_of_length_le (by omega)]
    refine Ev_succ.mpr ?_
    simp only [spec_ReadFolder.l0]
    rw [Ev_neg (by omega), Ev_bd (spec_folderT_ev L hsz), Ev_pos (by rw [hsL]), Ev_neg (by rw [e0, mkB_nil]; simp)]
    exact Ev_some.mpr rfl
   | succ d ih =>
    intro i hi
    have hd := drop_cons L z109 i (by omega)
    have hm : L.getD i z109 ∈ L := by rw [getD_at L _ i (by omega)]; exact List.getElem_mem _
    obtain ⟨g1, g2⟩ := ent_ok hL _ hm
    have htk := encL_take L i (by omega)
    have hsp : encL L = encL (L.take i) ++ encL (L.drop i) := by unfold encL; rw [← List.flatMap_append, List.take_append_drop]
    have e9 : L[i]? = some (L.getD i z109) := by rw [getD_at L _ i (by omega), List.getElem?_eq_getElem (by omega)]
    rw [hd, encL_cons] at hsp
    generalize L.getD i z109 = v at *
    have hA : s.data.toList = (100 :: encL (L.take i)) ++ (v.f0.data.toList ++ 61 :: (hexL v.f1.toNat ++ 59 :: encL (L.drop (i + 1)))) := by rw [hdat, hsp]; simp
    have hlA := ba_len s
    rw [hA] at hlA
    simp only [List.length_append, List.length_cons] at hlA
    have hp : (100 :: encL (L.take i)).length = 1 + (encL (L.take i)).length := by simp only [List.length_cons]; omega
    obtain ⟨q, e, a1, a2, a3, a4, a5, a6, a7, a8, a9⟩ := round (L.take i) (1 + (encL (L.take i)).length) (by omega) (by
     rw [List.length_take]
     have h1 := encL_take_len hL i (by omega)
     rcases Nat.eq_zero_or_pos i with h0 | h0
     ·omega
     ·have : 3 ≤ i ∨ i < 3 := by omega
      have h5 : i ≤ (encL (L.take i)).length := by
       have : ∀ m : List S109, m.length ≤ (encL m).length := by
        intro m
        induction m with
        | nil => simp
        | cons x m ih2 => rw [encL_cons]; simp only [List.length_append, List.length_cons]; omega
       have := this (L.take i)
       rw [List.length_take] at this
       omega
      omega)
    have hq := first_at (c := 61) hA (word_no g1 (by decide)) (q := q) (by omega) (by omega) a4 (by rw [hp]; exact a5)
    have hB : s.data.toList = ((100 :: encL (L.take i)) ++ v.f0.data.toList) ++ ((61 :: hexL v.f1.toNat) ++ 59 :: encL (L.drop (i + 1))) := by rw [hA]; simp
    have hp2 : ((100 :: encL (L.take i)) ++ v.f0.data.toList).length = q := by rw [List.length_append]; omega
    have he := first_at (c := 59) hB (by
     intro hm2
     rcases List.mem_cons.1 hm2 with hm2 | hm2
     ·exact absurd hm2 (by decide)
     ·exact hex_no _ (by decide) hm2) (q := e) (by omega) (by omega) a6 (by rw [hp2]; exact a7)
    rw [hp2, List.length_cons] at he
    rw [hp] at hq
    have hn : s.extract (1 + (encL (L.take i)).length) q = v.f0 := by
     have := ext_mid (s := s) (p := 100 :: encL (L.take i)) (x := v.f0.data.toList) (y := 61 :: (hexL v.f1.toNat ++ 59 :: encL (L.drop (i + 1)))) hA
     rw [hp, ← hq, mkB_list] at this
     exact this
    have hx : s.extract (q + 1) e = mkB (hexL v.f1.toNat) := by
     have hC : s.data.toList = (((100 :: encL (L.take i)) ++ v.f0.data.toList) ++ [61]) ++ (hexL v.f1.toNat ++ 59 :: encL (L.drop (i + 1))) := by rw [hA]; simp
     have := ext_mid hC
     rw [List.length_append, hp2, List.length_singleton] at this
     rw [he, show q + ((hexL v.f1.toNat).length + 1) = q + 1 + (hexL v.f1.toNat).length by omega]
     exact this
    obtain ⟨-, h9⟩ := a9 (by omega)
    refine h9 _ ?_
    have e7 : readHex (mkB (hexL v.f1.toNat)) = v.f1 := by
     have h10 : readHex (hexB v.f1.toNat) = (v.f1.toNat : Int) := readHex_hexB (n := v.f1.toNat) (by omega)
     exact h10.trans (Int.toNat_of_nonneg g2.1)
    rw [hn, hx, e7]
    have e8 : L.take i ++ [⟨v.f0, v.f1⟩] = L.take (i + 1) := by
     rw [List.take_add_one, e9]
     rfl
    rw [e8]
    have e10 : e + 1 = 1 + (encL (L.take (i + 1))).length := by
     rw [htk, List.length_append]
     unfold encE
     simp only [List.length_append, List.length_cons, List.length_nil]
     omega
    rw [e10]
    exact ih (i + 1) (by omega)
  have := key L.length 0 (by omega)
  simpa [encL] using this
 ·rw [hr]
  have key : ∀ n (out : List S109) (at_ : Nat), s.size ≤ at_ + n → out.length ≤ at_ → at_ ≤ s.size + 1 → EntSized out → Ev (fun k => spec_ReadFolder.l0 k s out (at_ : Int)) ([], false) := by
   intro n
   induction n with
   | zero =>
    intro out at_ h1 h2 h3 h4
    refine Ev_succ.mpr ?_
    simp only [spec_ReadFolder.l0]
    rw [Ev_neg (by omega), Ev_bd (spec_folderT_ev out h4), Ev_ite]
    split
    ·rename_i he
     rw [toList_iff] at he
     by_cases hv : entriesValid out = true
     ·exact absurd he.symm (hno out hv)
     ·unfold folderT at he
      rw [if_neg hv] at he
      rw [Ev_pos (toList_nil.2 he.symm)]
      exact Ev_some.mpr rfl
    ·exact Ev_some.mpr rfl
   | succ n ih =>
    intro out at_ h1 h2 h3 h4
    rcases Nat.lt_or_ge at_ s.size with hlt | hge
    ·obtain ⟨q, e, a1, a2, a3, a4, a5, a6, a7, a8, a9⟩ := round out at_ hlt h2
     by_cases he : e = s.size
     ·exact a8 he
     ·obtain ⟨hqe, h9⟩ := a9 (by omega)
      refine h9 _ (ih _ _ (by omega) (by simp; omega) (by omega) ⟨by simp; omega, fun v hv => ?_⟩)
      rcases List.mem_append.1 hv with hv | hv
      ·exact h4.2 v hv
      ·rw [List.mem_singleton.1 hv]
       show (s.extract at_ q).size ≤ _
       rw [ByteArray.size_extract]
       omega
    ·exact ih out at_ (by omega) h2 h3 h4
  exact key s.size [] 1 (by omega) (by simp) (by omega) ⟨by simp, fun v hv => by simp at hv⟩
theorem readFolder_folderT {L : List S109} (h : entriesValid L = true) : readFolder (folderT L) = (L, true) := by
 have h1 := folderT_size L
 rcases readFolder_cases (folderT L) with ⟨M, hM, e, hr⟩ | ⟨hno, hr⟩
 ·have h2 : 100 :: encL L = 100 :: encL M := by
   unfold folderT at e
   rw [if_pos h, if_pos hM] at e
   exact mkB_inj e
  have h3 : ∀ (a b : List S109), entriesValid a = true → entriesValid b = true → encL a = encL b → a = b := by
   intro a
   induction a with
   | nil =>
    intro b _ _ hab
    cases b with
    | nil => rfl
    | cons y b => rw [encL_cons] at hab; exact absurd hab.symm (by simp [encL])
   | cons x a ih =>
    intro b ha hb hab
    cases b with
    | nil => rw [encL_cons] at hab; exact absurd hab (by simp [encL])
    | cons y b =>
     rw [encL_cons, encL_cons] at hab
     obtain ⟨x1, x2⟩ := ent_ok ha x List.mem_cons_self
     obtain ⟨y1, y2⟩ := ent_ok hb y List.mem_cons_self
     have c1 : ∀ v : S109, wordValid v.f0 = true → (59 : UInt8) ∉ v.f0.data.toList ++ 61 :: hexL v.f1.toNat := by
      intro v hv hm
      rcases List.mem_append.1 hm with hm | hm
      ·exact word_no hv (by decide) hm
      ·rcases List.mem_cons.1 hm with hm | hm
       ·exact absurd hm (by decide)
       ·exact hex_no _ (by decide) hm
     have k1 := cut_at 59 _ (encL a) (c1 x x1)
     rw [hab, cut_at 59 _ (encL b) (c1 y y1)] at k1
     simp only [Prod.mk.injEq] at k1
     have k2 := cut_at 61 x.f0.data.toList (hexL x.f1.toNat) (word_no x1 (by decide))
     rw [← k1.1, cut_at 61 y.f0.data.toList (hexL y.f1.toNat) (word_no y1 (by decide))] at k2
     simp only [Prod.mk.injEq] at k2
     have n1 : y.f0 = x.f0 := by rw [← mkB_list y.f0, k2.1, mkB_list]
     have n2 : y.f1 = x.f1 := by have := hexL_inj k2.2.1; omega
     have tl : ∀ (v : S109) (c : List S109), entriesValid (v :: c) = true → entriesValid c = true := fun v c hc => entriesValid_sub hc (List.sublist_cons_self _ _)
     rw [ih b (tl x a ha) (tl y b hb) k1.2.1.symm]
     cases x
     cases y
     simp only at n1 n2
     rw [n1, n2]
  rw [hr, h3 L M h hM (List.cons.inj h2).2]
 ·exact absurd rfl (hno L h)
theorem folderT_inj {L M : List S109} (h : entriesValid L = true) (g : entriesValid M = true) (e : folderT L = folderT M) : L = M := by
 have h1 := readFolder_folderT h
 rw [e, readFolder_folderT g] at h1
 exact (Prod.mk.inj h1).1.symm
theorem readFolder_valid {s : ByteArray} (h : (readFolder s).2 = true) : entriesValid (readFolder s).1 = true ∧ s = folderT (readFolder s).1 := by
 rcases readFolder_cases s with ⟨M, hM, e, hr⟩ | ⟨hno, hr⟩
 ·rw [hr]; exact ⟨hM, e⟩
 ·rw [hr] at h; simp at h
theorem readFolder_not {s : ByteArray} (h : ¬ (readFolder s).2 = true) : readFolder s = ([], false) := by
 rcases readFolder_cases s with ⟨M, hM, e, hr⟩ | ⟨hno, hr⟩
 ·rw [hr] at h; simp at h
 ·exact hr
end Go.Proofs.Ytcbmkonigclceaa.Mod
