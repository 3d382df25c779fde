/- What PrintOf, StoreValid, findPiece and GetText come to. -/
import Derived.Test.YtcbmkonigclceaaPx0
import Derived.Test.YtcbmkonigclceaaPx1
import Derived.Test.YtcbmkonigclceaaText
import Derived.Test.YtcbmkonigclceaaTPiece
import Derived.Test.YtcbmkonigclceaaOrdP
namespace Go.Proofs.Ytcbmkonigclceaa.Mod
open Go.RowKit Go.Proofs.Ytcbmkonigclceaa.P Go.Proofs.Ytcbmkonigclceaa.EvK Go.Proofs.YtcbmkonigclceaaW.PrintWords Go.Proofs.YtcbmkonigclceaaW.PrintLast
set_option linter.all false
def prL : List Int → Int → Int
 | [], h => h
 | c :: cs, h => prL cs (Int.tmod (h * 257 + c) 16777213)
def printOf (s : ByteArray) : Int := if textValid s = true then prL (bytesOf s) 1 else -1
theorem prL_in : ∀ (cs : List Int) (h : Int), (∀ c ∈ cs, 0 ≤ c ∧ c ≤ 255) → 0 ≤ h ∧ h < 16777213 → 0 ≤ prL cs h ∧ prL cs h < 16777213
 | [], h, _, hh => hh
 | c :: cs, h, hc, hh => by
  have h0 := hc c List.mem_cons_self
  refine prL_in cs _ (fun x hx => hc x (List.mem_cons_of_mem _ hx)) ?_
  rw [Int.tmod_eq_emod_of_nonneg (by omega)]
  exact ⟨Int.emod_nonneg _ (by omega), Int.emod_lt_of_pos _ (by omega)⟩
theorem bytesOf_in (s : ByteArray) : ∀ c ∈ bytesOf s, 0 ≤ c ∧ c ≤ 255 := by
 intro c hc
 unfold bytesOf at hc
 obtain ⟨u, -, rfl⟩ := List.mem_map.1 hc
 have := u.toNat_lt
 omega
theorem printOf_in {s : ByteArray} (h : textValid s = true) : 0 ≤ printOf s ∧ printOf s < 16777213 := by
 unfold printOf
 rw [if_pos h]
 exact prL_in _ _ (bytesOf_in s) (by omega)
theorem printOf_not {s : ByteArray} (h : ¬ textValid s = true) : printOf s = -1 := by
 unfold printOf
 rw [if_neg h]
theorem printOf_ge (s : ByteArray) : -1 ≤ printOf s ∧ printOf s < 16777213 := by
 by_cases h : textValid s = true
 ·have := printOf_in h; omega
 ·rw [printOf_not h]; omega
theorem impl_print_ev (s : ByteArray) (hs : s.size ≤ 9223372036854775807) : Ev (fun k => impl_PrintOf.f k s) (printOf s) := by
 unfold impl_PrintOf.f printOf
 rw [Ev_bd (impl_text_ev s hs), Ev_ite]
 by_cases h : textValid s = true
 ·rw [if_pos h, if_pos h]
  have hsz := textValid_size h
  have hb := bytesOf_in s
  have hl := bytesOf_len s
  have key : ∀ n i (a : Int), i + n = s.size → 0 ≤ a ∧ a < 16777213 → Ev (fun k => impl_PrintOf.l0 k s a (i : Int)) (prL ((bytesOf s).drop i) a) := by
   intro n
   induction n with
   | zero =>
    intro i a hi ha
    refine Ev_succ.mpr ?_
    simp only [impl_PrintOf.l0]
    rw [Ev_neg (by omega), List.drop_eq_nil_of_le (by omega)]
    exact Ev_some.mpr rfl
   | succ n ih =>
    intro i a hi ha
    refine Ev_succ.mpr ?_
    have hc := hb ((bytesOf s).getD i 0) (by rw [List.getD_eq_getElem?_getD, List.getElem?_eq_getElem (show i < (bytesOf s).length by omega)]; exact List.getElem_mem _)
    simp only [impl_PrintOf.l0, bt_getD, w64s i (by omega)]
    rw [Ev_pos (by omega), Ev_pos (by omega), drop_cons (bytesOf s) 0 i (by omega), w64 (x := a * 257) (by omega) (by omega), w64 (x := (bytesOf s).getD i 0) (by omega) (by omega), w64 (x := a * 257 + _) (by omega) (by omega)]
    refine ih (i + 1) _ (by omega) ?_
    rw [Int.tmod_eq_emod_of_nonneg (by omega)]
    exact ⟨Int.emod_nonneg _ (by omega), Int.emod_lt_of_pos _ (by omega)⟩
  have := key s.size 0 1 (by omega) (by omega)
  simpa using this
 ·rw [if_neg h, if_neg h]
  exact Ev_some.mpr rfl
theorem spec_print_ev (s : ByteArray) (hs : s.size ≤ 9223372036854775807) : Ev (fun k => spec_PrintOf.f k s) (printOf s) := by
 unfold spec_PrintOf.f printOf
 rw [Ev_bd (spec_text_ev s hs), Ev_ite]
 by_cases h : textValid s = true
 ·rw [if_pos h, if_pos h]
  have hsz := textValid_size h
  have hb := bytesOf_in s
  have hl := bytesOf_len s
  have key : ∀ n i (a : Int), i + n = s.size → 0 ≤ a ∧ a < 16777213 → Ev (fun k => spec_PrintOf.l0 k s a (i : Int)) (prL ((bytesOf s).drop i) a) := by
   intro n
   induction n with
   | zero =>
    intro i a hi ha
    refine Ev_succ.mpr ?_
    simp only [spec_PrintOf.l0]
    rw [Ev_neg (by omega), List.drop_eq_nil_of_le (by omega)]
    exact Ev_some.mpr rfl
   | succ n ih =>
    intro i a hi ha
    refine Ev_succ.mpr ?_
    have hc := hb ((bytesOf s).getD i 0) (by rw [List.getD_eq_getElem?_getD, List.getElem?_eq_getElem (show i < (bytesOf s).length by omega)]; exact List.getElem_mem _)
    simp only [spec_PrintOf.l0, bt_getD, w64s i (by omega)]
    rw [Ev_pos (by omega), Ev_pos (by omega), drop_cons (bytesOf s) 0 i (by omega), w64 (x := 257 * a) (by omega) (by omega), w64 (x := (bytesOf s).getD i 0) (by omega) (by omega), w64 (x := 257 * a + _) (by omega) (by omega), Int.mul_comm 257 a]
    refine ih (i + 1) _ (by omega) ?_
    rw [Int.tmod_eq_emod_of_nonneg (by omega)]
    exact ⟨Int.emod_nonneg _ (by omega), Int.emod_lt_of_pos _ (by omega)⟩
  have := key s.size 0 1 (by omega) (by omega)
  simpa using this
 ·rw [if_neg h, if_neg h]
  exact Ev_some.mpr rfl
def pieceOk (l : List S65) (i : Nat) : Bool := textValid (l.getD i z65).f1 && decide ((l.getD i z65).f0 = printOf (l.getD i z65).f1) && (decide (i = 0) || decide ((l.getD (i - 1) z65).f0 < (l.getD i z65).f0))
def storeValid (l : List S65) : Bool := allN l.length (fun i => pieceOk l i) && decide ((l.length : Int) ≤ 40)
def StoreSized (l : List S65) : Prop := l.length ≤ 9223372036854775807 ∧ ∀ v ∈ l, v.f1.size ≤ 9223372036854775807
theorem StoreSized.at_ {l : List S65} (h : StoreSized l) {i : Nat} (hi : i < l.length) : (l.getD i z65).f1.size ≤ 9223372036854775807 := by
 rw [List.getD_eq_getElem?_getD, List.getElem?_eq_getElem hi]
 exact h.2 _ (List.getElem_mem hi)
theorem rdPiece1 (xs : List S65) (i : Nat) (h : 0 < i) : rd_T65 xs ((i : Int) - 1) = xs.getD (i - 1) z65 := by
 rw [show (i : Int) - 1 = ((i - 1 : Nat) : Int) by omega, rdPiece]
theorem spec_store_ev (l : List S65) (hl : StoreSized l) : Ev (fun k => spec_StoreValid.f k l) (storeValid l) := by
 unfold spec_StoreValid.f storeValid
 have hn := hl.1
 refine ev_allN l.length (fun k i => spec_StoreValid.l0 k l i) _ _ ?_ ?_
 ·intro i hi r hr
  have hz := hl.at_ hi
  refine Ev_succ.mpr ?_
  simp only [spec_StoreValid.l0, rdPiece, w64s i (by omega)]
  rw [w64 (x := (i : Int) - 1) (by omega) (by omega)]
  rw [Ev_pos (by omega), Ev_pos (by omega), Ev_bd (spec_text_ev _ hz), Ev_ite]
  unfold pieceOk at hr
  by_cases h1 : textValid (l.getD i z65).f1 = true
  ·rw [if_pos h1, Ev_bd (spec_print_ev _ hz), Ev_ite]
   rw [h1, Bool.true_and] at hr
   by_cases h2 : printOf (l.getD i z65).f1 = (l.getD i z65).f0
   ·rw [if_pos h2]
    rw [decide_eq_true h2.symm, Bool.true_and] at hr
    rw [Ev_ite]
    by_cases h0 : i = 0
    ·subst h0
     rw [if_neg (by omega)]
     simpa using hr
    ·rw [if_pos (by omega), Ev_pos (by omega), Ev_pos (by omega), rdPiece1 l i (by omega), Ev_ite]
     rw [decide_eq_false h0, Bool.false_or] at hr
     by_cases h3 : (l.getD (i - 1) z65).f0 < (l.getD i z65).f0
     ·rw [if_neg (by omega)]
      rw [if_pos (by simpa using h3)] at hr
      exact hr
     ·rw [if_pos (by omega)]
      rw [if_neg (by simpa using h3)] at hr
      exact Ev_some.mpr hr
   ·rw [if_neg h2]
    rw [decide_eq_false (fun g => h2 g.symm), Bool.false_and, if_neg (by simp)] at hr
    exact Ev_some.mpr hr
  ·rw [if_neg h1]
   rw [(by simpa using h1 : textValid (l.getD i z65).f1 = false), Bool.false_and, Bool.false_and, if_neg (by simp)] at hr
   exact Ev_some.mpr hr
 ·refine Ev_succ.mpr ?_
  simp [spec_StoreValid.l0, Ev_some]
theorem impl_store_ev (l : List S65) (hl : StoreSized l) : Ev (fun k => impl_StoreValid.f k l) (storeValid l) := by
 unfold impl_StoreValid.f storeValid
 have hn := hl.1
 rw [Ev_ite]
 by_cases h : (l.length : Int) > 40
 ·rw [if_pos h, decide_eq_false (by omega), Bool.and_false]
  exact Ev_some.mpr rfl
 ·rw [if_neg h, decide_eq_true (by omega)]
  refine ev_allN l.length (fun k i => impl_StoreValid.l0 k l l l.length i) _ _ ?_ ?_
  ·intro i hi r hr
   have hz := hl.at_ hi
   refine Ev_succ.mpr ?_
   simp only [impl_StoreValid.l0, rdPiece]
   rw [Ev_pos (by omega), Ev_pos (by omega), Ev_pos (by omega), Ev_bd (impl_text_ev _ hz), Ev_ite]
   have hj1 : ∀ b, Ev (fun k => impl_StoreValid.j1 k l i l l.length i b (l.getD i z65).f0 (l.getD i z65).f1) r ↔
     (if b = true then false = r else if (decide (i = 0) || decide ((l.getD (i - 1) z65).f0 < (l.getD i z65).f0)) = true then Ev (fun k => impl_StoreValid.l0 k l l l.length ((i + 1 : Nat) : Int)) r else false = r) := by
    intro b
    rw [Ev_succ]
    simp only [impl_StoreValid.j1, w64s i (by omega), Ev_ite, Ev_some]
    cases b
    ·simp only [Bool.false_eq_true, if_false]
     by_cases h0 : i = 0
     ·subst h0
      rw [if_neg (by omega), decide_eq_true rfl, Bool.true_or, if_pos rfl]
     ·rw [if_pos (by omega), w64 (x := (i : Int) - 1) (by omega) (by omega), if_pos (by omega), if_pos (by omega), rdPiece1 l i (by omega), decide_eq_false h0, Bool.false_or]
      by_cases h3 : (l.getD (i - 1) z65).f0 < (l.getD i z65).f0
      ·rw [if_neg (by omega), if_pos (by simpa using h3)]
      ·rw [if_pos (by omega), if_neg (by simpa using h3)]
    ·simp
   unfold pieceOk at hr
   generalize (decide (i = 0) || decide ((l.getD (i - 1) z65).f0 < (l.getD i z65).f0)) = c at hr hj1
   by_cases h1 : textValid (l.getD i z65).f1 = true
   ·rw [if_pos h1, Ev_bd (impl_print_ev _ hz), hj1]
    rw [h1, Bool.true_and] at hr
    by_cases h2 : (l.getD i z65).f0 = printOf (l.getD i z65).f1
    ·rw [decide_eq_true h2, Bool.true_and] at hr
     rw [if_neg (by rw [← h2]; simp)]
     exact hr
    ·rw [decide_eq_false h2, Bool.false_and, if_neg (by simp)] at hr
     rw [if_pos (by simpa using h2)]
     exact hr
   ·rw [if_neg h1, hj1, if_pos rfl]
    rw [(by simpa using h1 : textValid (l.getD i z65).f1 = false), Bool.false_and, Bool.false_and, if_neg (by simp)] at hr
    exact hr
  ·refine Ev_succ.mpr ?_
   simp [impl_StoreValid.l0, Ev_some]
theorem storeValid_iff {l : List S65} : storeValid l = true ↔ l.length ≤ 40 ∧ (∀ v ∈ l, textValid v.f1 = true ∧ v.f0 = printOf v.f1) ∧ l.Pairwise (fun a b => a.f0 < b.f0) := by
 have gd : ∀ i (h : i < l.length), l.getD i z65 = l[i] := fun i h => by rw [List.getD_eq_getElem?_getD, List.getElem?_eq_getElem h]; rfl
 unfold storeValid
 rw [Bool.and_eq_true, allN_iff, decide_eq_true_iff]
 constructor
 ·rintro ⟨h, hl⟩
  have step : ∀ i (hi : i < l.length), (textValid (l[i]).f1 = true ∧ (l[i]).f0 = printOf (l[i]).f1) ∧ (i = 0 ∨ (l.getD (i - 1) z65).f0 < (l.getD i z65).f0) := by
   intro i hi
   have := h i hi
   unfold pieceOk at this
   simp only [Bool.and_eq_true, Bool.or_eq_true, decide_eq_true_eq] at this
   rw [← gd i hi]
   exact this
  refine ⟨by omega, fun v hv => ?_, ?_⟩
  ·obtain ⟨i, hi, rfl⟩ := List.getElem_of_mem hv
   exact (step i hi).1
  ·rw [List.pairwise_iff_getElem]
   have less : ∀ j i, i < j → j < l.length → (l.getD i z65).f0 < (l.getD j z65).f0 := by
    intro j
    induction j with
    | zero => intro i hi; omega
    | succ j ih =>
     intro i hi hj
     have hb := (step (j + 1) hj).2.resolve_left (by omega)
     rw [Nat.add_sub_cancel] at hb
     by_cases hij : i = j
     ·rw [hij]; exact hb
     ·have := ih i (by omega) (by omega)
      omega
   intro i j hi hj hij
   have := less j i hij hj
   rwa [gd i hi, gd j hj] at this
 ·rintro ⟨h2, h3, h4⟩
  refine ⟨fun i hi => ?_, by omega⟩
  have hv := h3 _ (List.getElem_mem hi)
  unfold pieceOk
  rw [gd i hi, hv.1, decide_eq_true hv.2, Bool.true_and, Bool.true_and]
  by_cases h0 : i = 0
  ·simp [h0]
  ·rw [decide_eq_false h0, Bool.false_or, gd (i - 1) (by omega), decide_eq_true_iff]
   exact List.pairwise_iff_getElem.1 h4 (i - 1) i (by omega) hi (by omega)
theorem storeValid_sized {l : List S65} (h : storeValid l = true) : StoreSized l := by
 obtain ⟨h1, h2, -⟩ := storeValid_iff.1 h
 exact ⟨by omega, fun v hv => by have := textValid_size (h2 v hv).1; omega⟩
theorem pieceAt (l : List S65) (i : Nat) (h : i < l.length) : l.getD i z65 = l[i] := by
 rw [List.getD_eq_getElem?_getD, List.getElem?_eq_getElem h]
 rfl
theorem store_less {l : List S65} (h : storeValid l = true) (i j : Nat) (hij : i < j) (hj : j < l.length) : (l.getD i z65).f0 < (l.getD j z65).f0 := by
 obtain ⟨-, -, h3⟩ := storeValid_iff.1 h
 have := List.pairwise_iff_getElem.1 h3 i j (by omega) hj hij
 rwa [← pieceAt l i (by omega), ← pieceAt l j hj] at this
end Go.Proofs.Ytcbmkonigclceaa.Mod
