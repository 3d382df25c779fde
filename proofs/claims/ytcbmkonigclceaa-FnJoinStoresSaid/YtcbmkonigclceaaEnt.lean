/- What EntriesValid comes to. -/
import Derived.Test.YtcbmkonigclceaaPx0
import Derived.Test.YtcbmkonigclceaaPx2
import Derived.Test.YtcbmkonigclceaaBase
import Derived.Test.YtcbmkonigclceaaTEntry
import Derived.Test.YtcbmkonigclceaaOrd
namespace Go.Proofs.Ytcbmkonigclceaa.Mod
open Go.RowKit Go.Proofs.Ytcbmkonigclceaa.P Go.Proofs.Ytcbmkonigclceaa.EvK Go.Proofs.YtcbmkonigclceaaW.PrintWords Go.Proofs.YtcbmkonigclceaaW.PrintLast
set_option linter.all false
def entOk (l : List S109) (i : Nat) : Bool :=
 wordValid (l.getD i z109).f0 && inB (l.getD i z109).f1 0 16777212 && (decide (i = 0) || lessS (l.getD (i - 1) z109).f0 (l.getD i z109).f0)
def entriesValid (l : List S109) : Bool := allN l.length (fun i => entOk l i) && decide ((l.length : Int) ≤ 3)
def EntSized (l : List S109) : Prop := l.length ≤ 9223372036854775807 ∧ ∀ v ∈ l, v.f0.size ≤ 9223372036854775807
theorem EntSized.at_ {l : List S109} (h : EntSized l) {i : Nat} (hi : i < l.length) : (l.getD i z109).f0.size ≤ 9223372036854775807 := by
 rw [List.getD_eq_getElem?_getD, List.getElem?_eq_getElem hi]
 exact h.2 _ (List.getElem_mem hi)
theorem rdEntry1 (xs : List S109) (i : Nat) (h : 0 < i) : rd_T109 xs ((i : Int) - 1) = xs.getD (i - 1) z109 := by
 rw [show (i : Int) - 1 = ((i - 1 : Nat) : Int) by omega, rdEntry]
theorem spec_ent_ev (l : List S109) (hl : EntSized l) : Ev (fun k => spec_EntriesValid.f k l) (entriesValid l) := by
 unfold spec_EntriesValid.f entriesValid
 have hn := hl.1
 refine ev_allN l.length (fun k i => spec_EntriesValid.l0 k l i) _ _ ?_ ?_
 ·intro i hi r hr
  have hz := hl.at_ hi
  refine Ev_succ.mpr ?_
  simp only [spec_EntriesValid.l0, rdEntry, w64s i (by omega), l1In_eq, Option.bind_some, Ev_ite]
  rw [w64 (x := (i : Int) - 1) (by omega) (by omega)]
  rw [if_pos (by omega), if_pos (by omega), Ev_bd (spec_word_ev _ hz), Ev_ite]
  unfold entOk at hr
  by_cases h0 : i = 0
  ·subst h0
   cases h1 : wordValid (l.getD 0 z109).f0 <;> cases h2 : inB (l.getD 0 z109).f1 0 16777212 <;> simp only [h1, h2, Bool.and_true, Bool.true_and, Bool.false_and, Bool.and_false, Bool.true_or, decide_true, if_true, Bool.false_eq_true, if_false, Ev_some, Ev_ite, Ev_bs] at hr ⊢ <;> simpa [Ev_some] using hr
  ·rw [rdEntry1 l i (by omega)]
   have e0 : decide (i = 0) = false := decide_eq_false h0
   rw [e0] at hr
   unfold lessS at hr
   cases h1 : wordValid (l.getD i z109).f0 <;> cases h2 : inB (l.getD i z109).f1 0 16777212 <;> cases h3 : Op.bytesLess (l.getD (i - 1) z109).f0.toList (l.getD i z109).f0.toList <;> simp only [h1, h2, h3, Bool.and_true, Bool.true_and, Bool.false_and, Bool.and_false, Bool.false_or, if_true, Bool.false_eq_true, if_false, Ev_some, Ev_ite, Ev_bs] at hr ⊢
   all_goals first | (rw [if_pos (by omega), if_pos (by omega), if_pos (by omega)]; simpa [Ev_some] using hr) | simpa [Ev_some] using hr
 ·refine Ev_succ.mpr ?_
  simp [spec_EntriesValid.l0, Ev_some]
theorem entriesValid_len {l : List S109} (h : entriesValid l = true) : l.length ≤ 3 := by
 unfold entriesValid at h
 simp only [Bool.and_eq_true, decide_eq_true_eq] at h
 omega
theorem entriesValid_at {l : List S109} (h : entriesValid l = true) {i : Nat} (hi : i < l.length) : entOk l i = true := by
 unfold entriesValid at h
 simp only [Bool.and_eq_true] at h
 exact allN_iff.1 h.1 i hi
theorem wordValid_size' {s : ByteArray} (h : wordValid s = true) : s.size ≤ 8 := by
 unfold wordValid at h
 simp only [Bool.and_eq_true] at h
 have := (inB_iff.1 h.2).2
 omega
theorem entriesValid_word {l : List S109} (h : entriesValid l = true) : ∀ v ∈ l, v.f0.size ≤ 8 := by
 intro v hv
 obtain ⟨i, hi, rfl⟩ := List.getElem_of_mem hv
 have := entriesValid_at h hi
 unfold entOk at this
 simp only [Bool.and_eq_true] at this
 have := this.1.1
 rw [List.getD_eq_getElem?_getD, List.getElem?_eq_getElem hi] at this
 exact wordValid_size' this
theorem entriesValid_sized {l : List S109} (h : entriesValid l = true) : EntSized l :=
 ⟨by have := entriesValid_len h; omega, fun v hv => by have := entriesValid_word h v hv; omega⟩
theorem entriesValid_less {l : List S109} (h : entriesValid l = true) : ∀ j i : Nat, i < j → j < l.length → lessS (l.getD i z109).f0 (l.getD j z109).f0 = true := by
 intro j
 induction j with
 | zero => intro i hi; omega
 | succ j ih =>
  intro i hi hj
  have hb := entriesValid_at h hj
  unfold entOk at hb
  simp only [Bool.and_eq_true, Bool.or_eq_true, decide_eq_true_eq, Nat.add_sub_cancel] at hb
  have hb := hb.2.resolve_left (by omega)
  by_cases hij : i = j
  ·rw [hij]; exact hb
  ·exact lessS_trans (ih i (by omega) (by omega)) hb
theorem getD_at {α : Type} (l : List α) (z : α) (i : Nat) (h : i < l.length) : l.getD i z = l[i] := by
 rw [List.getD_eq_getElem?_getD, List.getElem?_eq_getElem h]
 rfl
theorem entriesValid_iff {l : List S109} : entriesValid l = true ↔ l.length ≤ 3 ∧ (∀ v ∈ l, wordValid v.f0 = true ∧ inB v.f1 0 16777212 = true) ∧ l.Pairwise (fun a b => lessS a.f0 b.f0 = true) := by
 constructor
 ·intro h
  refine ⟨entriesValid_len h, fun v hv => ?_, ?_⟩
  ·obtain ⟨i, hi, rfl⟩ := List.getElem_of_mem hv
   have := entriesValid_at h hi
   unfold entOk at this
   simp only [Bool.and_eq_true] at this
   rw [getD_at l _ i hi] at this
   exact this.1
  ·rw [List.pairwise_iff_getElem]
   intro i j hi hj hij
   have := entriesValid_less h j i hij hj
   rwa [getD_at l _ i hi, getD_at l _ j hj] at this
 ·rintro ⟨h2, h3, h4⟩
  unfold entriesValid
  rw [Bool.and_eq_true, decide_eq_true_iff]
  refine ⟨allN_iff.2 (fun i hi => ?_), by omega⟩
  unfold entOk
  rw [getD_at l _ i hi]
  have hv := h3 _ (List.getElem_mem hi)
  rw [hv.1, hv.2, Bool.true_and, Bool.true_and]
  by_cases h0 : i = 0
  ·simp [h0]
  ·rw [decide_eq_false h0, Bool.false_or, getD_at l _ (i - 1) (by omega)]
   exact List.pairwise_iff_getElem.1 h4 (i - 1) i (by omega) hi (by omega)
theorem entriesValid_nil : entriesValid [] = true := by decide
theorem entriesValid_sub {l m : List S109} (h : entriesValid l = true) (hs : m.Sublist l) : entriesValid m = true := by
 obtain ⟨h2, h3, h4⟩ := entriesValid_iff.1 h
 exact entriesValid_iff.2 ⟨by have := hs.length_le; omega, fun v hv => h3 v (hs.subset hv), h4.sublist hs⟩
theorem ents_once {l : List S109} (h : entriesValid l = true) {t : ByteArray} {r : Nat} (hr : r < l.length) (he : (l.getD r z109).f0 = t) : ∀ j, j < l.length → j ≠ r → (l.getD j z109).f0 ≠ t := by
 intro j hj hne e
 rcases Nat.lt_or_ge j r with q | q
 ·have := entriesValid_less h r j q hr
  rw [e, he, lessS_irrefl] at this
  simp at this
 ·have := entriesValid_less h j r (by omega) hj
  rw [e, he, lessS_irrefl] at this
  simp at this
open Classical in
noncomputable def atE : List S109 → ByteArray → Int
 | [], _ => -1
 | b :: l, t => if b.f0 = t then b.f1 else atE l t
theorem atE_none {l : List S109} {t : ByteArray} (h : ∀ v ∈ l, v.f0 ≠ t) : atE l t = -1 := by
 induction l with
 | nil => rfl
 | cons b l ih =>
  rw [atE, if_neg (h b List.mem_cons_self)]
  exact ih (fun v hv => h v (List.mem_cons_of_mem _ hv))
theorem atE_at : ∀ {l : List S109} {t : ByteArray} (i : Nat), i < l.length → (l.getD i z109).f0 = t → (∀ j, j < i → (l.getD j z109).f0 ≠ t) → atE l t = (l.getD i z109).f1
 | [], _, _, h, _, _ => by simp at h
 | b :: l, t, 0, _, h, _ => by
  rw [atE, if_pos (by simpa using h)]
  simp
 | b :: l, t, i + 1, hi, h, hn => by
  rw [atE, if_neg (by simpa using hn 0 (by omega))]
  have := atE_at (l := l) (t := t) i (by simpa using hi) (by simpa using h) (fun j hj => by simpa using hn (j + 1) (by omega))
  simpa using this
end Go.Proofs.Ytcbmkonigclceaa.Mod
