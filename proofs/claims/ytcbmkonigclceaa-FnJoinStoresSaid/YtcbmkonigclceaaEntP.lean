/- What PutEntry and DropEntry come to. -/
import Derived.Test.YtcbmkonigclceaaPx0
import Derived.Test.YtcbmkonigclceaaPx4
import Derived.Test.YtcbmkonigclceaaPx5
import Derived.Test.YtcbmkonigclceaaEntF
namespace Go.Proofs.Ytcbmkonigclceaa.Mod
open Go.RowKit Go.Proofs.Ytcbmkonigclceaa.P Go.Proofs.Ytcbmkonigclceaa.EvK Go.Proofs.YtcbmkonigclceaaW.PrintWords Go.Proofs.YtcbmkonigclceaaW.PrintLast
set_option linter.all false
def posE (l : List S109) (t : ByteArray) : Nat := (l.takeWhile (fun b => lessS b.f0 t)).length
theorem posE_le (l : List S109) (t : ByteArray) : posE l t ≤ l.length := by
 unfold posE
 exact (List.takeWhile_sublist _).length_le
open Classical in
noncomputable def putE (l : List S109) (b : S109) : List S109 :=
 l.take (posE l b.f0) ++ [b] ++ (if posE l b.f0 < l.length ∧ (l.getD (posE l b.f0) z109).f0 = b.f0 then l.drop (posE l b.f0 + 1) else l.drop (posE l b.f0))
noncomputable def setE (l : List S109) (b : S109) : List S109 × Bool :=
 if entriesValid l = true then (if entriesValid (putE l b) = true then (putE l b, true) else (l, false)) else ([], false)
theorem putE_mem {l : List S109} {b v : S109} (h : v ∈ putE l b) : v ∈ l ∨ v = b := by
 unfold putE at h
 rcases List.mem_append.1 h with h | h
 ·rcases List.mem_append.1 h with h | h
  ·exact Or.inl (List.mem_of_mem_take h)
  ·exact Or.inr (List.mem_singleton.1 h)
 ·split at h <;> exact Or.inl (List.mem_of_mem_drop h)
theorem putE_len (l : List S109) (b : S109) : (putE l b).length ≤ l.length + 1 := by
 unfold putE
 have := posE_le l b.f0
 split <;> simp <;> omega
theorem putE_sized {l : List S109} {b : S109} (h : EntSized l) (hl : l.length ≤ 1048576) (hb : b.f0.size ≤ 9223372036854775807) : EntSized (putE l b) := by
 refine ⟨by have := putE_len l b; omega, fun v hv => ?_⟩
 rcases putE_mem hv with hv | rfl
 ·exact h.2 v hv
 ·exact hb
theorem posE_spec (l : List S109) (t : ByteArray) : (∀ j, j < posE l t → lessS (l.getD j z109).f0 t = true) ∧ (posE l t < l.length → lessS (l.getD (posE l t) z109).f0 t = false) := by
 unfold posE
 induction l with
 | nil => exact ⟨fun j hj => by simp at hj, fun h => by simp at h⟩
 | cons a l ih =>
  rw [List.takeWhile_cons]
  by_cases h : lessS a.f0 t = true
  ·rw [if_pos h]
   refine ⟨fun j hj => ?_, fun hj => ?_⟩
   ·cases j with
    | zero => simpa using h
    | succ j => simpa using ih.1 j (by simpa using hj)
   ·simpa using ih.2 (by simpa using hj)
  ·rw [if_neg h]
   exact ⟨fun j hj => by simp at hj, fun _ => by simpa using h⟩
theorem posE_uniq {l : List S109} {t : ByteArray} {r : Nat} (h0 : r ≤ l.length) (h1 : ∀ j, j < r → lessS (l.getD j z109).f0 t = true) (h2 : r < l.length → lessS (l.getD r z109).f0 t = false) : r = posE l t := by
 obtain ⟨g1, g2⟩ := posE_spec l t
 have g0 := posE_le l t
 rcases Nat.lt_trichotomy r (posE l t) with q | q | q
 ·have := g1 r q
  rw [h2 (by omega)] at this
  simp at this
 ·exact q
 ·have := h1 _ q
  rw [g2 (by omega)] at this
  simp at this
theorem spec_setE_ev (l : List S109) (s : ByteArray) (n : Int) (hl : EntSized l) (hn : l.length ≤ 1048576) (hs : s.size ≤ 9223372036854775807) : Ev (fun k => spec_PutEntry.f k l s n) (setE l ⟨s, n⟩) := by
 unfold spec_PutEntry.f setE
 rw [Ev_bd (spec_ent_ev l hl), Ev_ite]
 by_cases h : entriesValid l = true
 ·rw [if_pos h, if_pos h]
  obtain ⟨g1, g2⟩ := posE_spec l s
  have g0 := posE_le l s
  have hz := putE_sized (b := ⟨s, n⟩) hl hn hs
  have hj3 : ∀ rest, rest = (if posE l s < l.length ∧ (l.getD (posE l s) z109).f0 = s then l.drop (posE l s + 1) else l.drop (posE l s)) → Ev (fun k => spec_PutEntry.j3 k l (posE l s : Int) rest s n) (if entriesValid (putE l ⟨s, n⟩) = true then (putE l ⟨s, n⟩, true) else (l, false)) := by
   intro rest hr
   refine Ev_succ.mpr ?_
   have hrl : rest.length ≤ l.length := by rw [hr]; split <;> simp
   simp only [spec_PutEntry.j3, Option.bind_some, List.nil_append, List.length_nil, Int.toNat_natCast]
   have e : l.take (posE l s) ++ [⟨s, n⟩] ++ rest = putE l ⟨s, n⟩ := by unfold putE; rw [hr]
   rw [Ev_pos (by omega), Ev_pos (by omega), Ev_pos (by simp; omega), Ev_pos (by simp; omega), Ev_pos (by simp; omega), e, Ev_bd (spec_ent_ev _ hz), Ev_ite]
   by_cases h2 : entriesValid (putE l ⟨s, n⟩) = true
   ·rw [if_pos h2, if_pos h2]
    exact Ev_some.mpr rfl
   ·rw [if_neg h2, if_neg h2, Ev_pos (by omega)]
    exact Ev_some.mpr rfl
  have hj2 : ∀ b : Bool, (b = true ↔ posE l s < l.length ∧ (l.getD (posE l s) z109).f0 = s) → Ev (fun k => spec_PutEntry.j2 k l (posE l s : Int) (l.drop (posE l s)) b s n) (if entriesValid (putE l ⟨s, n⟩) = true then (putE l ⟨s, n⟩, true) else (l, false)) := by
   intro b hb
   refine Ev_succ.mpr ?_
   simp only [spec_PutEntry.j2]
   rw [Ev_ite]
   by_cases h2 : b = true
   ·have hc := hb.1 h2
    rw [if_pos h2, w64s _ (by omega), Ev_pos (by omega), Ev_pos (by omega)]
    exact hj3 _ (by rw [if_pos hc, Int.toNat_natCast])
   ·rw [if_neg h2]
    exact hj3 _ (by rw [if_neg (fun g => h2 (hb.2 g))])
  have hj1 : Ev (fun k => spec_PutEntry.j1 k l (posE l s : Int) s n) (if entriesValid (putE l ⟨s, n⟩) = true then (putE l ⟨s, n⟩, true) else (l, false)) := by
   refine Ev_succ.mpr ?_
   simp only [spec_PutEntry.j1, Option.bind_some, Int.toNat_natCast, rdEntry]
   rw [Ev_pos (by omega), Ev_pos (by omega), Ev_ite]
   by_cases h2 : posE l s < l.length
   ·rw [if_pos (by omega)]
    refine hj2 _ ?_
    rw [beq_iff_eq, toList_iff]
    exact ⟨fun g => ⟨h2, g⟩, fun g => g.2⟩
   ·rw [if_neg (by omega)]
    exact hj2 _ ⟨fun g => by simp at g, fun g => absurd g.1 h2⟩
  have key : ∀ d i, i + d = posE l s → Ev (fun k => spec_PutEntry.l0 k l (i : Int) s n) (if entriesValid (putE l ⟨s, n⟩) = true then (putE l ⟨s, n⟩, true) else (l, false)) := by
   intro d
   induction d with
   | zero =>
    intro i hi
    obtain rfl : i = posE l s := by omega
    refine Ev_succ.mpr ?_
    simp only [spec_PutEntry.l0, rdEntry]
    rw [Ev_ite]
    by_cases h2 : posE l s < l.length
    ·have := g2 h2
     unfold lessS at this
     rw [if_pos (by omega), Ev_pos (by omega), Ev_neg (by rw [this]; simp)]
     exact hj1
    ·rw [if_neg (by omega)]
     exact hj1
   | succ d ih =>
    intro i hi
    refine Ev_succ.mpr ?_
    have := g1 i (by omega)
    unfold lessS at this
    simp only [spec_PutEntry.l0, rdEntry, w64s i (by omega)]
    rw [Ev_pos (by omega), Ev_pos (by omega), Ev_pos this]
    exact ih (i + 1) (by omega)
  exact key (posE l s) 0 (by omega)
 ·rw [if_neg h, if_neg h]
  exact Ev_some.mpr rfl
theorem setE_valid {l : List S109} (h : entriesValid l = true) (b : S109) : entriesValid (setE l b).1 = true := by
 unfold setE
 rw [if_pos h]
 by_cases h2 : entriesValid (putE l b) = true
 ·rw [if_pos h2]; exact h2
 ·rw [if_neg h2]; exact h
theorem setE_nil {l : List S109} (h : ¬ entriesValid l = true) (b : S109) : setE l b = ([], false) := by
 unfold setE
 rw [if_neg h]
open Classical in
noncomputable def dropE (l : List S109) (t : ByteArray) : List S109 := l.filter (fun b => !decide (b.f0 = t))
noncomputable def drpE (l : List S109) (t : ByteArray) : List S109 × Bool := if entriesValid l = true then (dropE l t, decide ((dropE l t).length < l.length)) else ([], false)
theorem dropE_all {l : List S109} {t : ByteArray} (h : ∀ v ∈ l, v.f0 ≠ t) : dropE l t = l := by
 unfold dropE
 rw [List.filter_eq_self]
 intro v hv
 simpa using h v hv
theorem dropE_append (a b : List S109) (t : ByteArray) : dropE (a ++ b) t = dropE a t ++ dropE b t := by
 unfold dropE
 rw [List.filter_append]
theorem dropE_cons_eq (v : S109) (l : List S109) (t : ByteArray) (h : v.f0 = t) : dropE (v :: l) t = dropE l t := by
 unfold dropE
 rw [List.filter_cons_of_neg (by simp [h])]
theorem dropE_cons_ne (v : S109) (l : List S109) (t : ByteArray) (h : v.f0 ≠ t) : dropE (v :: l) t = v :: dropE l t := by
 unfold dropE
 rw [List.filter_cons_of_pos (by simp [h])]
theorem dropE_sub (l : List S109) (t : ByteArray) : (dropE l t).Sublist l := List.filter_sublist
theorem dropE_not {l : List S109} {t : ByteArray} : ∀ v ∈ dropE l t, v.f0 ≠ t := by
 intro v hv
 unfold dropE at hv
 simpa using (List.mem_filter.1 hv).2
theorem dropE_at {l : List S109} {t : ByteArray} {r : Nat} (hr : r < l.length) (he : (l.getD r z109).f0 = t) (hn : ∀ j, j < l.length → j ≠ r → (l.getD j z109).f0 ≠ t) : dropE l t = l.take r ++ l.drop (r + 1) := by
 have e : l = l.take r ++ l.getD r z109 :: l.drop (r + 1) := by
  rw [← drop_cons l _ r hr, List.take_append_drop]
 have h1 : ∀ v ∈ l.take r, v.f0 ≠ t := by
  intro v hv
  obtain ⟨i, hi, rfl⟩ := List.getElem_of_mem hv
  rw [List.length_take] at hi
  rw [List.getElem_take, ← getD_at l z109 i (by omega)]
  exact hn i (by omega) (by omega)
 have h2 : ∀ v ∈ l.drop (r + 1), v.f0 ≠ t := by
  intro v hv
  obtain ⟨i, hi, rfl⟩ := List.getElem_of_mem hv
  rw [List.length_drop] at hi
  rw [List.getElem_drop, ← getD_at l z109 _ (by omega)]
  exact hn _ (by omega) (by omega)
 rw [congrArg (fun x => dropE x t) e]
 show dropE (l.take r ++ l.getD r z109 :: l.drop (r + 1)) t = _
 rw [dropE_append, dropE_cons_eq _ _ _ he, dropE_all h1, dropE_all h2]
theorem spec_drpE_ev (l : List S109) (t : ByteArray) (hl : EntSized l) (hn : l.length ≤ 1048576) : Ev (fun k => spec_DropEntry.f k l t) (drpE l t) := by
 unfold spec_DropEntry.f drpE
 by_cases h : entriesValid l = true
 ·rw [if_pos h]
  have key : ∀ d i (acc : List S109), i + d = l.length → acc.length ≤ i → Ev (fun k => spec_DropEntry.l0 k l t acc (i : Int)) (acc ++ dropE (l.drop i) t, decide ((acc ++ dropE (l.drop i) t).length < l.length)) := by
   intro d
   induction d with
   | zero =>
    intro i acc hi ha
    refine Ev_succ.mpr ?_
    simp only [spec_DropEntry.l0]
    rw [Ev_neg (by omega), List.drop_eq_nil_of_le (by omega)]
    refine Ev_succ.mpr ?_
    simp only [spec_DropEntry.j1]
    rw [Ev_neg (by simp), Ev_bd (spec_ent_ev l hl), Ev_pos h]
    have e : dropE ([] : List S109) t = [] := rfl
    rw [e, List.append_nil]
    refine Ev_some.mpr ?_
    congr 1
    rw [decide_eq_decide]
    omega
   | succ d ih =>
    intro i acc hi ha
    refine Ev_succ.mpr ?_
    simp only [spec_DropEntry.l0]
    rw [Ev_pos (by omega), Ev_bd (spec_ent_ev l hl), h]
    refine Ev_succ.mpr ?_
    simp only [spec_DropEntry.j1, if_true, rdEntry, w64s i (by omega)]
    rw [Ev_pos (by omega), Ev_pos (by omega), drop_cons l z109 i (by omega), Ev_ite]
    by_cases he : (l.getD i z109).f0 = t
    ·rw [if_pos (by rw [he]), dropE_cons_eq _ _ _ he]
     exact ih (i + 1) acc (by omega) (by omega)
    ·rw [if_neg (fun g => he (toList_iff.1 g)), dropE_cons_ne _ _ _ he, Ev_pos (by omega)]
     have := ih (i + 1) (acc ++ [l.getD i z109]) (by omega) (by simp; omega)
     rw [List.append_assoc] at this
     exact this
  have := key l.length 0 [] (by omega) (by simp)
  simpa using this
 ·rw [if_neg h]
  have hend : Ev (fun k => spec_DropEntry.j1 k l t [] 0 false) ([], false) := by
   refine Ev_succ.mpr ?_
   simp only [spec_DropEntry.j1]
   rw [Ev_neg (by simp), Ev_bd (spec_ent_ev l hl), Ev_neg h]
   exact Ev_some.mpr rfl
  refine Ev_succ.mpr ?_
  simp only [spec_DropEntry.l0]
  rw [Ev_ite]
  split
  ·rw [Ev_bd (spec_ent_ev l hl), (by simpa using h : entriesValid l = false)]
   exact hend
  ·exact hend
theorem drpE_len (l : List S109) (t : ByteArray) : (drpE l t).1.length ≤ 3 := by
 unfold drpE
 split
 ·rename_i h
  have h1 := entriesValid_len h
  have h2 := (dropE_sub l t).length_le
  show (dropE l t).length ≤ 3
  omega
 ·simp
theorem putE_drop (l : List S109) (b : S109) : dropE (putE l b) b.f0 = dropE l b.f0 := by
 have g0 := posE_le l b.f0
 unfold putE
 rw [dropE_append, dropE_append, dropE_cons_eq b [] b.f0 rfl]
 have e0 : dropE ([] : List S109) b.f0 = [] := rfl
 rw [e0, List.append_nil]
 have e1 : dropE l b.f0 = dropE (l.take (posE l b.f0)) b.f0 ++ dropE (l.drop (posE l b.f0)) b.f0 := by rw [← dropE_append, List.take_append_drop]
 rw [e1]
 congr 1
 split
 ·rename_i hc
  rw [drop_cons l z109 _ hc.1, dropE_cons_eq _ _ _ hc.2]
 ·rfl
theorem putE_at (l : List S109) (b : S109) : atE (putE l b) b.f0 = b.f1 := by
 obtain ⟨g1, g2⟩ := posE_spec l b.f0
 have g0 := posE_le l b.f0
 have hl : (l.take (posE l b.f0)).length = posE l b.f0 := by rw [List.length_take]; omega
 have e : (putE l b).getD (posE l b.f0) z109 = b := by
  unfold putE
  rw [List.getD_eq_getElem?_getD, List.append_assoc, List.getElem?_append_right (by omega), hl]
  simp
 rw [atE_at (posE l b.f0) (by unfold putE; rw [List.length_append, List.length_append, hl]; simp; omega) (by rw [e]) (fun j hj => ?_), e]
 have e2 : (putE l b).getD j z109 = l.getD j z109 := by
  unfold putE
  rw [List.getD_eq_getElem?_getD, List.append_assoc, List.getElem?_append_left (by omega), List.getElem?_take, if_pos hj, List.getD_eq_getElem?_getD]
 rw [e2]
 exact lessS_ne (g1 j hj)
end Go.Proofs.Ytcbmkonigclceaa.Mod
