/- What PackLog comes to. -/
import Derived.Test.YtcbmkonigclceaaPx0
import Derived.Test.YtcbmkonigclceaaPx32
import Derived.Test.YtcbmkonigclceaaPx33
import Derived.Test.YtcbmkonigclceaaPx34
import Derived.Test.YtcbmkonigclceaaDone
import Derived.Test.YtcbmkonigclceaaLogAdd
namespace Go.Proofs.Ytcbmkonigclceaa.Mod
open Go.RowKit Go.Proofs.Ytcbmkonigclceaa.P Go.Proofs.Ytcbmkonigclceaa.EvK Go.Proofs.YtcbmkonigclceaaW.PrintWords Go.Proofs.YtcbmkonigclceaaW.PrintLast
set_option linter.unusedVariables false
set_option linter.unusedSimpArgs false
open Classical in
noncomputable def dedupT (acc : List ByteArray) (l : List ByteArray) : List ByteArray := l.foldl (fun a t => if t ∈ a then a else a ++ [t]) acc
theorem dedupT_cons (acc : List ByteArray) (t : ByteArray) (l : List ByteArray) : dedupT acc (t :: l) = open Classical in dedupT (if t ∈ acc then acc else acc ++ [t]) l := rfl
noncomputable def packLog (l : List S39) : List S39 := if logValid l = true then (if (logAdd [] (dedupT [] (logDone l))).2 = true then (logAdd [] (dedupT [] (logDone l))).1 else []) else []
theorem dedupT_len : ∀ (l acc : List ByteArray), (dedupT acc l).length ≤ acc.length + l.length
  | [], acc => by simp [dedupT]
  | t :: l, acc => by
    rw [dedupT_cons]
    refine Nat.le_trans (dedupT_len l _) ?_
    split <;> simp <;> omega
theorem dedupT_mem : ∀ (l acc : List ByteArray) (t : ByteArray), t ∈ dedupT acc l → t ∈ acc ∨ t ∈ l
  | [], acc, t, h => Or.inl h
  | u :: l, acc, t, h => by
    rw [dedupT_cons] at h
    rcases dedupT_mem l _ t h with h | h
    · split at h
      · exact Or.inl h
      · rcases List.mem_append.1 h with h | h
        · exact Or.inl h
        · rw [List.mem_singleton.1 h]; exact Or.inr List.mem_cons_self
    · exact Or.inr (List.mem_cons_of_mem _ h)
theorem doneL_size : ∀ (l : List S39) (s : DoneS), (∀ e ∈ l, e.f1.size ≤ 60) → (∀ t ∈ s.1, t.size ≤ 60) → (∀ t ∈ s.2.1, t.size ≤ 60) → ∀ t ∈ (doneL s l).1, t.size ≤ 60
  | [], s, _, h, _ => h
  | e :: l, s, hl, h1, h2 => by
    rw [doneL_cons]
    refine doneL_size l _ (fun e he => hl e (List.mem_cons_of_mem _ he)) ?_ ?_
    · unfold stepD
      split
      · exact h1
      · split
        · exact h1
        · dsimp only
          split
          · intro t ht
            rcases List.mem_append.1 ht with ht | ht
            · exact h1 t ht
            · exact h2 t ht
          · exact h1
    · unfold stepD
      split
      · intro t ht; simp at ht
      · split
        · dsimp only
          split
          · intro t ht
            rcases List.mem_append.1 ht with ht | ht
            · exact h2 t ht
            · rw [List.mem_singleton.1 ht]; exact hl e List.mem_cons_self
          · exact h2
        · intro t ht; simp at ht
theorem logDone_size (l : List S39) : ∀ t ∈ logDone l, t.size ≤ 60 := by
  unfold logDone
  split
  · rename_i h
    exact doneL_size l _ (fun e he => logOk_size ((logValid_mem.1 h).1 e he)) (by simp) (by simp)
  · intro t ht; simp at ht
theorem containsT_ev (y : List ByteArray) (t : ByteArray) (hy : y.length ≤ 9223372036854775807) : Ev (fun k => slices_Contains_string_string.f k y t) (open Classical in decide (t ∈ y)) := by
  classical
  have key : ∀ d i, i + d = y.length → EvP (fun k => slices_Index_string_string.l0 k y t y.length (i : Int)) (fun v => 0 ≤ v ↔ t ∈ y.drop i) := by
    intro d
    induction d with
    | zero =>
      intro i hi
      refine EvP_succ.mpr ?_
      simp only [slices_Index_string_string.l0]
      rw [EvP_neg (by omega), List.drop_eq_nil_of_le (by omega)]
      exact EvP_some.mpr (by simp)
    | succ d ih =>
      intro i hi
      refine EvP_succ.mpr ?_
      simp only [slices_Index_string_string.l0, rdT_nat, w64s i (by omega)]
      rw [EvP_pos (by omega), EvP_pos (by omega), EvP_pos (by omega), drop_cons y ByteArray.empty i (by omega), EvP_ite]
      by_cases he : t = y.getD i ByteArray.empty
      · rw [if_pos (by rw [he])]
        exact EvP_some.mpr ⟨fun _ => by rw [he]; exact List.mem_cons_self, fun _ => by omega⟩
      · rw [if_neg (fun g => he (toList_iff.1 g))]
        refine EvP_mono (ih (i + 1) (by omega)) ?_
        intro v hv
        rw [hv, List.mem_cons]
        exact ⟨Or.inr, fun h => h.resolve_left he⟩
  unfold slices_Contains_string_string.f slices_Index_string_string.f
  obtain ⟨v, hv, h⟩ := key y.length 0 (by omega)
  rw [List.drop_zero] at h
  have hv2 : Ev (fun k => slices_Index_string_string.l0 k y t y.length 0) v := hv
  rw [Ev_bd hv2]
  refine Ev_some.mpr ?_
  rw [decide_eq_decide]
  exact h
theorem impl_pack_ev (l : List S39) (hl : LogSized l) : Ev (fun k => impl_PackLog.f k l) (packLog l) := by
  unfold impl_PackLog.f packLog
  rw [Ev_bd (impl_log_ev l hl), Ev_ite]
  by_cases h : logValid l = true
  · rw [if_pos h, if_pos h, Ev_bd (impl_done_ev l hl)]
    have hd := (logDone_len l).2
    have hz := logDone_size l
    generalize logDone l = ts at *
    have key : ∀ n i (acc : List ByteArray), i + n = ts.length → acc.length ≤ i → (∀ t ∈ acc, t.size ≤ 60) → Ev (fun k => impl_PackLog.l0 k acc ts (ts.length : Int) (i : Int)) (if (logAdd [] (dedupT acc (ts.drop i))).2 = true then (logAdd [] (dedupT acc (ts.drop i))).1 else []) := by
      intro n
      induction n with
      | zero =>
        intro i acc hi ha hza
        refine Ev_succ.mpr ?_
        simp only [impl_PackLog.l0]
        rw [Ev_neg (by omega), List.drop_eq_nil_of_le (by omega)]
        have e : dedupT acc [] = acc := rfl
        rw [e, Ev_bd (impl_logAdd_ev [] acc ⟨by simp, by simp⟩ (by simp) (by omega) (fun t ht => by have := hza t ht; omega)), Ev_ite]
        split <;> exact Ev_some.mpr rfl
      | succ n ih =>
        intro i acc hi ha hza
        refine Ev_succ.mpr ?_
        simp only [impl_PackLog.l0, rdT_nat, w64s i (by omega)]
        rw [Ev_pos (by omega), Ev_pos (by omega), Ev_pos (by omega), Ev_bd (containsT_ev acc _ (by omega)), drop_cons ts ByteArray.empty i (by omega), dedupT_cons, Ev_ite]
        by_cases hm : ts.getD i ByteArray.empty ∈ acc
        · rw [if_pos (by simpa using hm), if_pos hm]
          exact ih (i + 1) acc (by omega) (by omega) hza
        · rw [if_neg (by simpa using hm), if_neg hm, Ev_pos (by omega)]
          refine ih (i + 1) _ (by omega) (by simp; omega) (fun t ht => ?_)
          rcases List.mem_append.1 ht with ht | ht
          · exact hza t ht
          · rw [List.mem_singleton.1 ht]
            refine hz _ ?_
            rw [List.getD_eq_getElem?_getD, List.getElem?_eq_getElem (show i < ts.length by omega)]
            exact List.getElem_mem _
    exact key ts.length 0 [] (by omega) (by simp) (by simp)
  · rw [if_neg h, if_neg h]
    exact Ev_some.mpr rfl
theorem spec_pack_ev (l : List S39) (hl : LogSized l) : Ev (fun k => spec_PackLog.f k l) (packLog l) := by
  classical
  unfold spec_PackLog.f
  rw [Ev_bd (spec_done_ev l hl)]
  have hd := (logDone_len l).2
  have hz := logDone_size l
  have he : ¬ logValid l = true → logDone l = [] := fun h => by unfold logDone; rw [if_neg h]
  unfold packLog
  generalize logDone l = ts at *
  have inner : ∀ n j (b : Bool) (i : Nat) (acc : List ByteArray) r, j + n = acc.length → i < ts.length → acc.length ≤ i → (if b = true ∨ ts.getD i ByteArray.empty ∈ acc.drop j then Ev (fun k => spec_PackLog.l0 k l acc ts ((i + 1 : Nat) : Int)) r else Ev (fun k => spec_PackLog.l0 k l (acc ++ [ts.getD i ByteArray.empty]) ts ((i + 1 : Nat) : Int)) r) → Ev (fun k => spec_PackLog.l1 k l acc ts (i : Int) b (j : Int)) r := by
    intro n
    induction n with
    | zero =>
      intro j b i acc r hj hi ha hr
      refine Ev_succ.mpr ?_
      rw [List.drop_eq_nil_of_le (by omega)] at hr
      simp only [spec_PackLog.l1, w64s i (by omega), rdT_nat]
      rw [Ev_neg (by omega), Ev_ite]
      cases b
      · rw [if_neg (by simp)] at hr ⊢
        rw [Ev_pos (by omega), Ev_pos (by omega), Ev_pos (by omega)]
        exact hr
      · rw [if_pos (by simp)] at hr ⊢
        exact hr
    | succ n ih =>
      intro j b i acc r hj hi ha hr
      refine Ev_succ.mpr ?_
      rw [drop_cons acc ByteArray.empty j (by omega)] at hr
      simp only [spec_PackLog.l1, w64s j (by omega), rdT_nat]
      rw [Ev_pos (by omega), Ev_ite]
      cases b
      · rw [if_neg (by simp), Ev_pos (by omega), Ev_pos (by omega), Ev_pos (by omega)]
        refine ih (j + 1) _ i acc r (by omega) hi ha ?_
        have e : (((acc.getD j ByteArray.empty).toList == (ts.getD i ByteArray.empty).toList) = true ∨ ts.getD i ByteArray.empty ∈ acc.drop (j + 1)) ↔ (false = true ∨ ts.getD i ByteArray.empty ∈ acc.getD j ByteArray.empty :: acc.drop (j + 1)) := by
          rw [List.mem_cons, beq_iff_eq, toList_iff]
          exact ⟨fun h => h.elim (fun h => Or.inr (Or.inl h.symm)) (fun h => Or.inr (Or.inr h)), fun h => h.elim (fun h => by simp at h) (fun h => h.elim (fun h => Or.inl h.symm) Or.inr)⟩
        by_cases hc : ((acc.getD j ByteArray.empty).toList == (ts.getD i ByteArray.empty).toList) = true ∨ ts.getD i ByteArray.empty ∈ acc.drop (j + 1)
        · rw [if_pos hc]
          rw [if_pos (e.1 hc)] at hr
          exact hr
        · rw [if_neg hc]
          rw [if_neg (fun g => hc (e.2 g))] at hr
          exact hr
      · rw [if_pos rfl]
        refine ih (j + 1) true i acc r (by omega) hi ha ?_
        rw [if_pos (Or.inl rfl)]
        rw [if_pos (Or.inl rfl)] at hr
        exact hr
  have outer : ∀ n i (acc : List ByteArray), i + n = ts.length → acc.length ≤ i → (∀ t ∈ acc, t.size ≤ 60) → Ev (fun k => spec_PackLog.l0 k l acc ts (i : Int)) (if logValid l = true then (if (logAdd [] (dedupT acc (ts.drop i))).2 = true then (logAdd [] (dedupT acc (ts.drop i))).1 else []) else []) := by
    intro n
    induction n with
    | zero =>
      intro i acc hi ha hza
      refine Ev_succ.mpr ?_
      simp only [spec_PackLog.l0]
      rw [Ev_neg (by omega), List.drop_eq_nil_of_le (by omega)]
      have e : dedupT acc [] = acc := rfl
      rw [e, Ev_bd (spec_logAdd_ev [] acc ⟨by simp, by simp⟩ (by simp) (by omega) (fun t ht => by have := hza t ht; omega)), Ev_ite]
      by_cases h2 : (logAdd [] acc).2 = true
      · rw [if_pos h2, if_pos h2, Ev_bd (spec_log_ev l hl), Ev_ite]
        split <;> exact Ev_some.mpr rfl
      · rw [if_neg h2, if_neg h2]
        exact Ev_some.mpr (by simp)
    | succ n ih =>
      intro i acc hi ha hza
      refine Ev_succ.mpr ?_
      simp only [spec_PackLog.l0]
      rw [Ev_pos (by omega)]
      refine inner acc.length 0 false i acc _ (by omega) (by omega) ha ?_
      rw [List.drop_zero, drop_cons ts ByteArray.empty i (by omega), dedupT_cons]
      by_cases hm : ts.getD i ByteArray.empty ∈ acc
      · rw [if_pos (Or.inr hm), if_pos hm]
        exact ih (i + 1) acc (by omega) (by omega) hza
      · rw [if_neg (fun g => g.elim (fun g => by simp at g) hm), if_neg hm]
        refine ih (i + 1) _ (by omega) (by simp; omega) (fun t ht => ?_)
        rcases List.mem_append.1 ht with ht | ht
        · exact hza t ht
        · rw [List.mem_singleton.1 ht]
          refine hz _ ?_
          rw [List.getD_eq_getElem?_getD, List.getElem?_eq_getElem (show i < ts.length by omega)]
          exact List.getElem_mem _
  exact outer ts.length 0 [] (by omega) (by simp) (by simp)
theorem packLog_len (l : List S39) : (packLog l).length ≤ 40 := by
  unfold packLog
  split
  · split
    · exact logAdd_len _ _
    · simp
  · simp
end Go.Proofs.Ytcbmkonigclceaa.Mod
