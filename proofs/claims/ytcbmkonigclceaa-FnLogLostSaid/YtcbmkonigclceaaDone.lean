/- What LogDone and LogLost come to. -/
import Derived.Test.YtcbmkonigclceaaPx0
import Derived.Test.YtcbmkonigclceaaPx5
import Derived.Test.YtcbmkonigclceaaPx6
import Derived.Test.YtcbmkonigclceaaPx9
import Derived.Test.YtcbmkonigclceaaPx10
import Derived.Test.YtcbmkonigclceaaDrawL
import Derived.Test.YtcbmkonigclceaaTexts
namespace Go.Proofs.Ytcbmkonigclceaa.Mod
open Go.RowKit Go.Proofs.Ytcbmkonigclceaa.P Go.Proofs.Ytcbmkonigclceaa.EvK Go.Proofs.YtcbmkonigclceaaW.PrintWords Go.Proofs.YtcbmkonigclceaaW.PrintLast
set_option linter.unusedVariables false
set_option linter.unusedSimpArgs false
abbrev DoneS := List ByteArray × List ByteArray × Bool
open Classical in
/-- One line of a log. -/
noncomputable def stepD (s : DoneS) (e : S39) : DoneS :=
  if e.f0 = 0 then (s.1, [], true) else if e.f0 = 1 then (s.1, if s.2.2 = true then s.2.1 ++ [e.f1] else s.2.1, s.2.2) else (if s.2.2 = true then s.1 ++ s.2.1 else s.1, [], false)
noncomputable def doneL (s : DoneS) (l : List S39) : DoneS := l.foldl stepD s
noncomputable def logDone (l : List S39) : List ByteArray := if logValid l = true then (doneL ([], [], false) l).1 else []
theorem doneL_cons (s : DoneS) (e : S39) (l : List S39) : doneL s (e :: l) = doneL (stepD s e) l := rfl
theorem doneL_append (s : DoneS) (a b : List S39) : doneL s (a ++ b) = doneL (doneL s a) b := List.foldl_append
/-- The state's pending texts count only while a part is open. -/
theorem stepD_same {d p q : List ByteArray} {o : Bool} (h : o = true → p = q) (e : S39) : (stepD (d, p, o) e).1 = (stepD (d, q, o) e).1 ∧ (stepD (d, p, o) e).2.2 = (stepD (d, q, o) e).2.2 ∧ ((stepD (d, p, o) e).2.2 = true → (stepD (d, p, o) e).2.1 = (stepD (d, q, o) e).2.1) := by
  unfold stepD
  by_cases h0 : e.f0 = 0
  · simp [h0]
  · by_cases h1 : e.f0 = 1
    · cases o
      · simp [h0, h1]
      · simp [h0, h1, h rfl]
    · cases o
      · simp [h0, h1]
      · simp [h0, h1, h rfl]
def ones (l : List S39) : Nat := (l.filter (fun e => e.f0 == 1)).length
theorem ones_cons (e : S39) (l : List S39) : ones (e :: l) = if e.f0 = 1 then ones l + 1 else ones l := by
  unfold ones
  by_cases h : e.f0 = 1 <;> simp [h]
theorem ones_le (l : List S39) : ones l ≤ l.length := List.length_filter_le _ _
theorem doneL_len : ∀ (l : List S39) (s : DoneS), (doneL s l).1.length ≤ s.1.length + s.2.1.length + ones l
  | [], s => by simp only [doneL, List.foldl_nil]; omega
  | e :: l, s => by
    rw [doneL_cons, ones_cons]
    have := doneL_len l (stepD s e)
    refine Nat.le_trans this ?_
    unfold stepD
    by_cases h0 : e.f0 = 0
    · rw [if_pos h0, if_neg (by omega)]
      simp
    · by_cases h1 : e.f0 = 1
      · rw [if_neg h0, if_pos h1, if_pos h1]
        dsimp only
        split
        · simp; omega
        · omega
      · rw [if_neg h0, if_neg h1, if_neg h1]
        dsimp only
        split
        · simp
        · simp
theorem doneL_pre : ∀ (l : List S39) (s : DoneS), ∃ t, (doneL s l).1 = s.1 ++ t
  | [], s => ⟨[], by simp [doneL]⟩
  | e :: l, s => by
    rw [doneL_cons]
    obtain ⟨t, ht⟩ := doneL_pre l (stepD s e)
    have : ∃ u, (stepD s e).1 = s.1 ++ u := by
      unfold stepD
      by_cases h0 : e.f0 = 0
      · exact ⟨[], by simp [h0]⟩
      · by_cases h1 : e.f0 = 1
        · exact ⟨[], by simp [h0, h1]⟩
        · rw [if_neg h0, if_neg h1]
          dsimp only
          split
          · exact ⟨s.2.1, rfl⟩
          · exact ⟨[], by simp⟩
    obtain ⟨u, hu⟩ := this
    exact ⟨u ++ t, by rw [ht, hu, List.append_assoc]⟩
theorem logDone_len (l : List S39) : (logDone l).length ≤ ones l ∧ (logDone l).length ≤ 40 := by
  unfold logDone
  split
  · rename_i h
    have h1 := doneL_len l ([], [], false)
    have h2 := ones_le l
    have h3 := logValid_len h
    simp only [List.length_nil] at h1
    omega
  · simp
theorem impl_done_ev (l : List S39) (hl : LogSized l) : Ev (fun k => impl_LogDone.f k l) (logDone l) := by
  unfold impl_LogDone.f logDone
  rw [Ev_bd (impl_log_ev l hl), Ev_ite]
  by_cases h : logValid l = true
  · rw [if_pos h, if_pos h]
    have hlen := logValid_len h
    have key : ∀ n i (d p : List ByteArray) (o : Bool), i + n = l.length → (o = false → p = []) → d.length + p.length ≤ i → Ev (fun k => impl_LogDone.l0 k d p o l (l.length : Int) (i : Int)) (doneL (d, p, o) (l.drop i)).1 := by
      intro n
      induction n with
      | zero =>
        intro i d p o hi hp hd
        refine Ev_succ.mpr ?_
        simp only [impl_LogDone.l0]
        rw [Ev_neg (by omega), List.drop_eq_nil_of_le (by omega)]
        exact Ev_some.mpr rfl
      | succ n ih =>
        intro i d p o hi hp hd
        refine Ev_succ.mpr ?_
        have hv := (logValid_mem.1 h).1 (l.getD i z39) (by
          rw [List.getD_eq_getElem?_getD, List.getElem?_eq_getElem (show i < l.length by omega)]
          exact List.getElem_mem _)
        unfold logOk at hv
        simp only [Bool.and_eq_true] at hv
        have hv := inB_iff.1 hv.1.1
        simp only [impl_LogDone.l0, rdLogEntry, w64s i (by omega)]
        rw [Ev_pos (by omega), Ev_pos (by omega), Ev_pos (by omega), drop_cons l z39 i (by omega), doneL_cons]
        generalize l.getD i z39 = e at *
        unfold stepD
        rw [Ev_ite]
        by_cases h0 : e.f0 = 0
        · rw [if_pos h0, if_pos h0]
          exact ih (i + 1) d [] true (by omega) (by simp) (by simp; omega)
        rw [if_neg h0, if_neg h0, Ev_ite]
        by_cases h1 : e.f0 = 1
        · rw [if_pos h1, if_pos h1, Ev_ite]
          cases o
          · rw [if_neg (by simp)]
            exact ih (i + 1) d p false (by omega) hp (by omega)
          · rw [if_pos rfl, Ev_pos (by omega)]
            exact ih (i + 1) d (p ++ [e.f1]) true (by omega) (by simp) (by simp; omega)
        · rw [if_neg h1, if_neg h1, Ev_pos (by omega), Ev_pos (by omega)]
          have := ih (i + 1) (d ++ p) [] false (by omega) (by simp) (by simp; omega)
          cases o
          · rw [hp rfl] at this ⊢
            simpa using this
          · exact this
    have := key l.length 0 [] [] false (by omega) (by simp) (by simp)
    simpa using this
  · rw [if_neg h, if_neg h]
    exact Ev_some.mpr rfl
theorem spec_done_ev (l : List S39) (hl : LogSized l) : Ev (fun k => spec_LogDone.f k l) (logDone l) := by
  have hn := hl.1
  unfold spec_LogDone.f logDone
  have hend : ∀ (d p : List ByteArray) (o : Bool) (i : Nat), Ev (fun k => spec_LogDone.j1 k l d p o (i : Int) false) d := by
    intro d p o i
    refine Ev_succ.mpr ?_
    simp only [spec_LogDone.j1]
    rw [Ev_neg (by simp)]
    exact Ev_some.mpr rfl
  by_cases h : logValid l = true
  · rw [if_pos h]
    have hlen := logValid_len h
    have key : ∀ n i (d p q : List ByteArray) (o : Bool), i + n = l.length → (o = true → p = q) → d.length + p.length ≤ i → Ev (fun k => spec_LogDone.l0 k l d p o (i : Int)) (doneL (d, q, o) (l.drop i)).1 := by
      intro n
      induction n with
      | zero =>
        intro i d p q o hi hp hd
        refine Ev_succ.mpr ?_
        simp only [spec_LogDone.l0]
        rw [Ev_neg (by omega), List.drop_eq_nil_of_le (by omega)]
        exact hend d p o i
      | succ n ih =>
        intro i d p q o hi hp hd
        refine Ev_succ.mpr ?_
        simp only [spec_LogDone.l0]
        rw [Ev_pos (by omega), Ev_bd (spec_log_ev l hl), h]
        refine Ev_succ.mpr ?_
        simp only [spec_LogDone.j1, if_true, rdLogEntry, w64s i (by omega)]
        rw [Ev_pos (by omega), Ev_pos (by omega), drop_cons l z39 i (by omega), doneL_cons]
        generalize l.getD i z39 = e at *
        unfold stepD
        rw [Ev_ite]
        by_cases h0 : e.f0 = 0
        · rw [if_pos h0, if_pos h0]
          exact ih (i + 1) d [] [] true (by omega) (by simp) (by simp; omega)
        rw [if_neg h0, if_neg h0, Ev_ite]
        by_cases h1 : e.f0 = 1
        · rw [if_pos h1, if_pos h1, Ev_pos (by omega)]
          refine ih (i + 1) d (p ++ [e.f1]) _ o (by omega) (fun ho => ?_) (by simp; omega)
          rw [if_pos ho, hp ho]
        · rw [if_neg h1, if_neg h1, Ev_ite]
          cases o
          · rw [if_neg (by simp)]
            exact ih (i + 1) d [] [] false (by omega) (by simp) (by simp; omega)
          · rw [if_pos rfl, Ev_pos (by omega), ← hp rfl]
            exact ih (i + 1) (d ++ p) [] [] false (by omega) (by simp) (by simp; omega)
    have := key l.length 0 [] [] [] false (by omega) (by simp) (by simp)
    simpa using this
  · rw [if_neg h]
    refine Ev_succ.mpr ?_
    simp only [spec_LogDone.l0]
    rw [Ev_ite]
    split
    · rw [Ev_bd (spec_log_ev l hl), (by simpa using h : logValid l = false)]
      exact hend [] [] false 0
    · exact hend [] [] false 0
noncomputable def logLost (l : List S39) : Int := if logValid l = true then (ones l : Int) - ((logDone l).length : Int) else -1
theorem impl_lost_ev (l : List S39) (hl : LogSized l) : Ev (fun k => impl_LogLost.f k l) (logLost l) := by
  unfold impl_LogLost.f logLost
  rw [Ev_bd (impl_log_ev l hl), Ev_ite]
  by_cases h : logValid l = true
  · rw [if_pos h, if_pos h]
    have hlen := logValid_len h
    have hd := logDone_len l
    have ho := ones_le l
    have key : ∀ n i (c : Nat), i + n = l.length → c + ones (l.drop i) = ones l → Ev (fun k => impl_LogLost.l0 k l (c : Int) l (l.length : Int) (i : Int)) ((ones l : Int) - ((logDone l).length : Int)) := by
      intro n
      induction n with
      | zero =>
        intro i c hi hc
        refine Ev_succ.mpr ?_
        simp only [impl_LogLost.l0]
        rw [List.drop_eq_nil_of_le (by omega)] at hc
        have : ones ([] : List S39) = 0 := rfl
        rw [Ev_neg (by omega), Ev_bd (impl_done_ev l hl), w64 (by omega) (by omega)]
        exact Ev_some.mpr (by omega)
      | succ n ih =>
        intro i c hi hc
        refine Ev_succ.mpr ?_
        rw [drop_cons l z39 i (by omega), ones_cons] at hc
        simp only [impl_LogLost.l0, rdLogEntry, w64s i (by omega)]
        rw [Ev_pos (by omega), Ev_pos (by omega), Ev_pos (by omega), Ev_ite]
        by_cases h1 : (l.getD i z39).f0 = 1
        · rw [if_pos h1] at hc ⊢
          rw [w64s c (by omega)]
          exact ih (i + 1) (c + 1) (by omega) (by omega)
        · rw [if_neg h1] at hc ⊢
          exact ih (i + 1) c (by omega) hc
    exact key l.length 0 0 (by omega) (by simp)
  · rw [if_neg h, if_neg h]
    exact Ev_some.mpr rfl
theorem spec_lost_ev (l : List S39) (hl : LogSized l) : Ev (fun k => spec_LogLost.f k l) (logLost l) := by
  unfold spec_LogLost.f logLost
  rw [Ev_bd (spec_log_ev l hl), Ev_ite]
  by_cases h : logValid l = true
  · rw [if_pos h, if_pos h]
    have hlen := logValid_len h
    have hd := logDone_len l
    have ho := ones_le l
    have key : ∀ n i (c : Nat), i + n = l.length → c + ones (l.drop i) = ones l → Ev (fun k => spec_LogLost.l0 k l (c : Int) (i : Int)) ((ones l : Int) - ((logDone l).length : Int)) := by
      intro n
      induction n with
      | zero =>
        intro i c hi hc
        refine Ev_succ.mpr ?_
        simp only [spec_LogLost.l0]
        rw [List.drop_eq_nil_of_le (by omega)] at hc
        have : ones ([] : List S39) = 0 := rfl
        rw [Ev_neg (by omega), Ev_bd (spec_done_ev l hl), w64 (by omega) (by omega)]
        exact Ev_some.mpr (by omega)
      | succ n ih =>
        intro i c hi hc
        refine Ev_succ.mpr ?_
        rw [drop_cons l z39 i (by omega), ones_cons] at hc
        simp only [spec_LogLost.l0, rdLogEntry, w64s i (by omega)]
        rw [Ev_pos (by omega), Ev_pos (by omega), Ev_ite]
        by_cases h1 : (l.getD i z39).f0 = 1
        · rw [if_pos h1] at hc ⊢
          rw [w64s c (by omega)]
          exact ih (i + 1) (c + 1) (by omega) (by omega)
        · rw [if_neg h1] at hc ⊢
          exact ih (i + 1) c (by omega) hc
    exact key l.length 0 0 (by omega) (by simp)
  · rw [if_neg h, if_neg h]
    exact Ev_some.mpr rfl
end Go.Proofs.Ytcbmkonigclceaa.Mod
