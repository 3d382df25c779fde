/- Slices of LogEntry: the guard on sizes, the copy, equality, as the statements use them. -/
import Derived.Test.YtcbmkonigclceaaPx0
import Derived.Test.YtcbmkonigclceaaPx3
import Derived.Test.YtcbmkonigclceaaPx6
import Derived.Test.YtcbmkonigclceaaPx10
import Derived.Test.YtcbmkonigclceaaPx11
import Derived.Test.YtcbmkonigclceaaEv
namespace Go.Proofs.Ytcbmkonigclceaa.Mod
open Go.RowKit Go.Proofs.Ytcbmkonigclceaa.P Go.Proofs.Ytcbmkonigclceaa.EvK Go.Proofs.YtcbmkonigclceaaW.PrintWords Go.Proofs.YtcbmkonigclceaaW.PrintLast
set_option linter.unusedVariables false
set_option linter.unusedSimpArgs false
theorem rdLogEntry (xs : List S39) (i : Nat) : rd_T39 xs (i : Int) = xs.getD i z39 := by simp [rd_T39]
theorem rdLLogEntry (xs : List S70) (i : Nat) : rd_T70 xs (i : Int) = xs.getD i z70 := by simp [rd_T70]
def convLogEntry (x : S70) : S39 := ⟨x.f0, x.f1⟩
theorem szLogEntry_ev (l : List S70) (hl : l.length ≤ 9223372036854775807) (hz : ∀ z ∈ l, z.f1.size ≤ 9223372036854775807) (left : Int) (h0 : 0 ≤ left) (h1 : left ≤ 1048576) :
    ∃ t, Ev (fun k => laws_szLogEntryS.f k l left) t ∧ t ≤ left ∧ (0 ≤ t → (l.length : Int) ≤ left ∧ ∀ z ∈ l, (z.f1.size : Int) ≤ left) := by
  unfold laws_szLogEntryS.f
  rw [w64 (x := left - (l.length : Int)) (by omega) (by omega)]
  by_cases hn : left - (l.length : Int) < 0
  · exact ⟨-1, by simp only [if_pos hn]; exact Ev_some.mpr rfl, by omega, fun h => by omega⟩
  · simp only [if_neg hn]
    obtain ⟨t, ht, hle, hall⟩ := ev_sz l z70 (fun z => z.f1.size) (fun k left i => laws_szLogEntryS.l0 k l left i) (by
      intro i lf hi g0 g1 r hr
      have hsz : (l.getD i z70).f1.size ≤ 9223372036854775807 := by
        rw [List.getD_eq_getElem?_getD, List.getElem?_eq_getElem hi]
        exact hz _ (List.getElem_mem hi)
      refine Ev_succ.mpr ?_
      simp only [laws_szLogEntryS.l0, rdLLogEntry, w64s i (by omega), laws_szLogEntry.f, Ev_ite]
      rw [if_pos (by omega), if_pos (by omega), w64 (x := lf - _) (by omega) (by omega)]
      by_cases hm : lf - ((l.getD i z70).f1.size : Int) < 0
      · rw [if_pos hm] at hr ⊢
        simp only [Option.bind_some]
        rw [Ev_pos (by omega)]
        exact Ev_some.mpr hr
      · rw [if_neg hm] at hr ⊢
        simp only [Option.bind_some]
        rw [Ev_neg hm]
        exact hr) (by
      intro lf
      refine Ev_succ.mpr ?_
      simp only [laws_szLogEntryS.l0, Ev_ite]
      rw [if_neg (by omega)]
      exact Ev_some.mpr rfl) (left - (l.length : Int)) (by omega) (by omega)
    exact ⟨t, ht, by omega, fun h => ⟨by omega, fun z hzm => by have := hall h z hzm; omega⟩⟩
theorem toLogEntryS_ev (l : List S70) (hl : l.length ≤ 1048576) : Ev (fun k => laws_toLogEntryS.f k l) (l.map convLogEntry) := by
  unfold laws_toLogEntryS.f
  simp only [Ev_ite]
  rw [if_pos (by omega), if_pos (by omega)]
  refine ev_fill l z70 convLogEntry (fun k acc i => laws_toLogEntryS.l0 k l acc i) ?_ ?_ _ (by simp)
  · intro i acc hi hla r hr
    refine Ev_succ.mpr ?_
    simp only [laws_toLogEntryS.l0, rdLLogEntry, w64s i (by omega), laws_toLogEntry.f, Ev_ite, Option.bind_some, Int.toNat_natCast]
    rw [if_pos (by omega), if_pos (by omega), if_pos (by omega)]
    exact hr
  · intro acc hla
    refine Ev_succ.mpr ?_
    simp only [laws_toLogEntryS.l0, Ev_ite]
    rw [if_neg (by omega)]
    exact Ev_some.mpr rfl
theorem eqLogEntry_eq (x y : S39) : laws_eqLogEntry.f x.f0 x.f1 y.f0 y.f1 = some (eqb x y) := by
  unfold laws_eqLogEntry.f
  by_cases h0 : x.f0 = y.f0
  case neg => rw [if_neg h0, eqb_ne (fun h => h0 (by rw [h]))]
  by_cases h1 : x.f1.toList = y.f1.toList
  case neg => rw [if_pos h0, if_neg h1, eqb_ne (fun h => h1 (by rw [h]))]
  rw [if_pos h0, if_pos h1]
  have h1 := toList_iff.1 h1
  have : x = y := by cases x; cases y; simp_all
  rw [this, eqb_self]
theorem eqLogEntryS_ev (a b : List S39) (ha : a.length ≤ 9223372036854775807) : Ev (fun k => laws_eqLogEntryS.f k a b) (eqb a b) := by
  unfold laws_eqLogEntryS.f
  simp only [Ev_ite]
  by_cases h : (a.length : Int) = (b.length : Int)
  · rw [if_pos h]
    refine ev_eqS a b z39 (fun k i => laws_eqLogEntryS.l0 k a b i) (by omega) ?_ ?_
    · intro i hi r hr
      refine Ev_succ.mpr ?_
      simp only [laws_eqLogEntryS.l0, rdLogEntry, w64s i (by omega), eqLogEntry_eq, Ev_ite, Option.bind_some]
      rw [if_pos (by omega), if_pos (by omega), if_pos (by omega)]
      by_cases he : eqb (a.getD i z39) (b.getD i z39) = true
      · rw [if_pos he] at hr ⊢
        exact hr
      · rw [if_neg he] at hr ⊢
        exact Ev_some.mpr hr
    · refine Ev_succ.mpr ?_
      simp only [laws_eqLogEntryS.l0, Ev_ite]
      rw [if_neg (by omega)]
      exact Ev_some.mpr rfl
  · rw [if_neg h, eqb_ne (fun e => h (by rw [e]))]
    exact Ev_some.mpr rfl
end Go.Proofs.Ytcbmkonigclceaa.Mod
