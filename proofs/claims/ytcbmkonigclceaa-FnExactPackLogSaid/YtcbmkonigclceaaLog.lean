/- What LogValid comes to. -/
import Derived.Test.YtcbmkonigclceaaPx0
import Derived.Test.YtcbmkonigclceaaPx4
import Derived.Test.YtcbmkonigclceaaPx8
import Derived.Test.YtcbmkonigclceaaText
import Derived.Test.YtcbmkonigclceaaTLogEntry
namespace Go.Proofs.Ytcbmkonigclceaa.Mod
open Go.RowKit Go.Proofs.Ytcbmkonigclceaa.P Go.Proofs.Ytcbmkonigclceaa.EvK Go.Proofs.YtcbmkonigclceaaW.PrintWords Go.Proofs.YtcbmkonigclceaaW.PrintLast
set_option linter.unusedVariables false
set_option linter.unusedSimpArgs false
noncomputable def logOk (v : S39) : Bool := inB v.f0 0 2 && textValid v.f1 && (decide (v.f0 = 1) || eqb v.f1 (⟨#[]⟩ : ByteArray))
noncomputable def logValid (l : List S39) : Bool := allN l.length (fun i => logOk (l.getD i z39)) && decide ((l.length : Int) ≤ 40)
def LogSized (l : List S39) : Prop := l.length ≤ 9223372036854775807 ∧ ∀ v ∈ l, v.f1.size ≤ 9223372036854775807
theorem LogSized.at_ {l : List S39} (h : LogSized l) {i : Nat} (hi : i < l.length) : (l.getD i z39).f1.size ≤ 9223372036854775807 := by
  rw [List.getD_eq_getElem?_getD, List.getElem?_eq_getElem hi]
  exact h.2 _ (List.getElem_mem hi)
theorem spec_log_ev (l : List S39) (hl : LogSized l) : Ev (fun k => spec_LogValid.f k l) (logValid l) := by
  unfold spec_LogValid.f logValid
  have hn := hl.1
  refine ev_allN l.length (fun k i => spec_LogValid.l0 k l i) _ _ ?_ ?_
  · intro i hi r hr
    have hz := hl.at_ hi
    refine Ev_succ.mpr ?_
    simp only [spec_LogValid.l0, rdLogEntry, w64s i (by omega), l1In_eq, Option.bind_some, Ev_ite]
    generalize l.getD i z39 = v at hr hz ⊢
    rw [if_pos (by omega), if_pos (by omega), Ev_bd (spec_text_ev v.f1 hz), Ev_ite]
    simp only [toList_nil, Ev_ite]
    unfold logOk at hr
    by_cases h1 : v.f0 = 1
    · cases h2 : inB v.f0 0 2 <;> cases h3 : textValid v.f1 <;> simp_all [Ev_some]
    · by_cases h4 : v.f1 = (⟨#[]⟩ : ByteArray)
      · cases h2 : inB v.f0 0 2 <;> cases h3 : textValid v.f1 <;> simp_all [Ev_some, eqb_self]
      · have := eqb_ne h4
        cases h2 : inB v.f0 0 2 <;> cases h3 : textValid v.f1 <;> simp_all [Ev_some]
  · refine Ev_succ.mpr ?_
    simp [spec_LogValid.l0, Ev_some]
theorem impl_log_ev (l : List S39) (hl : LogSized l) : Ev (fun k => impl_LogValid.f k l) (logValid l) := by
  unfold impl_LogValid.f logValid
  have hn := hl.1
  rw [Ev_ite]
  by_cases h : (l.length : Int) > 40
  · rw [if_pos h, decide_eq_false (by omega), Bool.and_false]
    exact Ev_some.mpr rfl
  · rw [if_neg h, decide_eq_true (by omega)]
    refine ev_allN l.length (fun k i => impl_LogValid.l0 k l l.length i) _ _ ?_ ?_
    · intro i hi r hr
      have hz := hl.at_ hi
      refine Ev_succ.mpr ?_
      simp only [impl_LogValid.l0, rdLogEntry, Ev_ite]
      generalize l.getD i z39 = v at hr hz ⊢
      rw [if_pos (by omega), if_pos (by omega), if_pos (by omega), Ev_bd (impl_text_ev v.f1 hz)]
      have hj : ∀ b, Ev (fun k => impl_LogValid.j1 k l l.length i b v.f0 v.f1) r ↔ (if b = true then false = r else if v.f0 = 1 ∨ v.f1 = (⟨#[]⟩ : ByteArray) then Ev (fun k => impl_LogValid.l0 k l l.length ((i + 1 : Nat) : Int)) r else false = r) := by
        intro b
        rw [Ev_succ]
        simp only [impl_LogValid.j1, w64s i (by omega), toList_nil, Ev_ite, Ev_some]
        by_cases h1 : v.f0 = 1 <;> by_cases h2 : v.f1 = (⟨#[]⟩ : ByteArray) <;> simp [h1, h2]
      simp only [hj]
      unfold logOk at hr
      by_cases h2 : 0 ≤ v.f0 ∧ v.f0 ≤ 2
      · rw [inB_iff.2 h2] at hr
        simp only [if_neg (show ¬ v.f0 < 0 by omega), if_neg (show ¬ v.f0 > 2 by omega)]
        by_cases h1 : v.f0 = 1
        · cases h3 : textValid v.f1 <;> simp_all
        · by_cases h4 : v.f1 = (⟨#[]⟩ : ByteArray)
          · cases h3 : textValid v.f1 <;> simp_all [eqb_self]
          · have := eqb_ne h4
            cases h3 : textValid v.f1 <;> simp_all
      · have e2 : inB v.f0 0 2 = false := by
          rw [Bool.eq_false_iff]
          exact fun g => h2 (inB_iff.1 g)
        rw [e2] at hr
        simp only [Bool.false_and, Bool.false_eq_true, if_false] at hr
        by_cases h0 : v.f0 < 0
        · rw [if_pos h0, if_pos trivial]
          exact hr
        · rw [if_neg h0, if_pos (by omega), if_pos trivial]
          exact hr
    · refine Ev_succ.mpr ?_
      simp [impl_LogValid.l0, Ev_some]
theorem conv_sized_log (l : List S70) (hl : l.length ≤ 9223372036854775807) (hz : ∀ z ∈ l, z.f1.size ≤ 9223372036854775807) : LogSized (l.map convLogEntry) :=
  ⟨by simpa using hl, fun v hv => by
    obtain ⟨x, hx, rfl⟩ := List.mem_map.1 hv
    exact hz x hx⟩
end Go.Proofs.Ytcbmkonigclceaa.Mod
