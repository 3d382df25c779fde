/- What VersionsValid comes to. -/
import Derived.Test.YtbjfbmoeboagaaaPx0
import Derived.Test.YtbjfbmoeboagaaaPx5
import Derived.Test.YtbjfbmoeboagaaaPx10
import Derived.Test.YtbjfbmoeboagaaaPx11
import Derived.Test.YtbjfbmoeboagaaaBase
import Derived.Test.YtbjfbmoeboagaaaTVersion
namespace Go.Proofs.Ytbjfbmoeboagaaa.Mod
open Go.RowKit Go.Proofs.Ytbjfbmoeboagaaa.P Go.Proofs.Ytbjfbmoeboagaaa.EvK Go.Proofs.YtbjfbmoeboagaaaW.PrintWords Go.Proofs.YtbjfbmoeboagaaaW.PrintLast
set_option linter.unusedVariables false
set_option linter.unusedSimpArgs false
theorem printValid_eq (a : Int) : impl_printValid.f a = some (inB a 0 16777212) := by
  unfold impl_printValid.f inB
  by_cases h1 : a ≥ 0 <;> by_cases h2 : a ≤ 16777212 <;> simp [h1, h2] <;> omega
def versOk (i : Nat) (v : S25) : Bool := inB v.f0 0 16777212 && inB v.f1 (-1) ((i : Int) - 1) && wordValid v.f2
def versionsValid (l : List S25) : Bool := allN l.length (fun i => versOk i (l.getD i z25)) && decide ((l.length : Int) ≤ 12)
/-- What keeps a list of versions within a machine's numbers. -/
def VersSized (l : List S25) : Prop := l.length ≤ 9223372036854775807 ∧ ∀ v ∈ l, v.f2.size ≤ 9223372036854775807
theorem VersSized.at_ {l : List S25} (h : VersSized l) {i : Nat} (hi : i < l.length) : (l.getD i z25).f2.size ≤ 9223372036854775807 := by
  rw [List.getD_eq_getElem?_getD, List.getElem?_eq_getElem hi]
  exact h.2 _ (List.getElem_mem hi)
theorem spec_vers_ev (l : List S25) (hl : VersSized l) : Ev (fun k => spec_VersionsValid.f k l) (versionsValid l) := by
  unfold spec_VersionsValid.f versionsValid
  have hn := hl.1
  refine ev_allN l.length (fun k i => spec_VersionsValid.l0 k l i) _ _ ?_ ?_
  · intro i hi r hr
    have hz := hl.at_ hi
    refine Ev_succ.mpr ?_
    simp only [spec_VersionsValid.l0, rdVersion, w64s i (by omega), l1In_eq, Option.bind_some, Ev_ite]
    rw [w64 (x := (i : Int) - 1) (by omega) (by omega)]
    generalize l.getD i z25 = v at hr hz ⊢
    rw [if_pos (by omega), if_pos (by omega), Ev_bd (spec_word_ev v.f2 hz), Ev_ite]
    unfold versOk at hr
    cases h1 : inB v.f0 0 16777212 <;> cases h2 : inB v.f1 (-1) ((i : Int) - 1) <;> cases h3 : wordValid v.f2 <;> simp_all [Ev_some]
  · refine Ev_succ.mpr ?_
    simp [spec_VersionsValid.l0, Ev_some]
theorem impl_vers_ev (l : List S25) (hl : VersSized l) : Ev (fun k => impl_VersionsValid.f k l) (versionsValid l) := by
  unfold impl_VersionsValid.f versionsValid
  have hn := hl.1
  rw [Ev_ite]
  by_cases h : (l.length : Int) > 12
  · rw [if_pos h, decide_eq_false (by omega), Bool.and_false]
    exact Ev_some.mpr rfl
  · rw [if_neg h, decide_eq_true (by omega)]
    refine ev_allN l.length (fun k i => impl_VersionsValid.l0 k l l.length i) _ _ ?_ ?_
    · intro i hi r hr
      have hz := hl.at_ hi
      refine Ev_succ.mpr ?_
      simp only [impl_VersionsValid.l0, rdVersion, w64s i (by omega), printValid_eq, Option.bind_some, Ev_ite]
      generalize l.getD i z25 = v at hr hz ⊢
      rw [if_pos (by omega), if_pos (by omega), if_pos (by omega), Ev_bd (impl_word_ev v.f2 hz), Ev_ite]
      unfold versOk at hr
      by_cases h2 : -1 ≤ v.f1 ∧ v.f1 ≤ (i : Int) - 1
      · rw [inB_iff.2 h2] at hr
        simp only [if_neg (show ¬ v.f1 < -1 by omega), if_neg (show ¬ v.f1 ≥ (i : Int) by omega)]
        cases h1 : inB v.f0 0 16777212 <;> cases h3 : wordValid v.f2 <;> simp_all [Ev_some]
      · have e2 : inB v.f1 (-1) ((i : Int) - 1) = false := by
          rw [Bool.eq_false_iff]
          exact fun g => h2 (inB_iff.1 g)
        rw [e2] at hr
        simp only [Bool.and_false, Bool.false_and, Bool.false_eq_true, if_false] at hr
        repeat' split
        all_goals first | exact Ev_some.mpr hr | (exfalso; omega)
    · refine Ev_succ.mpr ?_
      simp [impl_VersionsValid.l0, Ev_some]
theorem conv_sized_version (l : List S48) (hl : l.length ≤ 9223372036854775807) (hz : ∀ z ∈ l, z.f2.size ≤ 9223372036854775807) : VersSized (l.map convVersion) :=
  ⟨by simpa using hl, fun v hv => by
    obtain ⟨x, hx, rfl⟩ := List.mem_map.1 hv
    exact hz x hx⟩
end Go.Proofs.Ytbjfbmoeboagaaa.Mod
