/- What BranchesValid comes to. -/
import Derived.Test.YtglfoihpgpdooabPx0
import Derived.Test.YtglfoihpgpdooabPx1
import Derived.Test.YtglfoihpgpdooabPx3
import Derived.Test.YtglfoihpgpdooabBase
import Derived.Test.YtglfoihpgpdooabTBranch
import Derived.Test.YtglfoihpgpdooabOrd
namespace Go.Proofs.Ytglfoihpgpdooab.Mod
open Go.RowKit Go.Proofs.Ytglfoihpgpdooab.P Go.Proofs.Ytglfoihpgpdooab.EvK Go.Proofs.YtglfoihpgpdooabW.PrintWords Go.Proofs.YtglfoihpgpdooabW.PrintLast
set_option linter.unusedVariables false
set_option linter.unusedSimpArgs false
def branOk (l : List S35) (many : Int) (i : Nat) : Bool :=
  wordValid (l.getD i z35).f0 && inB (l.getD i z35).f1 0 (many - 1) && (decide (i = 0) || lessS (l.getD (i - 1) z35).f0 (l.getD i z35).f0)
def branchesValid (l : List S35) (many : Int) : Bool := inB many 0 12 && (allN l.length (fun i => branOk l many i) && decide ((l.length : Int) ≤ 6))
def BranSized (l : List S35) : Prop := l.length ≤ 9223372036854775807 ∧ ∀ v ∈ l, v.f0.size ≤ 9223372036854775807
theorem BranSized.at_ {l : List S35} (h : BranSized l) {i : Nat} (hi : i < l.length) : (l.getD i z35).f0.size ≤ 9223372036854775807 := by
  rw [List.getD_eq_getElem?_getD, List.getElem?_eq_getElem hi]
  exact h.2 _ (List.getElem_mem hi)
theorem rdBranch1 (xs : List S35) (i : Nat) (h : 0 < i) : rd_T35 xs ((i : Int) - 1) = xs.getD (i - 1) z35 := by
  rw [show (i : Int) - 1 = ((i - 1 : Nat) : Int) by omega, rdBranch]
theorem spec_bran_ev (l : List S35) (many : Int) (hl : BranSized l) : Ev (fun k => spec_BranchesValid.f k l many) (branchesValid l many) := by
  unfold spec_BranchesValid.f branchesValid
  have hn := hl.1
  simp only [l1In_eq, Option.bind_some, Ev_ite]
  cases hm : inB many 0 12
  · simp [Ev_some]
  rw [if_pos rfl, Bool.true_and]
  have hm' := inB_iff.1 hm
  refine ev_allN l.length (fun k i => spec_BranchesValid.l0 k l many i) _ _ ?_ ?_
  · intro i hi r hr
    have hz := hl.at_ hi
    refine Ev_succ.mpr ?_
    simp only [spec_BranchesValid.l0, rdBranch, w64s i (by omega), l1In_eq, Option.bind_some, Ev_ite]
    rw [w64 (x := (i : Int) - 1) (by omega) (by omega), w64 (x := many - 1) (by omega) (by omega)]
    rw [if_pos (by omega), if_pos (by omega), Ev_bd (spec_word_ev _ hz), Ev_ite]
    unfold branOk at hr
    by_cases h0 : i = 0
    · subst h0
      cases h1 : wordValid (l.getD 0 z35).f0 <;> cases h2 : inB (l.getD 0 z35).f1 0 (many - 1) <;> simp only [h1, h2, Bool.and_true, Bool.true_and, Bool.false_and, Bool.and_false, Bool.true_or, decide_true, Bool.false_eq_true, if_false, if_true, Ev_ite, Ev_some] at hr ⊢ <;> first | exact hr | (rw [if_neg (by omega)]; exact hr)
    · rw [rdBranch1 l i (by omega)]
      have e0 : decide (i = 0) = false := decide_eq_false h0
      rw [e0] at hr
      unfold lessS at hr
      cases h1 : wordValid (l.getD i z35).f0 <;> cases h2 : inB (l.getD i z35).f1 0 (many - 1) <;> cases h3 : Op.bytesLess (l.getD (i - 1) z35).f0.toList (l.getD i z35).f0.toList <;> simp only [h1, h2, h3, Bool.and_true, Bool.true_and, Bool.false_and, Bool.and_false, Bool.true_or, Bool.false_or, decide_true, Bool.false_eq_true, if_false, if_true, Ev_ite, Ev_some] at hr ⊢ <;> first | exact hr | (rw [if_pos (by omega), if_pos (by omega), if_pos (by omega)]; exact hr)
  · refine Ev_succ.mpr ?_
    simp [spec_BranchesValid.l0, Ev_some]
theorem impl_bran_ev (l : List S35) (many : Int) (hl : BranSized l) : Ev (fun k => impl_BranchesValid.f k l many) (branchesValid l many) := by
  unfold impl_BranchesValid.f branchesValid
  have hn := hl.1
  have hj : ∀ b r, Ev (fun k => impl_BranchesValid.j0 k l many b) r ↔ (if b = true then false = r else Ev (fun k => impl_BranchesValid.l0 k l many l l.length 0) r) := by
    intro b r
    rw [Ev_succ]
    simp only [impl_BranchesValid.j0, Ev_ite, Ev_some]
  simp only [Ev_ite, hj]
  by_cases hm : 0 ≤ many ∧ many ≤ 12
  · rw [inB_iff.2 hm, Bool.true_and, if_neg (by omega), if_neg (by omega)]
    by_cases h : (l.length : Int) > 6
    · rw [decide_eq_true h, decide_eq_false (by omega), Bool.and_false, if_pos rfl]
    · rw [decide_eq_false h, decide_eq_true (by omega), if_neg (by simp)]
      refine ev_allN l.length (fun k i => impl_BranchesValid.l0 k l many l l.length i) _ _ ?_ ?_
      · intro i hi r hr
        have hz := hl.at_ hi
        refine Ev_succ.mpr ?_
        simp only [impl_BranchesValid.l0, rdBranch, Ev_ite]
        rw [if_pos (by omega), if_pos (by omega), if_pos (by omega), Ev_bd (impl_word_ev _ hz), Ev_ite]
        have hj2 : ∀ b, Ev (fun k => impl_BranchesValid.j2 k l many i l l.length i b (l.getD i z35).f0 (l.getD i z35).f1) r ↔
            (if b = true then false = r else if (decide (i = 0) || lessS (l.getD (i - 1) z35).f0 (l.getD i z35).f0) = true then Ev (fun k => impl_BranchesValid.l0 k l many l l.length ((i + 1 : Nat) : Int)) r else false = r) := by
          intro b
          rw [Ev_succ]
          simp only [impl_BranchesValid.j2, w64s i (by omega), Ev_ite, Ev_some]
          cases b
          · simp only [Bool.false_eq_true, if_false]
            by_cases h0 : i = 0
            · subst h0
              rw [if_neg (by omega), decide_eq_true rfl, Bool.true_or, if_pos rfl]
            · rw [if_pos (by omega), w64 (x := (i : Int) - 1) (by omega) (by omega), if_pos (by omega), if_pos (by omega), rdBranch1 l i (by omega), decide_eq_false h0, Bool.false_or]
              rfl
          · simp
        simp only [Ev_ite, hj2]
        unfold branOk at hr
        generalize (decide (i = 0) || lessS (l.getD (i - 1) z35).f0 (l.getD i z35).f0) = c at hr ⊢
        generalize (l.getD i z35).f1 = n at hr ⊢
        generalize wordValid (l.getD i z35).f0 = wv at hr ⊢
        by_cases h2 : 0 ≤ n ∧ n ≤ many - 1
        · rw [inB_iff.2 h2] at hr
          rw [if_neg (show ¬ n < 0 by omega), decide_eq_false (show ¬ n ≥ many by omega)]
          cases wv <;> cases c <;> simp_all
        · have e2 : inB n 0 (many - 1) = false := by
            rw [Bool.eq_false_iff]
            exact fun g => h2 (inB_iff.1 g)
          rw [e2] at hr
          simp only [Bool.and_false, Bool.false_and, Bool.false_eq_true, if_false] at hr
          by_cases hn0 : n < 0
          · rw [if_pos hn0]
            cases wv <;> simp [hr]
          · rw [if_neg hn0, decide_eq_true (show n ≥ many by omega)]
            cases wv <;> simp [hr]
      · refine Ev_succ.mpr ?_
        simp [impl_BranchesValid.l0, Ev_some]
  · have e : inB many 0 12 = false := by
      rw [Bool.eq_false_iff]
      exact fun g => hm (inB_iff.1 g)
    rw [e, Bool.false_and]
    by_cases h0 : many < 0
    · rw [if_pos h0, if_pos trivial]
    · rw [if_neg h0, if_pos (by omega), if_pos trivial]
end Go.Proofs.Ytglfoihpgpdooab.Mod
