/- What findBranch and BranchAt come to. -/
import Derived.Test.YtbjfbmoeboagaaaPx0
import Derived.Test.YtbjfbmoeboagaaaPx19
import Derived.Test.YtbjfbmoeboagaaaPx22
import Derived.Test.YtbjfbmoeboagaaaPx23
import Derived.Test.YtbjfbmoeboagaaaBran
namespace Go.Proofs.Ytbjfbmoeboagaaa.Mod
open Go.RowKit Go.Proofs.Ytbjfbmoeboagaaa.P Go.Proofs.Ytbjfbmoeboagaaa.EvK Go.Proofs.YtbjfbmoeboagaaaW.PrintWords Go.Proofs.YtbjfbmoeboagaaaW.PrintLast
set_option linter.unusedVariables false
set_option linter.unusedSimpArgs false
theorem branchesValid_len {l : List S64} {many : Int} (h : branchesValid l many = true) : l.length ≤ 6 := by
  unfold branchesValid at h
  simp only [Bool.and_eq_true, decide_eq_true_eq] at h
  omega
theorem branchesValid_many {l : List S64} {many : Int} (h : branchesValid l many = true) : 0 ≤ many ∧ many ≤ 12 := by
  unfold branchesValid at h
  simp only [Bool.and_eq_true] at h
  exact inB_iff.1 h.1
theorem branchesValid_at {l : List S64} {many : Int} (h : branchesValid l many = true) {i : Nat} (hi : i < l.length) : branOk l many i = true := by
  unfold branchesValid at h
  simp only [Bool.and_eq_true] at h
  exact allN_iff.1 h.2.1 i hi
theorem wordValid_size' {s : ByteArray} (h : wordValid s = true) : s.size ≤ 8 := by
  unfold wordValid at h
  simp only [Bool.and_eq_true] at h
  have := (inB_iff.1 h.2).2
  omega
theorem branchesValid_word {l : List S64} {many : Int} (h : branchesValid l many = true) : ∀ v ∈ l, v.f0.size ≤ 8 := by
  intro v hv
  obtain ⟨i, hi, rfl⟩ := List.getElem_of_mem hv
  have := branchesValid_at h hi
  unfold branOk at this
  simp only [Bool.and_eq_true] at this
  have := this.1.1
  rw [List.getD_eq_getElem?_getD, List.getElem?_eq_getElem hi] at this
  exact wordValid_size' this
theorem branchesValid_sized {l : List S64} {many : Int} (h : branchesValid l many = true) : BranSized l :=
  ⟨by have := branchesValid_len h; omega, fun v hv => by have := branchesValid_word h v hv; omega⟩
theorem branchesValid_less {l : List S64} {many : Int} (h : branchesValid l many = true) : ∀ j i : Nat, i < j → j < l.length → lessS (l.getD i z64).f0 (l.getD j z64).f0 = true := by
  intro j
  induction j with
  | zero => intro i hi; omega
  | succ j ih =>
    intro i hi hj
    have hb := branchesValid_at h hj
    unfold branOk at hb
    simp only [Bool.and_eq_true, Bool.or_eq_true, decide_eq_true_eq, Nat.add_sub_cancel] at hb
    have hb := hb.2.resolve_left (by omega)
    by_cases hij : i = j
    · rw [hij]; exact hb
    · exact lessS_trans (ih i (by omega) (by omega)) hb
theorem cmpStr_eq (a b : ByteArray) : cmp_Compare_string.f a b = some (cmpS a b) := by
  unfold cmp_Compare_string.f cmp_isNaN_string.f cmpS lessS
  simp only [bne_self_eq_false, Option.bind_some, Bool.false_eq_true, if_false]
  repeat' split
  all_goals rfl
theorem findBranch1_eq (a : ByteArray) (n : Int) (t : ByteArray) : impl_findBranch_1.f a n t = some (cmpS a t) := by
  unfold impl_findBranch_1.f
  rw [cmpStr_eq]
  rfl
theorem findBranch_p {l : List S64} {many : Int} (h : branchesValid l many = true) (t : ByteArray) :
    ∃ r : Nat, ∃ b : Bool, Ev (fun k => impl_findBranch.f k l t) ((r : Int), b) ∧ r ≤ l.length ∧ (∀ j, j < r → lessS (l.getD j z64).f0 t = true) ∧ (∀ j, r ≤ j → j < l.length → lessS (l.getD j z64).f0 t = false) ∧ (b = true ↔ r < l.length ∧ (l.getD r z64).f0 = t) := by
  have hlen := branchesValid_len h
  obtain ⟨r, hr, h1, h2, h3⟩ := search_ev l z64 (fun x => x.f0) t (fun k i j => impl_findBranch.l0 k l t i j) (by omega)
    (fun i j hij hj hl => lessS_trans (branchesValid_less h j i hij hj) hl) (by
      intro i j hij hj r hr
      refine Ev_succ.mpr ?_
      simp only [impl_findBranch.l0]
      rw [Ev_pos (by omega), Ev_pos (by omega), Ev_pos (by omega), show ((i : Int) + (j : Int)) / 2 = (((i + j) / 2 : Nat) : Int) by omega, rdBranch, Ev_b0 (findBranch1_eq _ _ _), Ev_ite]
      by_cases hl : lessS (l.getD ((i + j) / 2) z64).f0 t = true
      · rw [if_pos hl] at hr
        rw [if_pos (cmpS_neg.2 hl)]
        exact hr
      · rw [if_neg hl] at hr
        rw [if_neg (fun g => hl (cmpS_neg.1 g))]
        exact hr) (by
      intro i
      refine Ev_succ.mpr ?_
      simp only [impl_findBranch.l0]
      rw [Ev_neg (by omega)]
      exact Ev_some.mpr rfl)
  by_cases hrl : r < l.length
  · refine ⟨r, cmpS (l.getD r z64).f0 t == 0, ?_, h1, h2, h3, ?_⟩
    · unfold impl_findBranch.f
      rw [Ev_bd hr, Ev_pos (by omega), Ev_pos (by omega), rdBranch, Ev_b0 (findBranch1_eq _ _ _)]
      exact Ev_some.mpr rfl
    · rw [beq_iff_eq, cmpS_zero]
      exact ⟨fun g => ⟨hrl, g⟩, fun g => g.2⟩
  · refine ⟨r, false, ?_, h1, h2, h3, ?_⟩
    · unfold impl_findBranch.f
      rw [Ev_bd hr, Ev_pos (by omega), Ev_neg (by omega)]
      exact Ev_some.mpr rfl
    · exact ⟨fun g => by simp at g, fun g => absurd g.1 hrl⟩
open Classical in
/-- The number kept for a text. -/
noncomputable def atF : List S64 → ByteArray → Int
  | [], _ => -1
  | b :: l, t => if b.f0 = t then b.f1 else atF l t
theorem atF_none {l : List S64} {t : ByteArray} (h : ∀ v ∈ l, v.f0 ≠ t) : atF l t = -1 := by
  induction l with
  | nil => rfl
  | cons b l ih =>
    rw [atF, if_neg (h b List.mem_cons_self)]
    exact ih (fun v hv => h v (List.mem_cons_of_mem _ hv))
theorem atF_at : ∀ {l : List S64} {t : ByteArray} (i : Nat), i < l.length → (l.getD i z64).f0 = t → (∀ j, j < i → (l.getD j z64).f0 ≠ t) → atF l t = (l.getD i z64).f1
  | [], _, _, h, _, _ => by simp at h
  | b :: l, t, 0, _, h, _ => by
    rw [atF, if_pos (by simpa using h)]
    simp
  | b :: l, t, i + 1, hi, h, hn => by
    rw [atF, if_neg (by simpa using hn 0 (by omega))]
    have := atF_at (l := l) (t := t) i (by simpa using hi) (by simpa using h) (fun j hj => by simpa using hn (j + 1) (by omega))
    simpa using this
noncomputable def branchAt (l : List S64) (many : Int) (t : ByteArray) : Int := if branchesValid l many = true then atF l t else -1
theorem impl_branchAt_ev (l : List S64) (many : Int) (t : ByteArray) (hl : BranSized l) : Ev (fun k => impl_BranchAt.f k l many t) (branchAt l many t) := by
  unfold impl_BranchAt.f branchAt
  rw [Ev_bd (impl_bran_ev l many hl), Ev_ite]
  by_cases h : branchesValid l many = true
  · rw [if_pos h, if_pos h]
    obtain ⟨r, b, hr, h1, h2, h3, h4⟩ := findBranch_p h t
    rw [Ev_bd hr]
    dsimp only
    rw [Ev_ite]
    by_cases hb : b = true
    · have hb' := h4.1 hb
      rw [if_pos hb, Ev_pos (by omega), Ev_pos (by omega), rdBranch]
      exact Ev_some.mpr (atF_at r hb'.1 hb'.2 (fun j hj => lessS_ne (h2 j hj))).symm
    · rw [if_neg hb]
      refine Ev_some.mpr (atF_none fun v hv e => ?_).symm
      obtain ⟨i, hi, rfl⟩ := List.getElem_of_mem hv
      have eg : l.getD i z64 = l[i] := by rw [List.getD_eq_getElem?_getD, List.getElem?_eq_getElem hi]; rfl
      rw [← eg] at e
      rcases Nat.lt_or_ge i r with q | q
      · exact lessS_ne (h2 i q) e
      · by_cases q2 : i = r
        · subst q2
          exact hb (h4.2 ⟨hi, e⟩)
        · have := branchesValid_less h i r (by omega) hi
          rw [e, h3 r (Nat.le_refl _) (by omega)] at this
          simp at this
  · rw [if_neg h, if_neg h]
    exact Ev_some.mpr rfl
theorem spec_branchAt_ev (l : List S64) (many : Int) (t : ByteArray) (hl : BranSized l) : Ev (fun k => spec_BranchAt.f k l many t) (branchAt l many t) := by
  have hn := hl.1
  unfold spec_BranchAt.f
  have hend : Ev (fun k => spec_BranchAt.l0 k l many t (l.length : Int)) (-1) := by
    refine Ev_succ.mpr ?_
    simp only [spec_BranchAt.l0]
    rw [Ev_neg (by omega)]
    refine Ev_succ.mpr ?_
    simp only [spec_BranchAt.j1]
    rw [Ev_neg (by simp)]
    exact Ev_some.mpr rfl
  unfold branchAt
  by_cases h : branchesValid l many = true
  · rw [if_pos h]
    have key : ∀ d i, i + d = l.length → Ev (fun k => spec_BranchAt.l0 k l many t (i : Int)) (atF (l.drop i) t) := by
      intro d
      induction d with
      | zero =>
        intro i hi
        obtain rfl : i = l.length := by omega
        rw [List.drop_length]
        exact hend
      | succ d ih =>
        intro i hi
        refine Ev_succ.mpr ?_
        simp only [spec_BranchAt.l0]
        rw [Ev_pos (by omega), Ev_bd (spec_bran_ev l many hl), h]
        refine Ev_succ.mpr ?_
        simp only [spec_BranchAt.j1, if_true, rdBranch, w64s i (by omega)]
        rw [Ev_pos (by omega), Ev_pos (by omega), drop_cons l z64 i (by omega), atF, Ev_ite]
        by_cases he : (l.getD i z64).f0 = t
        · rw [if_pos (by rw [he]), if_pos he]
          exact Ev_some.mpr rfl
        · rw [if_neg (fun g => he (toList_iff.1 g)), if_neg he]
          exact ih (i + 1) (by omega)
    exact key l.length 0 (by omega)
  · rw [if_neg h]
    by_cases h0 : l.length = 0
    · rw [h0] at hend
      exact hend
    · refine Ev_succ.mpr ?_
      simp only [spec_BranchAt.l0]
      rw [Ev_pos (by omega), Ev_bd (spec_bran_ev l many hl)]
      refine Ev_succ.mpr ?_
      simp only [spec_BranchAt.j1]
      rw [Ev_neg h]
      exact Ev_some.mpr rfl
end Go.Proofs.Ytbjfbmoeboagaaa.Mod
