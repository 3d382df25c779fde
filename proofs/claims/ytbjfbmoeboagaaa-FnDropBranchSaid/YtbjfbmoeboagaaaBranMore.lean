/- What SetBranch and DropBranch come to. -/
import Derived.Test.YtbjfbmoeboagaaaPx0
import Derived.Test.YtbjfbmoeboagaaaPx49
import Derived.Test.YtbjfbmoeboagaaaPx50
import Derived.Test.YtbjfbmoeboagaaaPx53
import Derived.Test.YtbjfbmoeboagaaaPx56
import Derived.Test.YtbjfbmoeboagaaaPx57
import Derived.Test.YtbjfbmoeboagaaaSetB
namespace Go.Proofs.Ytbjfbmoeboagaaa.Mod
open Go.RowKit Go.Proofs.Ytbjfbmoeboagaaa.P Go.Proofs.Ytbjfbmoeboagaaa.EvK Go.Proofs.YtbjfbmoeboagaaaW.PrintWords Go.Proofs.YtbjfbmoeboagaaaW.PrintLast
set_option linter.unusedVariables false
set_option linter.unusedSimpArgs false
theorem getD_at {α : Type} (l : List α) (z : α) (i : Nat) (h : i < l.length) : l.getD i z = l[i] := by
  rw [List.getD_eq_getElem?_getD, List.getElem?_eq_getElem h]
  rfl
theorem branchesValid_iff {l : List S64} {many : Int} : branchesValid l many = true ↔ (0 ≤ many ∧ many ≤ 12) ∧ l.length ≤ 6 ∧ (∀ v ∈ l, wordValid v.f0 = true ∧ inB v.f1 0 (many - 1) = true) ∧ l.Pairwise (fun a b => lessS a.f0 b.f0 = true) := by
  constructor
  · intro h
    refine ⟨branchesValid_many h, branchesValid_len h, fun v hv => ?_, ?_⟩
    · obtain ⟨i, hi, rfl⟩ := List.getElem_of_mem hv
      have := branchesValid_at h hi
      unfold branOk at this
      simp only [Bool.and_eq_true] at this
      rw [getD_at l _ i hi] at this
      exact this.1
    · rw [List.pairwise_iff_getElem]
      intro i j hi hj hij
      have := branchesValid_less h j i hij hj
      rwa [getD_at l _ i hi, getD_at l _ j hj] at this
  · rintro ⟨h1, h2, h3, h4⟩
    unfold branchesValid
    rw [inB_iff.2 h1, Bool.true_and, Bool.and_eq_true, decide_eq_true_iff]
    refine ⟨allN_iff.2 (fun i hi => ?_), by omega⟩
    unfold branOk
    rw [getD_at l _ i hi]
    have hv := h3 _ (List.getElem_mem hi)
    rw [hv.1, hv.2, Bool.true_and, Bool.true_and]
    by_cases h0 : i = 0
    · simp [h0]
    · rw [decide_eq_false h0, Bool.false_or, getD_at l _ (i - 1) (by omega)]
      exact List.pairwise_iff_getElem.1 h4 (i - 1) i (by omega) hi (by omega)
theorem branchesValid_sub {l m : List S64} {many : Int} (h : branchesValid l many = true) (hs : m.Sublist l) : branchesValid m many = true := by
  obtain ⟨h1, h2, h3, h4⟩ := branchesValid_iff.1 h
  exact branchesValid_iff.2 ⟨h1, by have := hs.length_le; omega, fun v hv => h3 v (hs.subset hv), h4.sublist hs⟩
theorem impl_setB_ev (l : List S64) (many : Int) (s : ByteArray) (n : Int) (hl : BranSized l) (hn : l.length ≤ 1048576) (hs : s.size ≤ 9223372036854775807) : Ev (fun k => impl_SetBranch.f k l many s n) (setB l many ⟨s, n⟩) := by
  have hc : slices_Clone_Branch.f l = some l := by
    unfold slices_Clone_Branch.f
    rw [if_pos (by omega)]
  unfold impl_SetBranch.f setB
  rw [Ev_bd (impl_bran_ev l many hl), Ev_ite]
  by_cases h : branchesValid l many = true
  · rw [if_pos h, if_pos h, Ev_b0 hc]
    obtain ⟨r, b, hr, h1, h2, h3, h4⟩ := findBranch_p h s
    rw [Ev_bd hr]
    dsimp only
    have hp : r = posB l s := posB_uniq h1 h2 (fun hlt => h3 r (Nat.le_refl _) hlt)
    have hz := putB_sized (b := ⟨s, n⟩) hl hn hs
    have hj0 : Ev (fun k => impl_SetBranch.j0 k l many (putB l ⟨s, n⟩)) (if branchesValid (putB l ⟨s, n⟩) many = true then (putB l ⟨s, n⟩, true) else (l, false)) := by
      refine Ev_succ.mpr ?_
      simp only [impl_SetBranch.j0]
      rw [Ev_bd (impl_bran_ev _ many hz), Ev_ite]
      by_cases h5 : branchesValid (putB l ⟨s, n⟩) many = true
      · rw [if_pos h5, if_pos h5]
        exact Ev_some.mpr rfl
      · rw [if_neg h5, if_neg h5, Ev_b0 hc]
        exact Ev_some.mpr rfl
    rw [Ev_ite]
    by_cases hb : b = true
    · have hb' := h4.1 hb
      rw [if_pos hb, Ev_pos (by omega), Ev_pos (by omega), Int.toNat_natCast]
      have e : l.set r ⟨s, n⟩ = putB l ⟨s, n⟩ := by
        unfold putB
        rw [← hp, if_pos hb', List.set_eq_take_append_cons_drop, if_pos hb'.1]
        simp
      rw [e]
      exact hj0
    · have hb' : ¬ (r < l.length ∧ (l.getD r z64).f0 = s) := fun g => hb (h4.2 g)
      rw [if_neg hb]
      have e : slices_Insert_Branch.f l (r : Int) [⟨s, n⟩] = some (putB l ⟨s, n⟩) := by
        unfold slices_Insert_Branch.f putB
        rw [← hp, if_neg hb', if_pos ⟨rfl, by omega, by omega, by omega⟩, Int.toNat_natCast]
      rw [Ev_b0 e]
      exact hj0
  · rw [if_neg h, if_neg h]
    exact Ev_some.mpr rfl
open Classical in
noncomputable def dropF (l : List S64) (t : ByteArray) : List S64 := l.filter (fun b => !decide (b.f0 = t))
noncomputable def dropB (l : List S64) (many : Int) (t : ByteArray) : List S64 × Bool := if branchesValid l many = true then (dropF l t, decide ((dropF l t).length < l.length)) else ([], false)
theorem dropF_all {l : List S64} {t : ByteArray} (h : ∀ v ∈ l, v.f0 ≠ t) : dropF l t = l := by
  unfold dropF
  rw [List.filter_eq_self]
  intro v hv
  simpa using h v hv
theorem dropF_append (a b : List S64) (t : ByteArray) : dropF (a ++ b) t = dropF a t ++ dropF b t := by
  unfold dropF
  rw [List.filter_append]
theorem dropF_cons_eq (v : S64) (l : List S64) (t : ByteArray) (h : v.f0 = t) : dropF (v :: l) t = dropF l t := by
  unfold dropF
  rw [List.filter_cons_of_neg (by simp [h])]
theorem dropF_cons_ne (v : S64) (l : List S64) (t : ByteArray) (h : v.f0 ≠ t) : dropF (v :: l) t = v :: dropF l t := by
  unfold dropF
  rw [List.filter_cons_of_pos (by simp [h])]
theorem dropF_sub (l : List S64) (t : ByteArray) : (dropF l t).Sublist l := List.filter_sublist
theorem dropF_not {l : List S64} {t : ByteArray} : ∀ v ∈ dropF l t, v.f0 ≠ t := by
  intro v hv
  unfold dropF at hv
  simpa using (List.mem_filter.1 hv).2
theorem dropF_at {l : List S64} {t : ByteArray} {r : Nat} (hr : r < l.length) (he : (l.getD r z64).f0 = t) (hn : ∀ j, j < l.length → j ≠ r → (l.getD j z64).f0 ≠ t) : dropF l t = l.take r ++ l.drop (r + 1) := by
  have e : l = l.take r ++ l.getD r z64 :: l.drop (r + 1) := by
    rw [← drop_cons l _ r hr, List.take_append_drop]
  have h1 : ∀ v ∈ l.take r, v.f0 ≠ t := by
    intro v hv
    obtain ⟨i, hi, rfl⟩ := List.getElem_of_mem hv
    rw [List.length_take] at hi
    rw [List.getElem_take, ← getD_at l z64 i (by omega)]
    exact hn i (by omega) (by omega)
  have h2 : ∀ v ∈ l.drop (r + 1), v.f0 ≠ t := by
    intro v hv
    obtain ⟨i, hi, rfl⟩ := List.getElem_of_mem hv
    rw [List.length_drop] at hi
    rw [List.getElem_drop, ← getD_at l z64 _ (by omega)]
    exact hn _ (by omega) (by omega)
  rw [congrArg (fun x => dropF x t) e]
  show dropF (l.take r ++ l.getD r z64 :: l.drop (r + 1)) t = _
  rw [dropF_append, dropF_cons_eq _ _ _ he, dropF_all h1, dropF_all h2]
theorem branches_once {l : List S64} {many : Int} (h : branchesValid l many = true) {t : ByteArray} {r : Nat} (hr : r < l.length) (he : (l.getD r z64).f0 = t) : ∀ j, j < l.length → j ≠ r → (l.getD j z64).f0 ≠ t := by
  intro j hj hne e
  rcases Nat.lt_or_ge j r with q | q
  · have := branchesValid_less h r j q hr
    rw [e, he, lessS_irrefl] at this
    simp at this
  · have := branchesValid_less h j r (by omega) hj
    rw [e, he, lessS_irrefl] at this
    simp at this
theorem impl_dropB_ev (l : List S64) (many : Int) (t : ByteArray) (hl : BranSized l) (hn : l.length ≤ 1048576) : Ev (fun k => impl_DropBranch.f k l many t) (dropB l many t) := by
  have hc : slices_Clone_Branch.f l = some l := by
    unfold slices_Clone_Branch.f
    rw [if_pos (by omega)]
  unfold impl_DropBranch.f dropB
  rw [Ev_bd (impl_bran_ev l many hl), Ev_ite]
  by_cases h : branchesValid l many = true
  · rw [if_pos h, if_pos h, Ev_b0 hc]
    obtain ⟨r, b, hr, h1, h2, h3, h4⟩ := findBranch_p h t
    rw [Ev_bd hr]
    dsimp only
    rw [Ev_ite]
    by_cases hb : b = true
    · have hb' := h4.1 hb
      rw [if_pos hb, w64s r (by omega)]
      have e : slices_Delete_Branch.f l (r : Int) ((r + 1 : Nat) : Int) = some (l.take r ++ l.drop (r + 1)) := by
        unfold slices_Delete_Branch.f
        rw [if_pos ⟨by omega, by omega, by omega⟩, Int.toNat_natCast, Int.toNat_natCast]
      rw [Ev_b0 e, dropF_at hb'.1 hb'.2 (branches_once h hb'.1 hb'.2)]
      refine Ev_some.mpr ?_
      rw [decide_eq_true (by rw [List.length_append, List.length_take, List.length_drop]; omega)]
    · rw [if_neg hb]
      have hno : ∀ v ∈ l, v.f0 ≠ t := by
        intro v hv e
        obtain ⟨i, hi, rfl⟩ := List.getElem_of_mem hv
        rw [← getD_at l z64 i hi] at e
        rcases Nat.lt_or_ge i r with q | q
        · exact lessS_ne (h2 i q) e
        · by_cases q2 : i = r
          · subst q2
            exact hb (h4.2 ⟨hi, e⟩)
          · have := branchesValid_less h i r (by omega) hi
            rw [e, h3 r (Nat.le_refl _) (by omega)] at this
            simp at this
      rw [dropF_all hno]
      exact Ev_some.mpr (by simp)
  · rw [if_neg h, if_neg h]
    exact Ev_some.mpr rfl
theorem spec_dropB_ev (l : List S64) (many : Int) (t : ByteArray) (hl : BranSized l) (hn : l.length ≤ 1048576) : Ev (fun k => spec_DropBranch.f k l many t) (dropB l many t) := by
  unfold spec_DropBranch.f dropB
  by_cases h : branchesValid l many = true
  · rw [if_pos h]
    have key : ∀ d i (acc : List S64), i + d = l.length → acc.length ≤ i → Ev (fun k => spec_DropBranch.l0 k l many t acc (i : Int)) (acc ++ dropF (l.drop i) t, decide ((acc ++ dropF (l.drop i) t).length < l.length)) := by
      intro d
      induction d with
      | zero =>
        intro i acc hi ha
        refine Ev_succ.mpr ?_
        simp only [spec_DropBranch.l0]
        rw [Ev_neg (by omega), List.drop_eq_nil_of_le (by omega)]
        refine Ev_succ.mpr ?_
        simp only [spec_DropBranch.j1]
        rw [Ev_neg (by simp), Ev_bd (spec_bran_ev l many hl), Ev_pos h]
        have e : dropF ([] : List S64) t = [] := rfl
        rw [e, List.append_nil]
        refine Ev_some.mpr ?_
        congr 1
        rw [decide_eq_decide]
        omega
      | succ d ih =>
        intro i acc hi ha
        refine Ev_succ.mpr ?_
        simp only [spec_DropBranch.l0]
        rw [Ev_pos (by omega), Ev_bd (spec_bran_ev l many hl), h]
        refine Ev_succ.mpr ?_
        simp only [spec_DropBranch.j1, if_true, rdBranch, w64s i (by omega)]
        rw [Ev_pos (by omega), Ev_pos (by omega), drop_cons l z64 i (by omega), Ev_ite]
        by_cases he : (l.getD i z64).f0 = t
        · rw [if_pos (by rw [he]), dropF_cons_eq _ _ _ he]
          exact ih (i + 1) acc (by omega) (by omega)
        · rw [if_neg (fun g => he (toList_iff.1 g)), dropF_cons_ne _ _ _ he, Ev_pos (by omega)]
          have := ih (i + 1) (acc ++ [l.getD i z64]) (by omega) (by simp; omega)
          rw [List.append_assoc] at this
          exact this
    have := key l.length 0 [] (by omega) (by simp)
    simpa using this
  · rw [if_neg h]
    have hend : Ev (fun k => spec_DropBranch.j1 k l many t [] 0 false) ([], false) := by
      refine Ev_succ.mpr ?_
      simp only [spec_DropBranch.j1]
      rw [Ev_neg (by simp), Ev_bd (spec_bran_ev l many hl), Ev_neg h]
      exact Ev_some.mpr rfl
    refine Ev_succ.mpr ?_
    simp only [spec_DropBranch.l0]
    rw [Ev_ite]
    split
    · rw [Ev_bd (spec_bran_ev l many hl), (by simpa using h : branchesValid l many = false)]
      exact hend
    · exact hend
theorem dropB_len (l : List S64) (many : Int) (t : ByteArray) : (dropB l many t).1.length ≤ 6 := by
  unfold dropB
  split
  · rename_i h
    have h1 := branchesValid_len h
    have h2 := (dropF_sub l t).length_le
    show (dropF l t).length ≤ 6
    omega
  · simp
theorem setB_len (l : List S64) (many : Int) (b : S64) : (setB l many b).1.length ≤ 6 := drawnB_setB b |>.1
theorem putB_drop (l : List S64) (b : S64) : dropF (putB l b) b.f0 = dropF l b.f0 := by
  have g0 := posB_le l b.f0
  unfold putB
  rw [dropF_append, dropF_append, dropF_cons_eq b [] b.f0 rfl]
  have e0 : dropF ([] : List S64) b.f0 = [] := rfl
  rw [e0, List.append_nil]
  have e1 : dropF l b.f0 = dropF (l.take (posB l b.f0)) b.f0 ++ dropF (l.drop (posB l b.f0)) b.f0 := by rw [← dropF_append, List.take_append_drop]
  rw [e1]
  congr 1
  split
  · rename_i hc
    rw [drop_cons l z64 _ hc.1, dropF_cons_eq _ _ _ hc.2]
  · rfl
theorem putB_at (l : List S64) (b : S64) : atF (putB l b) b.f0 = b.f1 := by
  obtain ⟨g1, g2⟩ := posB_spec l b.f0
  have g0 := posB_le l b.f0
  have hl : (l.take (posB l b.f0)).length = posB l b.f0 := by rw [List.length_take]; omega
  have e : (putB l b).getD (posB l b.f0) z64 = b := by
    unfold putB
    rw [List.getD_eq_getElem?_getD, List.append_assoc, List.getElem?_append_right (by omega), hl]
    simp
  rw [atF_at (posB l b.f0) (by unfold putB; rw [List.length_append, List.length_append, hl]; simp; omega) (by rw [e]) (fun j hj => ?_), e]
  have e2 : (putB l b).getD j z64 = l.getD j z64 := by
    unfold putB
    rw [List.getD_eq_getElem?_getD, List.append_assoc, List.getElem?_append_left (by omega), List.getElem?_take, if_pos hj, List.getD_eq_getElem?_getD]
  rw [e2]
  exact lessS_ne (g1 j hj)
theorem sameBranches_ev (a b : List S64) (ha : a.length ≤ 9223372036854775807) : Ev (fun k => laws_sameBranches.f k a b) (eqb a b) := by
  unfold laws_sameBranches.f
  rw [Ev_ite]
  by_cases h : (a.length : Int) = (b.length : Int)
  · rw [if_pos h]
    refine ev_eqS a b z64 (fun k i => laws_sameBranches.l0 k a b i) (by omega) ?_ ?_
    · intro i hi r hr
      refine Ev_succ.mpr ?_
      simp only [laws_sameBranches.l0, rdBranch, w64s i (by omega), Ev_ite]
      rw [if_pos (by omega), if_pos (by omega), if_pos (by omega)]
      generalize a.getD i z64 = x at hr ⊢
      generalize b.getD i z64 = y at hr ⊢
      by_cases he : x = y
      · rw [if_pos (eqb_iff.2 he)] at hr
        subst he
        rw [if_neg (by simp)]
        exact hr
      · rw [if_neg (fun g => he (eqb_iff.1 g))] at hr
        rw [if_pos]
        · exact Ev_some.mpr hr
        · obtain ⟨x0, x1⟩ := x
          obtain ⟨y0, y1⟩ := y
          by_cases g0 : x0.toList = y0.toList <;> by_cases g2 : x1 = y1
          all_goals first | (have := toList_iff.1 g0; exact absurd (by rw [g2, this]) he) | simp [g0, g2]
    · refine Ev_succ.mpr ?_
      simp only [laws_sameBranches.l0, Ev_ite]
      rw [if_neg (by omega)]
      exact Ev_some.mpr rfl
  · rw [if_neg h, eqb_ne (fun e => h (by rw [e]))]
    exact Ev_some.mpr rfl
end Go.Proofs.Ytbjfbmoeboagaaa.Mod
