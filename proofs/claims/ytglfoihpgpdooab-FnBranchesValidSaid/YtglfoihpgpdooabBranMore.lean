/- What SetBranch and DropBranch come to. -/
import Derived.Test.YtglfoihpgpdooabPx0
import Derived.Test.YtglfoihpgpdooabSetB
namespace Go.Proofs.Ytglfoihpgpdooab.Mod
open Go.RowKit Go.Proofs.Ytglfoihpgpdooab.P Go.Proofs.Ytglfoihpgpdooab.EvK Go.Proofs.YtglfoihpgpdooabW.PrintWords Go.Proofs.YtglfoihpgpdooabW.PrintLast
set_option linter.unusedVariables false
set_option linter.unusedSimpArgs false
theorem getD_at {α : Type} (l : List α) (z : α) (i : Nat) (h : i < l.length) : l.getD i z = l[i] := by
  rw [List.getD_eq_getElem?_getD, List.getElem?_eq_getElem h]
  rfl
theorem branchesValid_iff {l : List S35} {many : Int} : branchesValid l many = true ↔ (0 ≤ many ∧ many ≤ 12) ∧ l.length ≤ 6 ∧ (∀ v ∈ l, wordValid v.f0 = true ∧ inB v.f1 0 (many - 1) = true) ∧ l.Pairwise (fun a b => lessS a.f0 b.f0 = true) := by
  constructor
  · intro h
    refine ⟨branchesValid_many h, branchesValid_len h, fun v hv => ?_, ?_⟩
    · obtain ⟨i, hi, rfl⟩ := List.getElem_of_mem hv
      have := branchesValid_at h hi
      unfold branOk at this
      simp only [Bool.and_eq_true] at this
      rw [getD_at l _ i hi] at this
      exact this.1
    · rw [List.pairwise_iff_getElem]
      intro i j hi hj hij
      have := branchesValid_less h j i hij hj
      rwa [getD_at l _ i hi, getD_at l _ j hj] at this
  · rintro ⟨h1, h2, h3, h4⟩
    unfold branchesValid
    rw [inB_iff.2 h1, Bool.true_and, Bool.and_eq_true, decide_eq_true_iff]
    refine ⟨allN_iff.2 (fun i hi => ?_), by omega⟩
    unfold branOk
    rw [getD_at l _ i hi]
    have hv := h3 _ (List.getElem_mem hi)
    rw [hv.1, hv.2, Bool.true_and, Bool.true_and]
    by_cases h0 : i = 0
    · simp [h0]
    · rw [decide_eq_false h0, Bool.false_or, getD_at l _ (i - 1) (by omega)]
      exact List.pairwise_iff_getElem.1 h4 (i - 1) i (by omega) hi (by omega)
theorem branchesValid_sub {l m : List S35} {many : Int} (h : branchesValid l many = true) (hs : m.Sublist l) : branchesValid m many = true := by
  obtain ⟨h1, h2, h3, h4⟩ := branchesValid_iff.1 h
  exact branchesValid_iff.2 ⟨h1, by have := hs.length_le; omega, fun v hv => h3 v (hs.subset hv), h4.sublist hs⟩
open Classical in
noncomputable def dropF (l : List S35) (t : ByteArray) : List S35 := l.filter (fun b => !decide (b.f0 = t))
noncomputable def dropB (l : List S35) (many : Int) (t : ByteArray) : List S35 × Bool := if branchesValid l many = true then (dropF l t, decide ((dropF l t).length < l.length)) else ([], false)
theorem dropF_all {l : List S35} {t : ByteArray} (h : ∀ v ∈ l, v.f0 ≠ t) : dropF l t = l := by
  unfold dropF
  rw [List.filter_eq_self]
  intro v hv
  simpa using h v hv
theorem dropF_append (a b : List S35) (t : ByteArray) : dropF (a ++ b) t = dropF a t ++ dropF b t := by
  unfold dropF
  rw [List.filter_append]
theorem dropF_cons_eq (v : S35) (l : List S35) (t : ByteArray) (h : v.f0 = t) : dropF (v :: l) t = dropF l t := by
  unfold dropF
  rw [List.filter_cons_of_neg (by simp [h])]
theorem dropF_cons_ne (v : S35) (l : List S35) (t : ByteArray) (h : v.f0 ≠ t) : dropF (v :: l) t = v :: dropF l t := by
  unfold dropF
  rw [List.filter_cons_of_pos (by simp [h])]
theorem dropF_sub (l : List S35) (t : ByteArray) : (dropF l t).Sublist l := List.filter_sublist
theorem dropF_not {l : List S35} {t : ByteArray} : ∀ v ∈ dropF l t, v.f0 ≠ t := by
  intro v hv
  unfold dropF at hv
  simpa using (List.mem_filter.1 hv).2
theorem dropF_at {l : List S35} {t : ByteArray} {r : Nat} (hr : r < l.length) (he : (l.getD r z35).f0 = t) (hn : ∀ j, j < l.length → j ≠ r → (l.getD j z35).f0 ≠ t) : dropF l t = l.take r ++ l.drop (r + 1) := by
  have e : l = l.take r ++ l.getD r z35 :: l.drop (r + 1) := by
    rw [← drop_cons l _ r hr, List.take_append_drop]
  have h1 : ∀ v ∈ l.take r, v.f0 ≠ t := by
    intro v hv
    obtain ⟨i, hi, rfl⟩ := List.getElem_of_mem hv
    rw [List.length_take] at hi
    rw [List.getElem_take, ← getD_at l z35 i (by omega)]
    exact hn i (by omega) (by omega)
  have h2 : ∀ v ∈ l.drop (r + 1), v.f0 ≠ t := by
    intro v hv
    obtain ⟨i, hi, rfl⟩ := List.getElem_of_mem hv
    rw [List.length_drop] at hi
    rw [List.getElem_drop, ← getD_at l z35 _ (by omega)]
    exact hn _ (by omega) (by omega)
  rw [congrArg (fun x => dropF x t) e]
  show dropF (l.take r ++ l.getD r z35 :: l.drop (r + 1)) t = _
  rw [dropF_append, dropF_cons_eq _ _ _ he, dropF_all h1, dropF_all h2]
theorem branches_once {l : List S35} {many : Int} (h : branchesValid l many = true) {t : ByteArray} {r : Nat} (hr : r < l.length) (he : (l.getD r z35).f0 = t) : ∀ j, j < l.length → j ≠ r → (l.getD j z35).f0 ≠ t := by
  intro j hj hne e
  rcases Nat.lt_or_ge j r with q | q
  · have := branchesValid_less h r j q hr
    rw [e, he, lessS_irrefl] at this
    simp at this
  · have := branchesValid_less h j r (by omega) hj
    rw [e, he, lessS_irrefl] at this
    simp at this
theorem dropB_len (l : List S35) (many : Int) (t : ByteArray) : (dropB l many t).1.length ≤ 6 := by
  unfold dropB
  split
  · rename_i h
    have h1 := branchesValid_len h
    have h2 := (dropF_sub l t).length_le
    show (dropF l t).length ≤ 6
    omega
  · simp
theorem setB_len (l : List S35) (many : Int) (b : S35) : (setB l many b).1.length ≤ 6 := drawnB_setB b |>.1
theorem putB_drop (l : List S35) (b : S35) : dropF (putB l b) b.f0 = dropF l b.f0 := by
  have g0 := posB_le l b.f0
  unfold putB
  rw [dropF_append, dropF_append, dropF_cons_eq b [] b.f0 rfl]
  have e0 : dropF ([] : List S35) b.f0 = [] := rfl
  rw [e0, List.append_nil]
  have e1 : dropF l b.f0 = dropF (l.take (posB l b.f0)) b.f0 ++ dropF (l.drop (posB l b.f0)) b.f0 := by rw [← dropF_append, List.take_append_drop]
  rw [e1]
  congr 1
  split
  · rename_i hc
    rw [drop_cons l z35 _ hc.1, dropF_cons_eq _ _ _ hc.2]
  · rfl
theorem putB_at (l : List S35) (b : S35) : atF (putB l b) b.f0 = b.f1 := by
  obtain ⟨g1, g2⟩ := posB_spec l b.f0
  have g0 := posB_le l b.f0
  have hl : (l.take (posB l b.f0)).length = posB l b.f0 := by rw [List.length_take]; omega
  have e : (putB l b).getD (posB l b.f0) z35 = b := by
    unfold putB
    rw [List.getD_eq_getElem?_getD, List.append_assoc, List.getElem?_append_right (by omega), hl]
    simp
  rw [atF_at (posB l b.f0) (by unfold putB; rw [List.length_append, List.length_append, hl]; simp; omega) (by rw [e]) (fun j hj => ?_), e]
  have e2 : (putB l b).getD j z35 = l.getD j z35 := by
    unfold putB
    rw [List.getD_eq_getElem?_getD, List.append_assoc, List.getElem?_append_left (by omega), List.getElem?_take, if_pos hj, List.getD_eq_getElem?_getD]
  rw [e2]
  exact lessS_ne (g1 j hj)
end Go.Proofs.Ytglfoihpgpdooab.Mod
