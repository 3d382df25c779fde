/- What findBranch and BranchAt come to. -/
import Derived.Test.YtglfoihpgpdooabPx0
import Derived.Test.YtglfoihpgpdooabBran
namespace Go.Proofs.Ytglfoihpgpdooab.Mod
open Go.RowKit Go.Proofs.Ytglfoihpgpdooab.P Go.Proofs.Ytglfoihpgpdooab.EvK Go.Proofs.YtglfoihpgpdooabW.PrintWords Go.Proofs.YtglfoihpgpdooabW.PrintLast
set_option linter.unusedVariables false
set_option linter.unusedSimpArgs false
theorem branchesValid_len {l : List S35} {many : Int} (h : branchesValid l many = true) : l.length ≤ 6 := by
  unfold branchesValid at h
  simp only [Bool.and_eq_true, decide_eq_true_eq] at h
  omega
theorem branchesValid_many {l : List S35} {many : Int} (h : branchesValid l many = true) : 0 ≤ many ∧ many ≤ 12 := by
  unfold branchesValid at h
  simp only [Bool.and_eq_true] at h
  exact inB_iff.1 h.1
theorem branchesValid_at {l : List S35} {many : Int} (h : branchesValid l many = true) {i : Nat} (hi : i < l.length) : branOk l many i = true := by
  unfold branchesValid at h
  simp only [Bool.and_eq_true] at h
  exact allN_iff.1 h.2.1 i hi
theorem wordValid_size' {s : ByteArray} (h : wordValid s = true) : s.size ≤ 8 := by
  unfold wordValid at h
  simp only [Bool.and_eq_true] at h
  have := (inB_iff.1 h.2).2
  omega
theorem branchesValid_word {l : List S35} {many : Int} (h : branchesValid l many = true) : ∀ v ∈ l, v.f0.size ≤ 8 := by
  intro v hv
  obtain ⟨i, hi, rfl⟩ := List.getElem_of_mem hv
  have := branchesValid_at h hi
  unfold branOk at this
  simp only [Bool.and_eq_true] at this
  have := this.1.1
  rw [List.getD_eq_getElem?_getD, List.getElem?_eq_getElem hi] at this
  exact wordValid_size' this
theorem branchesValid_sized {l : List S35} {many : Int} (h : branchesValid l many = true) : BranSized l :=
  ⟨by have := branchesValid_len h; omega, fun v hv => by have := branchesValid_word h v hv; omega⟩
theorem branchesValid_less {l : List S35} {many : Int} (h : branchesValid l many = true) : ∀ j i : Nat, i < j → j < l.length → lessS (l.getD i z35).f0 (l.getD j z35).f0 = true := by
  intro j
  induction j with
  | zero => intro i hi; omega
  | succ j ih =>
    intro i hi hj
    have hb := branchesValid_at h hj
    unfold branOk at hb
    simp only [Bool.and_eq_true, Bool.or_eq_true, decide_eq_true_eq, Nat.add_sub_cancel] at hb
    have hb := hb.2.resolve_left (by omega)
    by_cases hij : i = j
    · rw [hij]; exact hb
    · exact lessS_trans (ih i (by omega) (by omega)) hb
open Classical in
/-- The number kept for a text. -/
noncomputable def atF : List S35 → ByteArray → Int
  | [], _ => -1
  | b :: l, t => if b.f0 = t then b.f1 else atF l t
theorem atF_none {l : List S35} {t : ByteArray} (h : ∀ v ∈ l, v.f0 ≠ t) : atF l t = -1 := by
  induction l with
  | nil => rfl
  | cons b l ih =>
    rw [atF, if_neg (h b List.mem_cons_self)]
    exact ih (fun v hv => h v (List.mem_cons_of_mem _ hv))
theorem atF_at : ∀ {l : List S35} {t : ByteArray} (i : Nat), i < l.length → (l.getD i z35).f0 = t → (∀ j, j < i → (l.getD j z35).f0 ≠ t) → atF l t = (l.getD i z35).f1
  | [], _, _, h, _, _ => by simp at h
  | b :: l, t, 0, _, h, _ => by
    rw [atF, if_pos (by simpa using h)]
    simp
  | b :: l, t, i + 1, hi, h, hn => by
    rw [atF, if_neg (by simpa using hn 0 (by omega))]
    have := atF_at (l := l) (t := t) i (by simpa using hi) (by simpa using h) (fun j hj => by simpa using hn (j + 1) (by omega))
    simpa using this
noncomputable def branchAt (l : List S35) (many : Int) (t : ByteArray) : Int := if branchesValid l many = true then atF l t else -1
end Go.Proofs.Ytglfoihpgpdooab.Mod
