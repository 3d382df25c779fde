/- More on lines of versions. -/
import Derived.Test.YtbjfbmoeboagaaaPx0
import Derived.Test.YtbjfbmoeboagaaaPx28
import Derived.Test.YtbjfbmoeboagaaaLine
namespace Go.Proofs.Ytbjfbmoeboagaaa.Mod
open Go.RowKit Go.Proofs.Ytbjfbmoeboagaaa.P Go.Proofs.Ytbjfbmoeboagaaa.EvK Go.Proofs.YtbjfbmoeboagaaaW.PrintWords Go.Proofs.YtbjfbmoeboagaaaW.PrintLast
set_option linter.unusedVariables false
set_option linter.unusedSimpArgs false
theorem lineL_mem {l : List S25} (h : versionsValid l = true) : ∀ (f : Nat) (n : Int), n < l.length → ∀ m ∈ lineL l f n, 0 ≤ m ∧ m ≤ n := by
  intro f
  induction f with
  | zero => intro n hn m hm; simp [lineL] at hm
  | succ f ih =>
    intro n hn m hm
    unfold lineL at hm
    by_cases h0 : 0 ≤ n
    · rw [if_pos h0] at hm
      have hb := bef_in h h0 hn
      rcases List.mem_cons.1 hm with rfl | hm
      · omega
      · have := ih (bef l n) (by omega) m hm
        omega
    · rw [if_neg h0] at hm
      simp at hm
theorem lineL_sorted {l : List S25} (h : versionsValid l = true) : ∀ (f : Nat) (n : Int), n < l.length → (lineL l f n).Pairwise (fun a b => b < a) := by
  intro f
  induction f with
  | zero => intro n hn; simp [lineL]
  | succ f ih =>
    intro n hn
    unfold lineL
    by_cases h0 : 0 ≤ n
    · rw [if_pos h0]
      have hb := bef_in h h0 hn
      refine List.pairwise_cons.2 ⟨fun m hm => ?_, ih _ (by omega)⟩
      have := lineL_mem h f (bef l n) (by omega) m hm
      omega
    · rw [if_neg h0]
      exact List.Pairwise.nil
theorem lineL_bef {l : List S25} (h : versionsValid l = true) : ∀ (f : Nat) (n : Int), n < f → n < l.length → ∀ m ∈ lineL l f n, 0 ≤ bef l m → bef l m ∈ lineL l f n := by
  intro f
  induction f with
  | zero => intro n hf hn m hm; simp [lineL] at hm
  | succ f ih =>
    intro n hf hn m hm hb
    unfold lineL at hm ⊢
    by_cases h0 : 0 ≤ n
    · rw [if_pos h0] at hm ⊢
      have hbn := bef_in h h0 hn
      refine List.mem_cons_of_mem _ ?_
      rcases List.mem_cons.1 hm with rfl | hm
      · cases f with
        | zero => omega
        | succ f =>
          unfold lineL
          rw [if_pos hb]
          exact List.mem_cons_self
      · exact ih (bef l n) (by omega) (by omega) m hm hb
    · rw [if_neg h0] at hm
      simp at hm
theorem lineOf_eq {l : List S25} (h : versionsValid l = true) {n : Int} (h0 : 0 ≤ n) (h1 : n < l.length) : lineOf l n = lineL l (l.length + 1) n := by
  unfold lineOf
  rw [if_pos ⟨h, h0, h1⟩]
theorem lineOf_mem {l : List S25} {n m : Int} (hm : m ∈ lineOf l n) : versionsValid l = true ∧ 0 ≤ m ∧ m ≤ n ∧ n < l.length := by
  unfold lineOf at hm
  by_cases h : versionsValid l = true ∧ 0 ≤ n ∧ n < l.length
  · rw [if_pos h] at hm
    have := lineL_mem h.1 _ n h.2.2 m hm
    exact ⟨h.1, this.1, this.2, h.2.2⟩
  · rw [if_neg h] at hm
    simp at hm
theorem lineOf_sorted (l : List S25) (n : Int) : (lineOf l n).Pairwise (fun a b => b < a) := by
  unfold lineOf
  by_cases h : versionsValid l = true ∧ 0 ≤ n ∧ n < l.length
  · rw [if_pos h]
    exact lineL_sorted h.1 _ n h.2.2
  · rw [if_neg h]
    exact List.Pairwise.nil
theorem lineOf_head {l : List S25} (h : versionsValid l = true) {n : Int} (h0 : 0 ≤ n) (h1 : n < l.length) : lineOf l n = n :: lineL l l.length (bef l n) := by
  rw [lineOf_eq h h0 h1, lineL, if_pos h0]
theorem lineOf_self {l : List S25} (h : versionsValid l = true) {n : Int} (h0 : 0 ≤ n) (h1 : n < l.length) : n ∈ lineOf l n := by
  rw [lineOf_head h h0 h1]
  exact List.mem_cons_self
theorem lineOf_bef {l : List S25} {n m : Int} (hm : m ∈ lineOf l n) (hb : 0 ≤ bef l m) : bef l m ∈ lineOf l n := by
  have h := lineOf_mem hm
  rw [lineOf_eq h.1 (by omega) h.2.2.2] at hm ⊢
  exact lineL_bef h.1 _ n (by omega) h.2.2.2 m hm hb
theorem hasInt_ev (y : List Int) (n : Int) (hy : y.length ≤ 9223372036854775807) : Ev (fun k => laws_hasInt.f k y n) (decide (n ∈ y)) := by
  have key : ∀ d i, i + d = y.length → Ev (fun k => laws_hasInt.l0 k y n (i : Int)) (decide (n ∈ y.drop i)) := by
    intro d
    induction d with
    | zero =>
      intro i hi
      refine Ev_succ.mpr ?_
      simp only [laws_hasInt.l0]
      rw [Ev_neg (by omega), List.drop_eq_nil_of_le (by omega)]
      exact Ev_some.mpr (by simp)
    | succ d ih =>
      intro i hi
      refine Ev_succ.mpr ?_
      simp only [laws_hasInt.l0, rd_nat, w64s i (by omega)]
      rw [Ev_pos (by omega), Ev_pos (by omega), drop_cons y 0 i (by omega), Ev_ite]
      by_cases he : y.getD i 0 = n
      · rw [if_pos he]
        exact Ev_some.mpr (decide_eq_true (by rw [he]; exact List.mem_cons_self)).symm
      · rw [if_neg he]
        have e : decide (n ∈ y.getD i 0 :: y.drop (i + 1)) = decide (n ∈ y.drop (i + 1)) := by
          rw [decide_eq_decide, List.mem_cons]
          exact ⟨fun h => h.resolve_left (fun g => he g.symm), Or.inr⟩
        rw [e]
        exact ih (i + 1) (by omega)
  have := key y.length 0 (by omega)
  rw [List.drop_zero] at this
  exact this
end Go.Proofs.Ytbjfbmoeboagaaa.Mod
