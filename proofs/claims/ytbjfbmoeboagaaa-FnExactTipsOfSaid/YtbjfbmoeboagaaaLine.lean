/- What LineOf comes to. -/
import Derived.Test.YtbjfbmoeboagaaaPx0
import Derived.Test.YtbjfbmoeboagaaaPx14
import Derived.Test.YtbjfbmoeboagaaaPx38
import Derived.Test.YtbjfbmoeboagaaaVers
import Derived.Test.YtbjfbmoeboagaaaVersMore
namespace Go.Proofs.Ytbjfbmoeboagaaa.Mod
open Go.RowKit Go.Proofs.Ytbjfbmoeboagaaa.P Go.Proofs.Ytbjfbmoeboagaaa.EvK Go.Proofs.YtbjfbmoeboagaaaW.PrintWords Go.Proofs.YtbjfbmoeboagaaaW.PrintLast
set_option linter.unusedVariables false
set_option linter.unusedSimpArgs false
/-- The version before. -/
def bef (l : List S25) (n : Int) : Int := (l.getD n.toNat z25).f1
theorem bef_rd (l : List S25) (n : Int) : (rd_T25 l n).f1 = bef l n := by simp [rd_T25, bef]
theorem bef_in {l : List S25} (h : versionsValid l = true) {n : Int} (h0 : 0 ≤ n) (h1 : n < l.length) : -1 ≤ bef l n ∧ bef l n < n := by
  have := versionsValid_at h (i := n.toNat) (by omega)
  unfold versOk at this
  simp only [Bool.and_eq_true] at this
  have := inB_iff.1 this.1.2
  unfold bef
  omega
def lineL (l : List S25) : Nat → Int → List Int
  | 0, _ => []
  | f + 1, n => if 0 ≤ n then n :: lineL l f (bef l n) else []
def lineOf (l : List S25) (n : Int) : List Int := if versionsValid l = true ∧ 0 ≤ n ∧ n < l.length then lineL l (l.length + 1) n else []
theorem lineL_len (l : List S25) : ∀ f n, (lineL l f n).length ≤ f
  | 0, _ => by simp [lineL]
  | f + 1, n => by
    unfold lineL
    split
    · simp only [List.length_cons]
      have := lineL_len l f (bef l n)
      omega
    · simp
theorem lineOf_len (l : List S25) (n : Int) : (lineOf l n).length ≤ 13 := by
  unfold lineOf
  split
  · rename_i h
    have := lineL_len l (l.length + 1) n
    have := versionsValid_len h.1
    omega
  · simp
theorem impl_lineL_ev {l : List S25} (h : versionsValid l = true) : ∀ (f : Nat) (n : Int) (acc : List Int), n < f → n < l.length → acc.length + f ≤ 100 → Ev (fun k => impl_LineOf.l0 k l n acc) (acc ++ lineL l f n) := by
  intro f
  induction f with
  | zero =>
    intro n acc hf hn ha
    refine Ev_succ.mpr ?_
    simp only [impl_LineOf.l0]
    rw [Ev_neg (by omega)]
    simp [lineL, Ev_some]
  | succ f ih =>
    intro n acc hf hn ha
    refine Ev_succ.mpr ?_
    simp only [impl_LineOf.l0, bef_rd]
    by_cases h0 : 0 ≤ n
    · have hb := bef_in h h0 hn
      rw [Ev_pos (by omega), Ev_pos (by omega), Ev_pos h0, Ev_pos hn]
      have := ih (bef l n) (acc ++ [n]) (by omega) (by omega) (by simp; omega)
      unfold lineL
      rw [if_pos h0]
      simpa using this
    · rw [Ev_neg (by omega)]
      unfold lineL
      rw [if_neg h0]
      simp [Ev_some]
theorem spec_lineL_ev {l : List S25} (h : versionsValid l = true) : ∀ (f : Nat) (n : Int) (acc : List Int), n < f → n < l.length → acc.length + f ≤ 100 → Ev (fun k => spec_LineOf.l0 k l n acc) (acc ++ lineL l f n) := by
  intro f
  induction f with
  | zero =>
    intro n acc hf hn ha
    refine Ev_succ.mpr ?_
    simp only [spec_LineOf.l0]
    rw [Ev_neg (by omega)]
    simp [lineL, Ev_some]
  | succ f ih =>
    intro n acc hf hn ha
    refine Ev_succ.mpr ?_
    simp only [spec_LineOf.l0, bef_rd]
    by_cases h0 : 0 ≤ n
    · have hb := bef_in h h0 hn
      rw [Ev_pos (by omega), Ev_pos (by omega), Ev_pos h0, Ev_pos hn]
      have := ih (bef l n) (acc ++ [n]) (by omega) (by omega) (by simp; omega)
      unfold lineL
      rw [if_pos h0]
      simpa using this
    · rw [Ev_neg (by omega)]
      unfold lineL
      rw [if_neg h0]
      simp [Ev_some]
theorem impl_line_ev (l : List S25) (hl : VersSized l) (n : Int) (hn : -9223372036854775808 ≤ n ∧ n ≤ 9223372036854775807) : Ev (fun k => impl_LineOf.f k l n) (lineOf l n) := by
  unfold impl_LineOf.f lineOf
  have hj : ∀ b r, Ev (fun k => impl_LineOf.j0 k l n b) r ↔ (if b = true then [] = r else Ev (fun k => impl_LineOf.l0 k l n []) r) := by
    intro b r
    rw [Ev_succ]
    simp only [impl_LineOf.j0, Ev_ite, Ev_some]
  rw [Ev_bd (impl_vers_ev l hl)]
  simp only [Ev_ite, hj]
  by_cases h : versionsValid l = true
  · rw [if_pos h]
    have hlen := versionsValid_len h
    by_cases h0 : n < 0
    · rw [if_pos h0, if_pos trivial, if_neg (fun g => by omega)]
    · rw [if_neg h0]
      by_cases h1 : n < l.length
      · rw [decide_eq_false (by omega), if_neg (by simp), if_pos ⟨h, by omega, h1⟩]
        have := impl_lineL_ev h (l.length + 1) n [] (by omega) h1 (by simp; omega)
        simpa using this
      · rw [decide_eq_true (by omega), if_pos rfl, if_neg (by omega)]
  · rw [if_neg h, if_pos trivial, if_neg (fun g => h g.1)]
theorem spec_line_ev (l : List S25) (hl : VersSized l) (n : Int) (hn : -9223372036854775808 ≤ n ∧ n ≤ 9223372036854775807) : Ev (fun k => spec_LineOf.f k l n) (lineOf l n) := by
  unfold spec_LineOf.f lineOf
  have hj : ∀ b r, Ev (fun k => spec_LineOf.j0 k l n [] b) r ↔ (if b = true then [] = r else Ev (fun k => spec_LineOf.l0 k l n []) r) := by
    intro b r
    rw [Ev_succ]
    simp only [spec_LineOf.j0, Ev_ite, Ev_some]
  simp only [Option.bind_some]
  rw [Ev_bd (spec_vers_ev l hl)]
  simp only [Ev_ite, l1In_eq, Option.bind_some, hj]
  by_cases h : versionsValid l = true
  · rw [if_pos h]
    have hlen := versionsValid_len h
    rw [w64 (by omega) (by omega)]
    by_cases h1 : 0 ≤ n ∧ n ≤ (l.length : Int) - 1
    · rw [inB_iff.2 h1, if_neg (by simp), if_pos ⟨h, by omega, by omega⟩]
      have := spec_lineL_ev h (l.length + 1) n [] (by omega) (by omega) (by simp; omega)
      simpa using this
    · have e : inB n 0 ((l.length : Int) - 1) = false := by
        rw [Bool.eq_false_iff]
        exact fun g => h1 (inB_iff.1 g)
      rw [e, if_pos (by simp), if_neg (by omega)]
  · rw [if_neg h, if_pos trivial, if_neg (fun g => h g.1)]
/-- What a line is: each number is the one before the number ahead of it, and the last has none before. -/
theorem lineL_facts {l : List S25} (h : versionsValid l = true) : ∀ (f : Nat) (n : Int), 0 ≤ n → n < f → n < l.length →
    0 < (lineL l f n).length ∧ (lineL l f n).getD 0 0 = n ∧ (∀ i, i < (lineL l f n).length → 0 ≤ (lineL l f n).getD i 0 ∧ (lineL l f n).getD i 0 < l.length ∧ (lineL l f n).getD i 0 ≤ n) ∧
    (∀ i, i + 1 < (lineL l f n).length → (lineL l f n).getD (i + 1) 0 < (lineL l f n).getD i 0 ∧ bef l ((lineL l f n).getD i 0) = (lineL l f n).getD (i + 1) 0) ∧
    bef l ((lineL l f n).getD ((lineL l f n).length - 1) 0) = -1 := by
  intro f
  induction f with
  | zero => intro n h0 h1; omega
  | succ f ih =>
    intro n h0 h1 h2
    have hb := bef_in h h0 h2
    have e : lineL l (f + 1) n = n :: lineL l f (bef l n) := by
      rw [lineL, if_pos h0]
    rw [e]
    by_cases hm : 0 ≤ bef l n
    · obtain ⟨a1, a2, a3, a4, a5⟩ := ih (bef l n) hm (by omega) (by omega)
      refine ⟨by simp, by simp, ?_, ?_, ?_⟩
      · intro i hi
        cases i with
        | zero => simp only [List.getD_cons_zero]; omega
        | succ i =>
          simp only [List.getD_cons_succ]
          have := a3 i (by simpa using hi)
          omega
      · intro i hi
        cases i with
        | zero =>
          simp only [List.getD_cons_zero, List.getD_cons_succ, Nat.zero_add]
          rw [a2]
          exact ⟨hb.2, rfl⟩
        | succ i =>
          simp only [List.getD_cons_succ]
          exact a4 i (by simpa using hi)
      · simp only [List.length_cons]
        rw [show (lineL l f (bef l n)).length + 1 - 1 = ((lineL l f (bef l n)).length - 1) + 1 by omega, List.getD_cons_succ]
        exact a5
    · have e2 : lineL l f (bef l n) = [] := by
        cases f with
        | zero => rfl
        | succ f => rw [lineL, if_neg hm]
      rw [e2]
      refine ⟨by simp, by simp, ?_, ?_, ?_⟩
      · intro i hi
        have : i = 0 := by simpa using hi
        subst this
        simp only [List.getD_cons_zero]
        omega
      · intro i hi
        simp at hi
      · show bef l n = -1
        omega
end Go.Proofs.Ytbjfbmoeboagaaa.Mod
