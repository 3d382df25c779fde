/- Texts on the way: ProofRight, AbsenceRight, ProofContent. -/

import Derived.Test.YtjgbidklkhohfaaDoorGet
import Derived.Test.YtjgbidklkhohfaaDoorTexts
namespace Go.Proofs.YtjgbidklkhohfaaDoor.Mod
open Go.RowKit Go.Proofs.YtjgbidklkhohfaaDoor.P Go.Proofs.YtjgbidklkhohfaaDoor.EvK Go.Proofs.YtjgbidklkhohfaaDoorW.PrintWords Go.Proofs.YtjgbidklkhohfaaDoorW.PrintLast
set_option linter.unusedVariables false
set_option linter.unusedSimpArgs false
theorem drop_nil {α : Type} (l : List α) {i : Nat} (h : l.length ≤ i) : l.drop i = [] := List.drop_eq_nil_of_le h
/-- Texts, the one of a print first, each but the last one that of a folder whose next name is kept for the print of the next text. -/
noncomputable def wayL : Int → List ByteArray → List ByteArray → Bool
  | _, _, [] => true
  | t, ns, s :: ss => decide (printOf s = t) && (ss.isEmpty || ((readFolder s).2 && (namedP (readFolder s).1 (ns.headD ByteArray.empty)).2 && wayL (namedP (readFolder s).1 (ns.headD ByteArray.empty)).1 ns.tail ss))
def TextsSized (ts : List ByteArray) : Prop := ts.length ≤ 1048576 ∧ ∀ z ∈ ts, z.size ≤ 1048576
theorem wayL_two (t : Int) (ns : List ByteArray) (s s' : ByteArray) (ss : List ByteArray) : wayL t ns (s :: s' :: ss) = (decide (printOf s = t) && ((readFolder s).2 && (namedP (readFolder s).1 (ns.headD ByteArray.empty)).2 && wayL (namedP (readFolder s).1 (ns.headD ByteArray.empty)).1 ns.tail (s' :: ss))) := by rw [wayL, List.isEmpty_cons, Bool.false_or]
theorem wayL_one (t : Int) (ns : List ByteArray) (s : ByteArray) : wayL t ns [s] = decide (printOf s = t) := by rw [wayL]; simp
theorem wayL_low (ns : List ByteArray) (s : ByteArray) (ss : List ByteArray) : wayL (-2) ns (s :: ss) = false := by
  rw [wayL, decide_eq_false (by have := (printOf_ge s).1; omega), Bool.false_and]
theorem headD_drop (ns : List ByteArray) (i : Nat) (h : i < ns.length) : (ns.drop i).headD ByteArray.empty = ns.getD i ByteArray.empty := by
  rw [drop_cons ns ByteArray.empty i h]; rfl
theorem readFolder_ok (s : ByteArray) : entriesValid (readFolder s).1 = true := by
  rcases readFolder_cases s with ⟨M, hM, e, hr⟩ | ⟨hno, hr⟩
  · rw [hr]; exact hM
  · rw [hr]; exact entriesValid_nil
noncomputable def proofRight (root : Int) (p : ByteArray) (ts : List ByteArray) : Bool := (pathParts p).2 && (decide (ts.length = (pathParts p).1.length + 1) && wayL root (pathParts p).1 ts)
noncomputable def absenceRight (root : Int) (p : ByteArray) (ts : List ByteArray) : Bool :=
  (pathParts p).2 && (decide (1 ≤ ts.length ∧ ts.length ≤ (pathParts p).1.length) && (wayL root (pathParts p).1 ts && ((readFolder (ts.getD (ts.length - 1) ByteArray.empty)).2 && !(namedP (readFolder (ts.getD (ts.length - 1) ByteArray.empty)).1 ((pathParts p).1.getD (ts.length - 1) ByteArray.empty)).2)))
noncomputable def proofContent (root : Int) (p : ByteArray) (ts : List ByteArray) : ByteArray × Bool := if proofRight root p ts = true then readFile (ts.getD (ts.length - 1) ByteArray.empty) else ((⟨#[]⟩ : ByteArray), false)
theorem rdLastT (ts : List ByteArray) (h : 0 < ts.length) (hl : ts.length ≤ 1048576) : 0 ≤ wrap64 ((ts.length : Int) - 1) ∧ wrap64 ((ts.length : Int) - 1) = ((ts.length - 1 : Nat) : Int) := by
  rw [w64 (by omega) (by omega)]
  omega
theorem proofRight_pos {root : Int} {p : ByteArray} {ts : List ByteArray} (h : proofRight root p ts = true) : 0 < ts.length := by
  unfold proofRight at h
  simp only [Bool.and_eq_true, decide_eq_true_eq] at h
  omega
end Go.Proofs.YtjgbidklkhohfaaDoor.Mod
