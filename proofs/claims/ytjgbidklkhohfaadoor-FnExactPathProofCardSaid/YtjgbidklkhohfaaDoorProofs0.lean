/- Walks, step by step. -/
import Derived.Test.YtjgbidklkhohfaaDoorPx0
import Derived.Test.YtjgbidklkhohfaaDoorWalk
namespace Go.Proofs.YtjgbidklkhohfaaDoor.Mod
open Go.RowKit Go.Proofs.YtjgbidklkhohfaaDoor.P Go.Proofs.YtjgbidklkhohfaaDoor.EvK Go.Proofs.YtjgbidklkhohfaaDoorW.PrintWords Go.Proofs.YtjgbidklkhohfaaDoorW.PrintLast
set_option linter.unusedVariables false
set_option linter.unusedSimpArgs false
/-- The print behind names; whether each name is kept; the texts on the way. -/
noncomputable def stepT (l : List S58) : Int → List ByteArray → Int
  | t, [] => t
  | t, n :: ns => stepT l (namedP (folderP l t).1 n).1 ns
noncomputable def okT (l : List S58) : Int → List ByteArray → Bool
  | _, [] => true
  | t, n :: ns => (namedP (folderP l t).1 n).2 && okT l (namedP (folderP l t).1 n).1 ns
theorem getP_of_named {l : List S58} {t : Int} {n : ByteArray} (h : (namedP (folderP l t).1 n).2 = true) : (getP l t).2 = true ∧ (folderP l t).2 = true := by
  have hf : (folderP l t).2 = true := by
    by_cases g : (folderP l t).2 = true
    · exact g
    · rw [folderP_not g] at h
      simp [namedP] at h
  refine ⟨?_, hf⟩
  by_cases g : (getP l t).2 = true
  · exact g
  · unfold folderP at hf
    rw [getP_not g, readFolder_empty] at hf
    simp at hf
theorem walk_ok (l : List S58) : ∀ (ns : List ByteArray) (t : Int), walkL l t ns = if okT l t ns = true ∧ (getP l (stepT l t ns)).2 = true then (stepT l t ns, true) else (-1, false) := by
  intro ns
  induction ns with
  | nil => intro t; simp [walkL, okT, stepT]
  | cons n ns ih =>
    intro t
    rw [walkL, okT, stepT]
    by_cases h : (namedP (folderP l t).1 n).2 = true
    · rw [if_pos h, ih, h, Bool.true_and]
    · rw [if_neg h, if_neg]
      rintro ⟨g, -⟩
      rw [Bool.and_eq_true] at g
      exact h g.1
theorem stepT_snoc (l : List S58) (n : ByteArray) : ∀ (ns : List ByteArray) (t : Int), stepT l t (ns ++ [n]) = (namedP (folderP l (stepT l t ns)).1 n).1 := by
  intro ns
  induction ns with
  | nil => intro t; rfl
  | cons m ns ih => intro t; rw [List.cons_append, stepT, stepT, ih]
theorem okT_snoc (l : List S58) (n : ByteArray) : ∀ (ns : List ByteArray) (t : Int), okT l t (ns ++ [n]) = (okT l t ns && (namedP (folderP l (stepT l t ns)).1 n).2) := by
  intro ns
  induction ns with
  | nil => intro t; simp [okT, stepT]
  | cons m ns ih => intro t; rw [List.cons_append, okT, okT, stepT, ih, Bool.and_assoc]
theorem take_snoc (ns : List ByteArray) (i : Nat) (h : i < ns.length) : ns.take (i + 1) = ns.take i ++ [ns.getD i ByteArray.empty] := by
  rw [getD_at ns _ i h, List.take_succ_eq_append_getElem h]
theorem okT_take (l : List S58) (t : Int) (ns : List ByteArray) (h : okT l t ns = true) : ∀ d i, i + d = ns.length → okT l t (ns.take i) = true := by
  intro d
  induction d with
  | zero => intro i hi; rw [List.take_of_length_le (by omega)]; exact h
  | succ d ih =>
    intro i hi
    have := ih (i + 1) (by omega)
    rw [take_snoc ns i (by omega), okT_snoc, Bool.and_eq_true] at this
    exact this.1
theorem okT_named (l : List S58) (t : Int) (ns : List ByteArray) (h : okT l t ns = true) (i : Nat) (hi : i < ns.length) : (namedP (folderP l (stepT l t (ns.take i))).1 (ns.getD i ByteArray.empty)).2 = true := by
  have := okT_take l t ns h (ns.length - (i + 1)) (i + 1) (by omega)
  rw [take_snoc ns i hi, okT_snoc, Bool.and_eq_true] at this
  exact this.2
theorem walk_yes {l : List S58} {t : Int} {ns : List ByteArray} (h : (walkL l t ns).2 = true) : okT l t ns = true ∧ (getP l (stepT l t ns)).2 = true := by
  rw [walk_ok] at h
  split at h
  · assumption
  · simp at h
theorem walk_take {l : List S58} {t : Int} {ns : List ByteArray} (h : (walkL l t ns).2 = true) (i : Nat) (hi : i ≤ ns.length) : walkL l t (ns.take i) = (stepT l t (ns.take i), true) := by
  obtain ⟨h1, h2⟩ := walk_yes h
  rw [walk_ok, if_pos]
  refine ⟨okT_take l t ns h1 (ns.length - i) i (by omega), ?_⟩
  by_cases e : i = ns.length
  · rw [List.take_of_length_le (by omega)]; exact h2
  · exact (getP_of_named (okT_named l t ns h1 i (by omega))).1
end Go.Proofs.YtjgbidklkhohfaaDoor.Mod
