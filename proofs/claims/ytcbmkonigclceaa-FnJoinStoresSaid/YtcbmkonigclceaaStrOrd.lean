/- '<=', '>', '>=' of strings, each told by '<' alone: for the walks of the printed texts. -/
import Derived.Laws.Strings
import Derived.WalkKit
namespace Go.Proofs.Ytcbmkonigclceaa.StrOrd
open Go
set_option linter.unusedSimpArgs false
theorem bytesLess_flip : ∀ a b : List UInt8, (Op.bytesLess a b || a == b) = !Op.bytesLess b a
  | [], [] => by simp [Op.bytesLess]
  | [], y :: b => by simp [Op.bytesLess]
  | x :: a, [] => by simp [Op.bytesLess]
  | x :: a, y :: b => by
    have ih := bytesLess_flip a b
    simp only [Op.bytesLess]
    by_cases h1 : x < y
    · have h2 : ¬ y < x := by simp only [UInt8.lt_iff_toNat_lt] at h1 ⊢; omega
      have h3 : x ≠ y := by rintro rfl; simp only [UInt8.lt_iff_toNat_lt] at h1; omega
      have h4 : y ≠ x := fun h => h3 h.symm
      simp [h1, h2, h3, h4]
    · by_cases h2 : y < x
      · have h3 : x ≠ y := by rintro rfl; exact h1 h2
        have h4 : y ≠ x := fun h => h3 h.symm
        simp [h1, h2, h3, h4]
      · have h3 : x = y := by
          apply UInt8.toNat_inj.1
          simp only [UInt8.lt_iff_toNat_lt] at h1 h2
          omega
        subst h3
        simpa [h1] using ih
@[go_sem] theorem leq_string (t : TypeId) (a b : ByteArray) : binOp .leq t (.string a) (.string b) = pure (.bool (!(Op.bytesLess b.toList a.toList))) := by
  rw [← bytesLess_flip]
  simp [binOp, Op.stringOp]
@[go_sem] theorem gtr_string (t : TypeId) (a b : ByteArray) : binOp .gtr t (.string a) (.string b) = pure (.bool (Op.bytesLess b.toList a.toList)) := by
  have h := bytesLess_flip a.toList b.toList
  have h2 : Op.bytesLess b.toList a.toList = !(Op.bytesLess a.toList b.toList || a.toList == b.toList) := by rw [h, Bool.not_not]
  rw [h2]
  simp [binOp, Op.stringOp]
@[go_sem] theorem geq_string (t : TypeId) (a b : ByteArray) : binOp .geq t (.string a) (.string b) = pure (.bool (!(Op.bytesLess a.toList b.toList))) := by simp [binOp, Op.stringOp]
end Go.Proofs.Ytcbmkonigclceaa.StrOrd
