/- The order of texts. Plain Lean; no program in it. -/
import Derived.Test.YtcbmkonigclceaaEv
namespace Go.Proofs.Ytcbmkonigclceaa.EvK
open Go Go.RowKit Go.Proofs.YtcbmkonigclceaaW.PrintWords
set_option linter.all false
theorem u8_lt {a b : UInt8} : a < b ↔ a.toNat < b.toNat := UInt8.lt_iff_toNat_lt
theorem u8_eq {a b : UInt8} : a = b ↔ a.toNat = b.toNat := ⟨fun h => by rw [h], fun h => UInt8.toNat_inj.1 h⟩
theorem bl_cons (a b : UInt8) (x y : List UInt8) : Op.bytesLess (a :: x) (b :: y) = true ↔ a.toNat < b.toNat ∨ (a.toNat = b.toNat ∧ Op.bytesLess x y = true) := by
 rw [Op.bytesLess]
 simp only [Bool.or_eq_true, decide_eq_true_eq, Bool.and_eq_true, beq_iff_eq, u8_lt, u8_eq]
theorem bl_nil (x : List UInt8) : Op.bytesLess x [] = false := by cases x <;> rfl
theorem bl_irrefl : ∀ x : List UInt8, Op.bytesLess x x = false
 | [] => rfl
 | a :: x => by
  rw [Bool.eq_false_iff]
  intro h
  rcases (bl_cons a a x x).1 h with h | h
  ·omega
  ·rw [bl_irrefl x] at h
   simp at h
theorem bl_trans : ∀ x y z : List UInt8, Op.bytesLess x y = true → Op.bytesLess y z = true → Op.bytesLess x z = true
 | x, y, [], _, h => by rw [bl_nil] at h; exact absurd h (by simp)
 | x, [], c :: z, h, _ => by rw [bl_nil] at h; exact absurd h (by simp)
 | [], b :: y, c :: z, _, _ => rfl
 | a :: x, b :: y, c :: z, h, g => by
  have h := (bl_cons a b x y).1 h
  have g := (bl_cons b c y z).1 g
  refine (bl_cons a c x z).2 ?_
  rcases h with h | ⟨h1, h2⟩ <;> rcases g with g | ⟨g1, g2⟩
  ·exact Or.inl (by omega)
  ·exact Or.inl (by omega)
  ·exact Or.inl (by omega)
  ·exact Or.inr ⟨by omega, bl_trans x y z h2 g2⟩
theorem bl_tri : ∀ x y : List UInt8, Op.bytesLess x y = false → Op.bytesLess y x = false → x = y
 | [], [], _, _ => rfl
 | [], b :: y, h, _ => absurd h (by simp [Op.bytesLess])
 | a :: x, [], _, h => absurd h (by simp [Op.bytesLess])
 | a :: x, b :: y, h, g => by
  rw [Bool.eq_false_iff] at h g
  rw [ne_eq, bl_cons] at h g
  have e : a.toNat = b.toNat := by
   rcases Nat.lt_trichotomy a.toNat b.toNat with q | q | q
   ·exact absurd (Or.inl q) h
   ·exact q
   ·exact absurd (Or.inl q) g
  have h1 : Op.bytesLess x y = false := by rw [Bool.eq_false_iff]; exact fun q => h (Or.inr ⟨e, q⟩)
  have g1 : Op.bytesLess y x = false := by rw [Bool.eq_false_iff]; exact fun q => g (Or.inr ⟨e.symm, q⟩)
  rw [u8_eq.2 e, bl_tri x y h1 g1]
def lessS (a b : ByteArray) : Bool := Op.bytesLess a.toList b.toList
theorem lessS_irrefl (a : ByteArray) : lessS a a = false := bl_irrefl _
theorem lessS_trans {a b c : ByteArray} (h : lessS a b = true) (g : lessS b c = true) : lessS a c = true := bl_trans _ _ _ h g
theorem lessS_tri {a b : ByteArray} (h : lessS a b = false) (g : lessS b a = false) : a = b := toList_iff.1 (bl_tri _ _ h g)
theorem lessS_ne {a b : ByteArray} (h : lessS a b = true) : a ≠ b := by
 rintro rfl
 rw [lessS_irrefl] at h
 simp at h
theorem lessS_asymm {a b : ByteArray} (h : lessS a b = true) : lessS b a = false := by
 rw [Bool.eq_false_iff]
 intro g
 have := lessS_trans h g
 rw [lessS_irrefl] at this
 simp at this
def cmpS (a b : ByteArray) : Int := if lessS a b = true then -1 else if lessS b a = true then 1 else 0
theorem cmpS_neg {a b : ByteArray} : cmpS a b < 0 ↔ lessS a b = true := by
 unfold cmpS
 by_cases h : lessS a b = true
 ·simp [h]
 ·rw [if_neg h]
  by_cases g : lessS b a = true <;> simp [g, h]
theorem cmpS_zero {a b : ByteArray} : cmpS a b = 0 ↔ a = b := by
 unfold cmpS
 constructor
 ·intro h
  by_cases h1 : lessS a b = true
  ·rw [if_pos h1] at h; omega
  ·by_cases h2 : lessS b a = true
   ·rw [if_neg h1, if_pos h2] at h; omega
   ·exact lessS_tri (by simpa using h1) (by simpa using h2)
 ·rintro rfl
  simp [lessS_irrefl]
theorem search_ev {α : Type} (xs : List α) (z : α) (key : α → ByteArray) (t : ByteArray) (g : Nat → Int → Int → Option Int) (hlen : xs.length ≤ 1048576)
  (hm : ∀ i j, i < j → j < xs.length → lessS (key (xs.getD j z)) t = true → lessS (key (xs.getD i z)) t = true)
  (hs : ∀ i j : Nat, i < j → j ≤ xs.length → ∀ r, (if lessS (key (xs.getD ((i + j) / 2) z)) t = true then Ev (fun k => g k (((i + j) / 2 + 1 : Nat) : Int) (j : Int)) r else Ev (fun k => g k (i : Int) (((i + j) / 2 : Nat) : Int)) r) → Ev (fun k => g k (i : Int) (j : Int)) r)
  (he : ∀ i : Nat, Ev (fun k => g k (i : Int) (i : Int)) (i : Int)) :
  ∃ r : Nat, Ev (fun k => g k 0 (xs.length : Int)) (r : Int) ∧ r ≤ xs.length ∧ (∀ j, j < r → lessS (key (xs.getD j z)) t = true) ∧ (∀ j, r ≤ j → j < xs.length → lessS (key (xs.getD j z)) t = false) := by
 have main : ∀ (d i j : Nat), j - i ≤ d → i ≤ j → j ≤ xs.length → (∀ q, q < i → lessS (key (xs.getD q z)) t = true) → (∀ q, j ≤ q → q < xs.length → lessS (key (xs.getD q z)) t = false) →
   ∃ r : Nat, Ev (fun k => g k (i : Int) (j : Int)) (r : Int) ∧ r ≤ xs.length ∧ (∀ j, j < r → lessS (key (xs.getD j z)) t = true) ∧ (∀ j, r ≤ j → j < xs.length → lessS (key (xs.getD j z)) t = false) := by
  intro d
  induction d with
  | zero =>
   intro i j hd hij hj h1 h2
   obtain rfl : i = j := by omega
   exact ⟨i, he i, hj, h1, h2⟩
  | succ d ih =>
   intro i j hd hij hj h1 h2
   by_cases h : i = j
   ·subst h
    exact ⟨i, he i, hj, h1, h2⟩
   ·by_cases hl : lessS (key (xs.getD ((i + j) / 2) z)) t = true
    ·obtain ⟨r, hr, g1, g2, g3⟩ := ih ((i + j) / 2 + 1) j (by omega) (by omega) hj (fun q hq => by
      by_cases hqm : q = (i + j) / 2
      ·rw [hqm]; exact hl
      ·exact hm q ((i + j) / 2) (by omega) (by omega) hl) h2
     exact ⟨r, hs i j (by omega) hj _ (by rw [if_pos hl]; exact hr), g1, g2, g3⟩
    ·obtain ⟨r, hr, g1, g2, g3⟩ := ih i ((i + j) / 2) (by omega) (by omega) (by omega) h1 (fun q hq hq2 => by
      by_cases hqm : q = (i + j) / 2
      ·rw [hqm]; simpa using hl
      ·rw [Bool.eq_false_iff]
       exact fun gq => hl (hm ((i + j) / 2) q (by omega) hq2 gq))
     exact ⟨r, hs i j (by omega) hj _ (by rw [if_neg hl]; exact hr), g1, g2, g3⟩
 exact main xs.length 0 xs.length (by omega) (by omega) (Nat.le_refl _) (fun q hq => by omega) (fun q h1 h2 => by omega)
end Go.Proofs.Ytcbmkonigclceaa.EvK
