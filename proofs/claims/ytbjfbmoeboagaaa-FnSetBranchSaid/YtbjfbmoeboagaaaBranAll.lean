/- Several of my texts as one. -/
import Derived.Test.YtbjfbmoeboagaaaPx0
import Derived.Test.YtbjfbmoeboagaaaPx3
import Derived.Test.YtbjfbmoeboagaaaPx4
import Derived.Test.YtbjfbmoeboagaaaPx5
import Derived.Test.YtbjfbmoeboagaaaPx8
import Derived.Test.YtbjfbmoeboagaaaPx9
import Derived.Test.YtbjfbmoeboagaaaPx10
import Derived.Test.YtbjfbmoeboagaaaPx11
import Derived.Test.YtbjfbmoeboagaaaPx14
import Derived.Test.YtbjfbmoeboagaaaPx15
import Derived.Test.YtbjfbmoeboagaaaPx16
import Derived.Test.YtbjfbmoeboagaaaPx22
import Derived.Test.YtbjfbmoeboagaaaPx26
import Derived.Test.YtbjfbmoeboagaaaPx27
import Derived.Test.YtbjfbmoeboagaaaPx28
import Derived.Test.YtbjfbmoeboagaaaPx29
import Derived.Test.YtbjfbmoeboagaaaPx30
import Derived.Test.YtbjfbmoeboagaaaPx31
import Derived.Test.YtbjfbmoeboagaaaPx32
import Derived.Test.YtbjfbmoeboagaaaPx33
import Derived.Test.YtbjfbmoeboagaaaPx34
import Derived.Test.YtbjfbmoeboagaaaPx35
import Derived.Test.YtbjfbmoeboagaaaPx36
import Derived.Test.YtbjfbmoeboagaaaPx37
import Derived.Test.YtbjfbmoeboagaaaPx38
import Derived.Test.YtbjfbmoeboagaaaPx39
import Derived.Test.YtbjfbmoeboagaaaPx67
import Derived.Test.YtbjfbmoeboagaaaPx68
import Derived.Test.YtbjfbmoeboagaaaPx69
import Derived.Test.YtbjfbmoeboagaaaPx73
import Derived.Test.YtbjfbmoeboagaaaPx74
import Derived.Test.YtbjfbmoeboagaaaPx75
import Derived.Test.YtbjfbmoeboagaaaPx76
import Derived.Test.YtbjfbmoeboagaaaPx81
import Derived.Test.YtbjfbmoeboagaaaPx87
import Derived.Test.YtbjfbmoeboagaaaPx88
import Derived.Test.YtbjfbmoeboagaaaEv
import Derived.Laws.BitsLemmas
/- The order of texts. Plain Lean; no program in it. -/
namespace Go.Proofs.Ytbjfbmoeboagaaa.EvK
open Go Go.RowKit Go.Proofs.YtbjfbmoeboagaaaW.PrintWords
set_option linter.unusedVariables false
set_option linter.unusedSimpArgs false
theorem u8_lt {a b : UInt8} : a < b ↔ a.toNat < b.toNat := UInt8.lt_iff_toNat_lt
theorem u8_eq {a b : UInt8} : a = b ↔ a.toNat = b.toNat := ⟨fun h => by rw [h], fun h => UInt8.toNat_inj.1 h⟩
theorem bl_cons (a b : UInt8) (x y : List UInt8) : Op.bytesLess (a :: x) (b :: y) = true ↔ a.toNat < b.toNat ∨ (a.toNat = b.toNat ∧ Op.bytesLess x y = true) := by
  rw [Op.bytesLess]
  simp only [Bool.or_eq_true, decide_eq_true_eq, Bool.and_eq_true, beq_iff_eq, u8_lt, u8_eq]
theorem bl_nil (x : List UInt8) : Op.bytesLess x [] = false := by cases x <;> rfl
theorem bl_irrefl : ∀ x : List UInt8, Op.bytesLess x x = false
  | [] => rfl
  | a :: x => by
    rw [Bool.eq_false_iff]
    intro h
    rcases (bl_cons a a x x).1 h with h | h
    · omega
    · rw [bl_irrefl x] at h
      simp at h
theorem bl_trans : ∀ x y z : List UInt8, Op.bytesLess x y = true → Op.bytesLess y z = true → Op.bytesLess x z = true
  | x, y, [], _, h => by rw [bl_nil] at h; exact absurd h (by simp)
  | x, [], c :: z, h, _ => by rw [bl_nil] at h; exact absurd h (by simp)
  | [], b :: y, c :: z, _, _ => rfl
  | a :: x, b :: y, c :: z, h, g => by
    have h := (bl_cons a b x y).1 h
    have g := (bl_cons b c y z).1 g
    refine (bl_cons a c x z).2 ?_
    rcases h with h | ⟨h1, h2⟩ <;> rcases g with g | ⟨g1, g2⟩
    · exact Or.inl (by omega)
    · exact Or.inl (by omega)
    · exact Or.inl (by omega)
    · exact Or.inr ⟨by omega, bl_trans x y z h2 g2⟩
theorem bl_tri : ∀ x y : List UInt8, Op.bytesLess x y = false → Op.bytesLess y x = false → x = y
  | [], [], _, _ => rfl
  | [], b :: y, h, _ => absurd h (by simp [Op.bytesLess])
  | a :: x, [], _, h => absurd h (by simp [Op.bytesLess])
  | a :: x, b :: y, h, g => by
    rw [Bool.eq_false_iff] at h g
    rw [ne_eq, bl_cons] at h g
    have e : a.toNat = b.toNat := by
      rcases Nat.lt_trichotomy a.toNat b.toNat with q | q | q
      · exact absurd (Or.inl q) h
      · exact q
      · exact absurd (Or.inl q) g
    have h1 : Op.bytesLess x y = false := by rw [Bool.eq_false_iff]; exact fun q => h (Or.inr ⟨e, q⟩)
    have g1 : Op.bytesLess y x = false := by rw [Bool.eq_false_iff]; exact fun q => g (Or.inr ⟨e.symm, q⟩)
    rw [u8_eq.2 e, bl_tri x y h1 g1]
/-- One text sorts before another. -/
def lessS (a b : ByteArray) : Bool := Op.bytesLess a.toList b.toList
theorem lessS_irrefl (a : ByteArray) : lessS a a = false := bl_irrefl _
theorem lessS_trans {a b c : ByteArray} (h : lessS a b = true) (g : lessS b c = true) : lessS a c = true := bl_trans _ _ _ h g
theorem lessS_tri {a b : ByteArray} (h : lessS a b = false) (g : lessS b a = false) : a = b := toList_iff.1 (bl_tri _ _ h g)
theorem lessS_ne {a b : ByteArray} (h : lessS a b = true) : a ≠ b := by
  rintro rfl
  rw [lessS_irrefl] at h
  simp at h
theorem lessS_asymm {a b : ByteArray} (h : lessS a b = true) : lessS b a = false := by
  rw [Bool.eq_false_iff]
  intro g
  have := lessS_trans h g
  rw [lessS_irrefl] at this
  simp at this
/-- One text held against another, as a number. -/
def cmpS (a b : ByteArray) : Int := if lessS a b = true then -1 else if lessS b a = true then 1 else 0
theorem cmpS_neg {a b : ByteArray} : cmpS a b < 0 ↔ lessS a b = true := by
  unfold cmpS
  by_cases h : lessS a b = true
  · simp [h]
  · rw [if_neg h]
    by_cases g : lessS b a = true <;> simp [g, h]
theorem cmpS_zero {a b : ByteArray} : cmpS a b = 0 ↔ a = b := by
  unfold cmpS
  constructor
  · intro h
    by_cases h1 : lessS a b = true
    · rw [if_pos h1] at h; omega
    · by_cases h2 : lessS b a = true
      · rw [if_neg h1, if_pos h2] at h; omega
      · exact lessS_tri (by simpa using h1) (by simpa using h2)
  · rintro rfl
    simp [lessS_irrefl]
/-- A binary search: the first place whose text is not less. -/
theorem search_ev {α : Type} (xs : List α) (z : α) (key : α → ByteArray) (t : ByteArray) (g : Nat → Int → Int → Option Int) (hlen : xs.length ≤ 1048576)
    (hm : ∀ i j, i < j → j < xs.length → lessS (key (xs.getD j z)) t = true → lessS (key (xs.getD i z)) t = true)
    (hs : ∀ i j : Nat, i < j → j ≤ xs.length → ∀ r, (if lessS (key (xs.getD ((i + j) / 2) z)) t = true then Ev (fun k => g k (((i + j) / 2 + 1 : Nat) : Int) (j : Int)) r else Ev (fun k => g k (i : Int) (((i + j) / 2 : Nat) : Int)) r) → Ev (fun k => g k (i : Int) (j : Int)) r)
    (he : ∀ i : Nat, Ev (fun k => g k (i : Int) (i : Int)) (i : Int)) :
    ∃ r : Nat, Ev (fun k => g k 0 (xs.length : Int)) (r : Int) ∧ r ≤ xs.length ∧ (∀ j, j < r → lessS (key (xs.getD j z)) t = true) ∧ (∀ j, r ≤ j → j < xs.length → lessS (key (xs.getD j z)) t = false) := by
  have main : ∀ (d i j : Nat), j - i ≤ d → i ≤ j → j ≤ xs.length → (∀ q, q < i → lessS (key (xs.getD q z)) t = true) → (∀ q, j ≤ q → q < xs.length → lessS (key (xs.getD q z)) t = false) →
      ∃ r : Nat, Ev (fun k => g k (i : Int) (j : Int)) (r : Int) ∧ r ≤ xs.length ∧ (∀ j, j < r → lessS (key (xs.getD j z)) t = true) ∧ (∀ j, r ≤ j → j < xs.length → lessS (key (xs.getD j z)) t = false) := by
    intro d
    induction d with
    | zero =>
      intro i j hd hij hj h1 h2
      obtain rfl : i = j := by omega
      exact ⟨i, he i, hj, h1, h2⟩
    | succ d ih =>
      intro i j hd hij hj h1 h2
      by_cases h : i = j
      · subst h
        exact ⟨i, he i, hj, h1, h2⟩
      · by_cases hl : lessS (key (xs.getD ((i + j) / 2) z)) t = true
        · obtain ⟨r, hr, g1, g2, g3⟩ := ih ((i + j) / 2 + 1) j (by omega) (by omega) hj (fun q hq => by
            by_cases hqm : q = (i + j) / 2
            · rw [hqm]; exact hl
            · exact hm q ((i + j) / 2) (by omega) (by omega) hl) h2
          exact ⟨r, hs i j (by omega) hj _ (by rw [if_pos hl]; exact hr), g1, g2, g3⟩
        · obtain ⟨r, hr, g1, g2, g3⟩ := ih i ((i + j) / 2) (by omega) (by omega) (by omega) h1 (fun q hq hq2 => by
            by_cases hqm : q = (i + j) / 2
            · rw [hqm]; simpa using hl
            · rw [Bool.eq_false_iff]
              exact fun gq => hl (hm ((i + j) / 2) q (by omega) hq2 gq))
          exact ⟨r, hs i j (by omega) hj _ (by rw [if_neg hl]; exact hr), g1, g2, g3⟩
  exact main xs.length 0 xs.length (by omega) (by omega) (Nat.le_refl _) (fun q hq => by omega) (fun q h1 h2 => by omega)
end Go.Proofs.Ytbjfbmoeboagaaa.EvK

/- What the smallest functions of the program and of the reference come to: words, texts, prints, sides. -/
namespace Go.Proofs.Ytbjfbmoeboagaaa.Mod
open Go.RowKit Go.Proofs.Ytbjfbmoeboagaaa.P Go.Proofs.Ytbjfbmoeboagaaa.EvK Go.Proofs.YtbjfbmoeboagaaaW.PrintWords Go.Proofs.YtbjfbmoeboagaaaW.PrintLast
set_option linter.unusedVariables false
set_option linter.unusedSimpArgs false

def inB (a l h : Int) : Bool := decide (l ≤ a ∧ a ≤ h)
theorem l1In_eq (a l h : Int) : spec_l1In.f a l h = some (inB a l h) := by
  unfold spec_l1In.f inB
  by_cases h1 : a ≥ l <;> by_cases h2 : a ≤ h <;> simp [h1, h2] <;> omega
theorem inB_iff {a l h : Int} : inB a l h = true ↔ l ≤ a ∧ a ≤ h := by simp [inB]
theorem isDigit_eq (c : Int) : impl_isDigit.f c = some (inB c 48 57) := by
  unfold impl_isDigit.f inB
  by_cases h1 : c ≥ 48 <;> by_cases h2 : c ≤ 57 <;> simp [h1, h2] <;> omega
theorem isSmall_eq (c : Int) : impl_isSmall.f c = some (inB c 97 122) := by
  unfold impl_isSmall.f inB
  by_cases h1 : c ≥ 97 <;> by_cases h2 : c ≤ 122 <;> simp [h1, h2] <;> omega

/-- The bytes of a word. -/
def wchar (k : Nat) (c : Int) : Bool := inB c 97 122 || (decide (k ≠ 0) && inB c 48 57)
def wordValid (s : ByteArray) : Bool := allN s.size (fun k => wchar k ((bytesOf s).getD k 0)) && inB s.size 1 8
theorem spec_word_ev (s : ByteArray) (hs : s.size ≤ 9223372036854775807) : Ev (fun k => spec_WordValid.f k s) (wordValid s) := by
  unfold spec_WordValid.f wordValid
  refine ev_allN s.size (fun k i => spec_WordValid.l0 k s i) _ _ ?_ ?_
  · intro i hi r hr
    refine Ev_succ.mpr ?_
    simp only [spec_WordValid.l0, bt_getD, w64s i (by omega), Ev_ite]
    generalize (bytesOf s).getD i 0 = c at hr ⊢
    rw [if_pos (by omega), if_pos (by omega)]
    by_cases hw : (97 ≤ c ∧ c ≤ 122) ∨ (i ≠ 0 ∧ 48 ≤ c ∧ c ≤ 57)
    · have e : wchar i c = true := by simp [wchar, inB]; omega
      rw [if_pos e] at hr
      repeat' split
      all_goals first | exact hr | (exfalso; omega)
    · have e : ¬ wchar i c = true := by simp [wchar, inB]; omega
      rw [if_neg e] at hr
      repeat' split
      all_goals first | exact Ev_some.mpr hr | (exfalso; omega)
  · refine Ev_succ.mpr ?_
    simp [spec_WordValid.l0, l1In_eq, Ev_some]
theorem impl_word_ev (s : ByteArray) (hs : s.size ≤ 9223372036854775807) : Ev (fun k => impl_WordValid.f k s) (wordValid s) := by
  have hj1 : Ev (fun k => impl_WordValid.j0 k s true) false := Ev_succ.mpr (by simp [impl_WordValid.j0, Ev_some])
  have hl : Ev (fun k => impl_WordValid.l0 k s 0) (allN s.size (fun k => inB ((bytesOf s).getD k 0) 97 122 || inB ((bytesOf s).getD k 0) 48 57) && true) := by
    refine ev_allN s.size (fun k i => impl_WordValid.l0 k s i) _ _ ?_ ?_
    · intro i hi r hr
      refine Ev_succ.mpr ?_
      simp only [impl_WordValid.l0, bt_getD, w64s i (by omega), isSmall_eq, isDigit_eq, Option.bind_some, Ev_ite]
      rw [if_pos (by omega), if_pos (by omega)]
      by_cases h1 : inB ((bytesOf s).getD i 0) 97 122 = true <;> by_cases h2 : inB ((bytesOf s).getD i 0) 48 57 = true <;> simp_all [Ev_some]
    · refine Ev_succ.mpr ?_
      simp [impl_WordValid.l0, Ev_some]
  unfold impl_WordValid.f wordValid
  simp only [Ev_ite, isDigit_eq, Option.bind_some]
  by_cases h1 : (s.size : Int) < 1
  · rw [if_pos h1]
    have : inB s.size 1 8 = false := by simp [inB]; omega
    rw [this, Bool.and_false]
    exact hj1
  rw [if_neg h1]
  by_cases h2 : (s.size : Int) > 8
  · rw [if_pos h2]
    have : inB s.size 1 8 = false := by simp [inB]; omega
    rw [this, Bool.and_false]
    exact hj1
  rw [if_neg h2, if_pos (by omega)]
  have e : inB s.size 1 8 = true := by simp [inB]; omega
  have b0 : bt s 0 = (bytesOf s).getD 0 0 := bt_getD s 0
  rw [e, Bool.and_true, b0]
  by_cases h3 : inB ((bytesOf s).getD 0 0) 48 57 = true
  · rw [h3]
    have : allN s.size (fun k => wchar k ((bytesOf s).getD k 0)) = false := by
      rw [Bool.eq_false_iff]
      intro h
      have := allN_iff.1 h 0 (by omega)
      unfold wchar inB at this
      unfold inB at h3
      simp at this h3
      omega
    rw [this]
    exact hj1
  · have h3' : inB ((bytesOf s).getD 0 0) 48 57 = false := by simpa using h3
    rw [h3']
    refine Ev_succ.mpr ?_
    simp only [impl_WordValid.j0, Ev_ite]
    rw [if_neg (by simp)]
    rw [Bool.and_true] at hl
    have : allN s.size (fun k => wchar k ((bytesOf s).getD k 0)) = allN s.size (fun k => inB ((bytesOf s).getD k 0) 97 122 || inB ((bytesOf s).getD k 0) 48 57) := by
      refine allN_congr (fun i hi => ?_)
      by_cases h0 : i = 0
      · subst h0
        simp only [wchar, h3', Bool.or_false, Bool.and_false]
      · simp only [wchar, ne_eq, h0, not_false_eq_true, decide_true, Bool.true_and]
    rw [this]
    exact hl
theorem alive_ev : Ev (fun k => laws_alive.f k) true := by
  unfold laws_alive.f
  rw [Ev_bd (impl_word_ev _ (by decide))]
  rw [Ev_ite, if_pos (by decide)]
  rw [Ev_bd (impl_word_ev _ (by decide)), Ev_some]
  decide
end Go.Proofs.Ytbjfbmoeboagaaa.Mod

/- Slices of Branch: the guard on sizes, the copy, equality, as the statements use them. -/
namespace Go.Proofs.Ytbjfbmoeboagaaa.Mod
open Go.RowKit Go.Proofs.Ytbjfbmoeboagaaa.P Go.Proofs.Ytbjfbmoeboagaaa.EvK Go.Proofs.YtbjfbmoeboagaaaW.PrintWords Go.Proofs.YtbjfbmoeboagaaaW.PrintLast
set_option linter.unusedVariables false
set_option linter.unusedSimpArgs false
theorem rdBranch (xs : List S64) (i : Nat) : rd_T64 xs (i : Int) = xs.getD i z64 := by simp [rd_T64]
theorem rdLBranch (xs : List S69) (i : Nat) : rd_T69 xs (i : Int) = xs.getD i z69 := by simp [rd_T69]
def convBranch (x : S69) : S64 := ⟨x.f0, x.f1⟩
theorem szBranch_ev (l : List S69) (hl : l.length ≤ 9223372036854775807) (hz : ∀ z ∈ l, z.f0.size ≤ 9223372036854775807) (left : Int) (h0 : 0 ≤ left) (h1 : left ≤ 1048576) :
    ∃ t, Ev (fun k => laws_szBranchS.f k l left) t ∧ t ≤ left ∧ (0 ≤ t → (l.length : Int) ≤ left ∧ ∀ z ∈ l, (z.f0.size : Int) ≤ left) := by
  unfold laws_szBranchS.f
  rw [w64 (x := left - (l.length : Int)) (by omega) (by omega)]
  by_cases hn : left - (l.length : Int) < 0
  · exact ⟨-1, by simp only [if_pos hn]; exact Ev_some.mpr rfl, by omega, fun h => by omega⟩
  · simp only [if_neg hn]
    obtain ⟨t, ht, hle, hall⟩ := ev_sz l z69 (fun z => z.f0.size) (fun k left i => laws_szBranchS.l0 k l left i) (by
      intro i lf hi g0 g1 r hr
      have hsz : (l.getD i z69).f0.size ≤ 9223372036854775807 := by
        rw [List.getD_eq_getElem?_getD, List.getElem?_eq_getElem hi]
        exact hz _ (List.getElem_mem hi)
      refine Ev_succ.mpr ?_
      simp only [laws_szBranchS.l0, rdLBranch, w64s i (by omega), laws_szBranch.f, Ev_ite]
      rw [if_pos (by omega), if_pos (by omega), w64 (x := lf - _) (by omega) (by omega)]
      by_cases hm : lf - ((l.getD i z69).f0.size : Int) < 0
      · rw [if_pos hm] at hr ⊢
        simp only [Option.bind_some]
        rw [Ev_pos (by omega)]
        exact Ev_some.mpr hr
      · rw [if_neg hm] at hr ⊢
        simp only [Option.bind_some]
        rw [Ev_neg hm]
        exact hr) (by
      intro lf
      refine Ev_succ.mpr ?_
      simp only [laws_szBranchS.l0, Ev_ite]
      rw [if_neg (by omega)]
      exact Ev_some.mpr rfl) (left - (l.length : Int)) (by omega) (by omega)
    exact ⟨t, ht, by omega, fun h => ⟨by omega, fun z hzm => by have := hall h z hzm; omega⟩⟩
theorem toBranchS_ev (l : List S69) (hl : l.length ≤ 1048576) : Ev (fun k => laws_toBranchS.f k l) (l.map convBranch) := by
  unfold laws_toBranchS.f
  simp only [Ev_ite]
  rw [if_pos (by omega), if_pos (by omega)]
  refine ev_fill l z69 convBranch (fun k acc i => laws_toBranchS.l0 k l acc i) ?_ ?_ _ (by simp)
  · intro i acc hi hla r hr
    refine Ev_succ.mpr ?_
    simp only [laws_toBranchS.l0, rdLBranch, w64s i (by omega), laws_toBranch.f, Ev_ite, Option.bind_some, Int.toNat_natCast]
    rw [if_pos (by omega), if_pos (by omega), if_pos (by omega)]
    exact hr
  · intro acc hla
    refine Ev_succ.mpr ?_
    simp only [laws_toBranchS.l0, Ev_ite]
    rw [if_neg (by omega)]
    exact Ev_some.mpr rfl
theorem eqBranch_eq (x y : S64) : laws_eqBranch.f x.f0 x.f1 y.f0 y.f1 = some (eqb x y) := by
  unfold laws_eqBranch.f
  by_cases h0 : x.f0.toList = y.f0.toList
  case neg => rw [if_neg h0, eqb_ne (fun h => h0 (by rw [h]))]
  by_cases h1 : x.f1 = y.f1
  case neg => rw [if_pos h0, if_neg h1, eqb_ne (fun h => h1 (by rw [h]))]
  rw [if_pos h0, if_pos h1]
  have h0 := toList_iff.1 h0
  have : x = y := by cases x; cases y; simp_all
  rw [this, eqb_self]
theorem eqBranchS_ev (a b : List S64) (ha : a.length ≤ 9223372036854775807) : Ev (fun k => laws_eqBranchS.f k a b) (eqb a b) := by
  unfold laws_eqBranchS.f
  simp only [Ev_ite]
  by_cases h : (a.length : Int) = (b.length : Int)
  · rw [if_pos h]
    refine ev_eqS a b z64 (fun k i => laws_eqBranchS.l0 k a b i) (by omega) ?_ ?_
    · intro i hi r hr
      refine Ev_succ.mpr ?_
      simp only [laws_eqBranchS.l0, rdBranch, w64s i (by omega), eqBranch_eq, Ev_ite, Option.bind_some]
      rw [if_pos (by omega), if_pos (by omega), if_pos (by omega)]
      by_cases he : eqb (a.getD i z64) (b.getD i z64) = true
      · rw [if_pos he] at hr ⊢
        exact hr
      · rw [if_neg he] at hr ⊢
        exact Ev_some.mpr hr
    · refine Ev_succ.mpr ?_
      simp only [laws_eqBranchS.l0, Ev_ite]
      rw [if_neg (by omega)]
      exact Ev_some.mpr rfl
  · rw [if_neg h, eqb_ne (fun e => h (by rw [e]))]
    exact Ev_some.mpr rfl
end Go.Proofs.Ytbjfbmoeboagaaa.Mod

/- What BranchesValid comes to. -/
namespace Go.Proofs.Ytbjfbmoeboagaaa.Mod
open Go.RowKit Go.Proofs.Ytbjfbmoeboagaaa.P Go.Proofs.Ytbjfbmoeboagaaa.EvK Go.Proofs.YtbjfbmoeboagaaaW.PrintWords Go.Proofs.YtbjfbmoeboagaaaW.PrintLast
set_option linter.unusedVariables false
set_option linter.unusedSimpArgs false
def branOk (l : List S64) (many : Int) (i : Nat) : Bool :=
  wordValid (l.getD i z64).f0 && inB (l.getD i z64).f1 0 (many - 1) && (decide (i = 0) || lessS (l.getD (i - 1) z64).f0 (l.getD i z64).f0)
def branchesValid (l : List S64) (many : Int) : Bool := inB many 0 12 && (allN l.length (fun i => branOk l many i) && decide ((l.length : Int) ≤ 6))
def BranSized (l : List S64) : Prop := l.length ≤ 9223372036854775807 ∧ ∀ v ∈ l, v.f0.size ≤ 9223372036854775807
theorem BranSized.at_ {l : List S64} (h : BranSized l) {i : Nat} (hi : i < l.length) : (l.getD i z64).f0.size ≤ 9223372036854775807 := by
  rw [List.getD_eq_getElem?_getD, List.getElem?_eq_getElem hi]
  exact h.2 _ (List.getElem_mem hi)
theorem rdBranch1 (xs : List S64) (i : Nat) (h : 0 < i) : rd_T64 xs ((i : Int) - 1) = xs.getD (i - 1) z64 := by
  rw [show (i : Int) - 1 = ((i - 1 : Nat) : Int) by omega, rdBranch]
theorem spec_bran_ev (l : List S64) (many : Int) (hl : BranSized l) : Ev (fun k => spec_BranchesValid.f k l many) (branchesValid l many) := by
  unfold spec_BranchesValid.f branchesValid
  have hn := hl.1
  simp only [l1In_eq, Option.bind_some, Ev_ite]
  cases hm : inB many 0 12
  · simp [Ev_some]
  rw [if_pos rfl, Bool.true_and]
  have hm' := inB_iff.1 hm
  refine ev_allN l.length (fun k i => spec_BranchesValid.l0 k l many i) _ _ ?_ ?_
  · intro i hi r hr
    have hz := hl.at_ hi
    refine Ev_succ.mpr ?_
    simp only [spec_BranchesValid.l0, rdBranch, w64s i (by omega), l1In_eq, Option.bind_some, Ev_ite]
    rw [w64 (x := (i : Int) - 1) (by omega) (by omega), w64 (x := many - 1) (by omega) (by omega)]
    rw [if_pos (by omega), if_pos (by omega), Ev_bd (spec_word_ev _ hz), Ev_ite]
    unfold branOk at hr
    by_cases h0 : i = 0
    · subst h0
      cases h1 : wordValid (l.getD 0 z64).f0 <;> cases h2 : inB (l.getD 0 z64).f1 0 (many - 1) <;> simp only [h1, h2, Bool.and_true, Bool.true_and, Bool.false_and, Bool.and_false, Bool.true_or, decide_true, Bool.false_eq_true, if_false, if_true, Ev_ite, Ev_some] at hr ⊢ <;> first | exact hr | (rw [if_neg (by omega)]; exact hr)
    · rw [rdBranch1 l i (by omega)]
      have e0 : decide (i = 0) = false := decide_eq_false h0
      rw [e0] at hr
      unfold lessS at hr
      cases h1 : wordValid (l.getD i z64).f0 <;> cases h2 : inB (l.getD i z64).f1 0 (many - 1) <;> cases h3 : Op.bytesLess (l.getD (i - 1) z64).f0.toList (l.getD i z64).f0.toList <;> simp only [h1, h2, h3, Bool.and_true, Bool.true_and, Bool.false_and, Bool.and_false, Bool.true_or, Bool.false_or, decide_true, Bool.false_eq_true, if_false, if_true, Ev_ite, Ev_some] at hr ⊢ <;> first | exact hr | (rw [if_pos (by omega), if_pos (by omega), if_pos (by omega)]; exact hr)
  · refine Ev_succ.mpr ?_
    simp [spec_BranchesValid.l0, Ev_some]
theorem impl_bran_ev (l : List S64) (many : Int) (hl : BranSized l) : Ev (fun k => impl_BranchesValid.f k l many) (branchesValid l many) := by
  unfold impl_BranchesValid.f branchesValid
  have hn := hl.1
  have hj : ∀ b r, Ev (fun k => impl_BranchesValid.j0 k l many b) r ↔ (if b = true then false = r else Ev (fun k => impl_BranchesValid.l0 k l many l l.length 0) r) := by
    intro b r
    rw [Ev_succ]
    simp only [impl_BranchesValid.j0, Ev_ite, Ev_some]
  simp only [Ev_ite, hj]
  by_cases hm : 0 ≤ many ∧ many ≤ 12
  · rw [inB_iff.2 hm, Bool.true_and, if_neg (by omega), if_neg (by omega)]
    by_cases h : (l.length : Int) > 6
    · rw [decide_eq_true h, decide_eq_false (by omega), Bool.and_false, if_pos rfl]
    · rw [decide_eq_false h, decide_eq_true (by omega), if_neg (by simp)]
      refine ev_allN l.length (fun k i => impl_BranchesValid.l0 k l many l l.length i) _ _ ?_ ?_
      · intro i hi r hr
        have hz := hl.at_ hi
        refine Ev_succ.mpr ?_
        simp only [impl_BranchesValid.l0, rdBranch, Ev_ite]
        rw [if_pos (by omega), if_pos (by omega), if_pos (by omega), Ev_bd (impl_word_ev _ hz), Ev_ite]
        have hj2 : ∀ b, Ev (fun k => impl_BranchesValid.j2 k l many i l l.length i b (l.getD i z64).f0 (l.getD i z64).f1) r ↔
            (if b = true then false = r else if (decide (i = 0) || lessS (l.getD (i - 1) z64).f0 (l.getD i z64).f0) = true then Ev (fun k => impl_BranchesValid.l0 k l many l l.length ((i + 1 : Nat) : Int)) r else false = r) := by
          intro b
          rw [Ev_succ]
          simp only [impl_BranchesValid.j2, w64s i (by omega), Ev_ite, Ev_some]
          cases b
          · simp only [Bool.false_eq_true, if_false]
            by_cases h0 : i = 0
            · subst h0
              rw [if_neg (by omega), decide_eq_true rfl, Bool.true_or, if_pos rfl]
            · rw [if_pos (by omega), w64 (x := (i : Int) - 1) (by omega) (by omega), if_pos (by omega), if_pos (by omega), rdBranch1 l i (by omega), decide_eq_false h0, Bool.false_or]
              rfl
          · simp
        simp only [Ev_ite, hj2]
        unfold branOk at hr
        generalize (decide (i = 0) || lessS (l.getD (i - 1) z64).f0 (l.getD i z64).f0) = c at hr ⊢
        generalize (l.getD i z64).f1 = n at hr ⊢
        generalize wordValid (l.getD i z64).f0 = wv at hr ⊢
        by_cases h2 : 0 ≤ n ∧ n ≤ many - 1
        · rw [inB_iff.2 h2] at hr
          rw [if_neg (show ¬ n < 0 by omega), decide_eq_false (show ¬ n ≥ many by omega)]
          cases wv <;> cases c <;> simp_all
        · have e2 : inB n 0 (many - 1) = false := by
            rw [Bool.eq_false_iff]
            exact fun g => h2 (inB_iff.1 g)
          rw [e2] at hr
          simp only [Bool.and_false, Bool.false_and, Bool.false_eq_true, if_false] at hr
          by_cases hn0 : n < 0
          · rw [if_pos hn0]
            cases wv <;> simp [hr]
          · rw [if_neg hn0, decide_eq_true (show n ≥ many by omega)]
            cases wv <;> simp [hr]
      · refine Ev_succ.mpr ?_
        simp [impl_BranchesValid.l0, Ev_some]
  · have e : inB many 0 12 = false := by
      rw [Bool.eq_false_iff]
      exact fun g => hm (inB_iff.1 g)
    rw [e, Bool.false_and]
    by_cases h0 : many < 0
    · rw [if_pos h0, if_pos trivial]
    · rw [if_neg h0, if_pos (by omega), if_pos trivial]
theorem conv_sized_branch (l : List S69) (hl : l.length ≤ 9223372036854775807) (hz : ∀ z ∈ l, z.f0.size ≤ 9223372036854775807) : BranSized (l.map convBranch) :=
  ⟨by simpa using hl, fun v hv => by
    obtain ⟨x, hx, rfl⟩ := List.mem_map.1 hv
    exact hz x hx⟩
end Go.Proofs.Ytbjfbmoeboagaaa.Mod

/- What findBranch and BranchAt come to. -/
namespace Go.Proofs.Ytbjfbmoeboagaaa.Mod
open Go.RowKit Go.Proofs.Ytbjfbmoeboagaaa.P Go.Proofs.Ytbjfbmoeboagaaa.EvK Go.Proofs.YtbjfbmoeboagaaaW.PrintWords Go.Proofs.YtbjfbmoeboagaaaW.PrintLast
set_option linter.unusedVariables false
set_option linter.unusedSimpArgs false
theorem branchesValid_len {l : List S64} {many : Int} (h : branchesValid l many = true) : l.length ≤ 6 := by
  unfold branchesValid at h
  simp only [Bool.and_eq_true, decide_eq_true_eq] at h
  omega
theorem branchesValid_many {l : List S64} {many : Int} (h : branchesValid l many = true) : 0 ≤ many ∧ many ≤ 12 := by
  unfold branchesValid at h
  simp only [Bool.and_eq_true] at h
  exact inB_iff.1 h.1
theorem branchesValid_at {l : List S64} {many : Int} (h : branchesValid l many = true) {i : Nat} (hi : i < l.length) : branOk l many i = true := by
  unfold branchesValid at h
  simp only [Bool.and_eq_true] at h
  exact allN_iff.1 h.2.1 i hi
theorem wordValid_size' {s : ByteArray} (h : wordValid s = true) : s.size ≤ 8 := by
  unfold wordValid at h
  simp only [Bool.and_eq_true] at h
  have := (inB_iff.1 h.2).2
  omega
theorem branchesValid_word {l : List S64} {many : Int} (h : branchesValid l many = true) : ∀ v ∈ l, v.f0.size ≤ 8 := by
  intro v hv
  obtain ⟨i, hi, rfl⟩ := List.getElem_of_mem hv
  have := branchesValid_at h hi
  unfold branOk at this
  simp only [Bool.and_eq_true] at this
  have := this.1.1
  rw [List.getD_eq_getElem?_getD, List.getElem?_eq_getElem hi] at this
  exact wordValid_size' this
theorem branchesValid_sized {l : List S64} {many : Int} (h : branchesValid l many = true) : BranSized l :=
  ⟨by have := branchesValid_len h; omega, fun v hv => by have := branchesValid_word h v hv; omega⟩
theorem branchesValid_less {l : List S64} {many : Int} (h : branchesValid l many = true) : ∀ j i : Nat, i < j → j < l.length → lessS (l.getD i z64).f0 (l.getD j z64).f0 = true := by
  intro j
  induction j with
  | zero => intro i hi; omega
  | succ j ih =>
    intro i hi hj
    have hb := branchesValid_at h hj
    unfold branOk at hb
    simp only [Bool.and_eq_true, Bool.or_eq_true, decide_eq_true_eq, Nat.add_sub_cancel] at hb
    have hb := hb.2.resolve_left (by omega)
    by_cases hij : i = j
    · rw [hij]; exact hb
    · exact lessS_trans (ih i (by omega) (by omega)) hb
theorem cmpStr_eq (a b : ByteArray) : cmp_Compare_string.f a b = some (cmpS a b) := by
  unfold cmp_Compare_string.f cmp_isNaN_string.f cmpS lessS
  simp only [bne_self_eq_false, Option.bind_some, Bool.false_eq_true, if_false]
  repeat' split
  all_goals rfl
theorem findBranch1_eq (a : ByteArray) (n : Int) (t : ByteArray) : impl_findBranch_1.f a n t = some (cmpS a t) := by
  unfold impl_findBranch_1.f
  rw [cmpStr_eq]
  rfl
theorem findBranch_p {l : List S64} {many : Int} (h : branchesValid l many = true) (t : ByteArray) :
    ∃ r : Nat, ∃ b : Bool, Ev (fun k => impl_findBranch.f k l t) ((r : Int), b) ∧ r ≤ l.length ∧ (∀ j, j < r → lessS (l.getD j z64).f0 t = true) ∧ (∀ j, r ≤ j → j < l.length → lessS (l.getD j z64).f0 t = false) ∧ (b = true ↔ r < l.length ∧ (l.getD r z64).f0 = t) := by
  have hlen := branchesValid_len h
  obtain ⟨r, hr, h1, h2, h3⟩ := search_ev l z64 (fun x => x.f0) t (fun k i j => impl_findBranch.l0 k l t i j) (by omega)
    (fun i j hij hj hl => lessS_trans (branchesValid_less h j i hij hj) hl) (by
      intro i j hij hj r hr
      refine Ev_succ.mpr ?_
      simp only [impl_findBranch.l0]
      rw [Ev_pos (by omega), Ev_pos (by omega), Ev_pos (by omega), show ((i : Int) + (j : Int)) / 2 = (((i + j) / 2 : Nat) : Int) by omega, rdBranch, Ev_b0 (findBranch1_eq _ _ _), Ev_ite]
      by_cases hl : lessS (l.getD ((i + j) / 2) z64).f0 t = true
      · rw [if_pos hl] at hr
        rw [if_pos (cmpS_neg.2 hl)]
        exact hr
      · rw [if_neg hl] at hr
        rw [if_neg (fun g => hl (cmpS_neg.1 g))]
        exact hr) (by
      intro i
      refine Ev_succ.mpr ?_
      simp only [impl_findBranch.l0]
      rw [Ev_neg (by omega)]
      exact Ev_some.mpr rfl)
  by_cases hrl : r < l.length
  · refine ⟨r, cmpS (l.getD r z64).f0 t == 0, ?_, h1, h2, h3, ?_⟩
    · unfold impl_findBranch.f
      rw [Ev_bd hr, Ev_pos (by omega), Ev_pos (by omega), rdBranch, Ev_b0 (findBranch1_eq _ _ _)]
      exact Ev_some.mpr rfl
    · rw [beq_iff_eq, cmpS_zero]
      exact ⟨fun g => ⟨hrl, g⟩, fun g => g.2⟩
  · refine ⟨r, false, ?_, h1, h2, h3, ?_⟩
    · unfold impl_findBranch.f
      rw [Ev_bd hr, Ev_pos (by omega), Ev_neg (by omega)]
      exact Ev_some.mpr rfl
    · exact ⟨fun g => by simp at g, fun g => absurd g.1 hrl⟩
open Classical in
/-- The number kept for a text. -/
noncomputable def atF : List S64 → ByteArray → Int
  | [], _ => -1
  | b :: l, t => if b.f0 = t then b.f1 else atF l t
theorem atF_none {l : List S64} {t : ByteArray} (h : ∀ v ∈ l, v.f0 ≠ t) : atF l t = -1 := by
  induction l with
  | nil => rfl
  | cons b l ih =>
    rw [atF, if_neg (h b List.mem_cons_self)]
    exact ih (fun v hv => h v (List.mem_cons_of_mem _ hv))
theorem atF_at : ∀ {l : List S64} {t : ByteArray} (i : Nat), i < l.length → (l.getD i z64).f0 = t → (∀ j, j < i → (l.getD j z64).f0 ≠ t) → atF l t = (l.getD i z64).f1
  | [], _, _, h, _, _ => by simp at h
  | b :: l, t, 0, _, h, _ => by
    rw [atF, if_pos (by simpa using h)]
    simp
  | b :: l, t, i + 1, hi, h, hn => by
    rw [atF, if_neg (by simpa using hn 0 (by omega))]
    have := atF_at (l := l) (t := t) i (by simpa using hi) (by simpa using h) (fun j hj => by simpa using hn (j + 1) (by omega))
    simpa using this
noncomputable def branchAt (l : List S64) (many : Int) (t : ByteArray) : Int := if branchesValid l many = true then atF l t else -1
theorem impl_branchAt_ev (l : List S64) (many : Int) (t : ByteArray) (hl : BranSized l) : Ev (fun k => impl_BranchAt.f k l many t) (branchAt l many t) := by
  unfold impl_BranchAt.f branchAt
  rw [Ev_bd (impl_bran_ev l many hl), Ev_ite]
  by_cases h : branchesValid l many = true
  · rw [if_pos h, if_pos h]
    obtain ⟨r, b, hr, h1, h2, h3, h4⟩ := findBranch_p h t
    rw [Ev_bd hr]
    dsimp only
    rw [Ev_ite]
    by_cases hb : b = true
    · have hb' := h4.1 hb
      rw [if_pos hb, Ev_pos (by omega), Ev_pos (by omega), rdBranch]
      exact Ev_some.mpr (atF_at r hb'.1 hb'.2 (fun j hj => lessS_ne (h2 j hj))).symm
    · rw [if_neg hb]
      refine Ev_some.mpr (atF_none fun v hv e => ?_).symm
      obtain ⟨i, hi, rfl⟩ := List.getElem_of_mem hv
      have eg : l.getD i z64 = l[i] := by rw [List.getD_eq_getElem?_getD, List.getElem?_eq_getElem hi]; rfl
      rw [← eg] at e
      rcases Nat.lt_or_ge i r with q | q
      · exact lessS_ne (h2 i q) e
      · by_cases q2 : i = r
        · subst q2
          exact hb (h4.2 ⟨hi, e⟩)
        · have := branchesValid_less h i r (by omega) hi
          rw [e, h3 r (Nat.le_refl _) (by omega)] at this
          simp at this
  · rw [if_neg h, if_neg h]
    exact Ev_some.mpr rfl
theorem spec_branchAt_ev (l : List S64) (many : Int) (t : ByteArray) (hl : BranSized l) : Ev (fun k => spec_BranchAt.f k l many t) (branchAt l many t) := by
  have hn := hl.1
  unfold spec_BranchAt.f
  have hend : Ev (fun k => spec_BranchAt.l0 k l many t (l.length : Int)) (-1) := by
    refine Ev_succ.mpr ?_
    simp only [spec_BranchAt.l0]
    rw [Ev_neg (by omega)]
    refine Ev_succ.mpr ?_
    simp only [spec_BranchAt.j1]
    rw [Ev_neg (by simp)]
    exact Ev_some.mpr rfl
  unfold branchAt
  by_cases h : branchesValid l many = true
  · rw [if_pos h]
    have key : ∀ d i, i + d = l.length → Ev (fun k => spec_BranchAt.l0 k l many t (i : Int)) (atF (l.drop i) t) := by
      intro d
      induction d with
      | zero =>
        intro i hi
        obtain rfl : i = l.length := by omega
        rw [List.drop_length]
        exact hend
      | succ d ih =>
        intro i hi
        refine Ev_succ.mpr ?_
        simp only [spec_BranchAt.l0]
        rw [Ev_pos (by omega), Ev_bd (spec_bran_ev l many hl), h]
        refine Ev_succ.mpr ?_
        simp only [spec_BranchAt.j1, if_true, rdBranch, w64s i (by omega)]
        rw [Ev_pos (by omega), Ev_pos (by omega), drop_cons l z64 i (by omega), atF, Ev_ite]
        by_cases he : (l.getD i z64).f0 = t
        · rw [if_pos (by rw [he]), if_pos he]
          exact Ev_some.mpr rfl
        · rw [if_neg (fun g => he (toList_iff.1 g)), if_neg he]
          exact ih (i + 1) (by omega)
    exact key l.length 0 (by omega)
  · rw [if_neg h]
    by_cases h0 : l.length = 0
    · rw [h0] at hend
      exact hend
    · refine Ev_succ.mpr ?_
      simp only [spec_BranchAt.l0]
      rw [Ev_pos (by omega), Ev_bd (spec_bran_ev l many hl)]
      refine Ev_succ.mpr ?_
      simp only [spec_BranchAt.j1]
      rw [Ev_neg h]
      exact Ev_some.mpr rfl
end Go.Proofs.Ytbjfbmoeboagaaa.Mod

/- The reader that draws numbers: every number it gives lies in its bounds, and its place moves on by one. -/
namespace Go.Proofs.Ytbjfbmoeboagaaa.Mod
open Go.RowKit Go.Proofs.Ytbjfbmoeboagaaa.P Go.Proofs.Ytbjfbmoeboagaaa.EvK Go.Proofs.YtbjfbmoeboagaaaW.PrintWords Go.Proofs.YtbjfbmoeboagaaaW.PrintLast
set_option linter.unusedVariables false
set_option linter.unusedSimpArgs false
theorem xor64 (a b : Int) (ha : 0 ≤ a) (ha' : a < 1099511627776) (hb : 0 ≤ b) (hb' : b < 1099511627776) : ∃ c : Nat, Go.bits .xor .i64 a b = (c : Int) ∧ c < 1099511627776 := by
  obtain ⟨a, rfl⟩ := Int.eq_ofNat_of_zero_le ha
  obtain ⟨b, rfl⟩ := Int.eq_ofNat_of_zero_le hb
  have h : a ^^^ b < 2 ^ 40 := Nat.xor_lt_two_pow (by omega) (by omega)
  have h1 : (BitVec.ofInt 64 (a : Int)).toNat = a := by
    rw [BitVec.ofInt_natCast, BitVec.toNat_ofNat]; exact Nat.mod_eq_of_lt (by omega)
  have h2 : (BitVec.ofInt 64 (b : Int)).toNat = b := by
    rw [BitVec.ofInt_natCast, BitVec.toNat_ofNat]; exact Nat.mod_eq_of_lt (by omega)
  refine ⟨a ^^^ b, ?_, h⟩
  show IntKind.i64.wrap ((BitVec.ofInt 64 (a : Int) ^^^ BitVec.ofInt 64 (b : Int)).toNat : Int) = _
  rw [BitVec.toNat_xor, h1, h2, IntKind.wrap_i64]
  omega
theorem wf_u8 {z : Int} (h : (Lit.int .u8 z).wf = true) : 0 ≤ z ∧ z ≤ 255 := by
  simpa [Lit.wf, IntKind.min, IntKind.max, IntKind.signed, IntKind.bits] using h
theorem wf_i64 {z : Int} (h : (Lit.int .i64 z).wf = true) : -9223372036854775808 ≤ z ∧ z ≤ 9223372036854775807 := by
  simpa [Lit.wf, IntKind.min, IntKind.max, IntKind.signed, IntKind.bits] using h
/-- A reader's bytes and place. -/
structure RdOk (b : List Int) (p : Int) : Prop where
  bytes : ∀ x ∈ b, 0 ≤ x ∧ x ≤ 255
  len : b.length ≤ 2000
  lo : 0 ≤ p
  hi : p ≤ 1000000
theorem RdOk.next {b : List Int} {p : Int} (h : RdOk b p) (hp : p + 1 ≤ 1000000) : RdOk b (p + 1) := ⟨h.bytes, h.len, by have := h.lo; omega, hp⟩
theorem RdOk.to {b : List Int} {p q : Int} (h : RdOk b p) (h0 : p ≤ q) (hq : q ≤ 1000000) : RdOk b q := ⟨h.bytes, h.len, by have := h.lo; omega, hq⟩
theorem tmod_in (x n : Int) (hx : 0 ≤ x) (hn : 1 ≤ n) : 0 ≤ Int.tmod x n ∧ Int.tmod x n < n := by
  rw [Int.tmod_eq_emod_of_nonneg hx]
  exact ⟨Int.emod_nonneg _ (by omega), Int.emod_lt_of_pos _ (by omega)⟩
theorem rd_in {b : List Int} (hb : ∀ x ∈ b, 0 ≤ x ∧ x ≤ 255) (i : Int) : 0 ≤ rd b i ∧ rd b i ≤ 255 := by
  unfold rd
  rw [List.getD_eq_getElem?_getD]
  cases h : b[i.toNat]? with
  | none => simp
  | some x => exact hb x (List.mem_of_getElem? h)
theorem pick_ev {b : List Int} {p : Int} (h : RdOk b p) (n : Int) (hn : n ≤ 1000000) : ∃ v, Ev (fun k => spec_l20Rd_pick.f k b p n) (v, p + 1) ∧ (1 ≤ n → 0 ≤ v ∧ v < n) ∧ (n < 1 → v = 0) := by
  have hlo := h.lo
  have hhi := h.hi
  have hlen := h.len
  unfold spec_l20Rd_pick.f
  rw [w64 (x := p + 1) (by omega) (by omega)]
  have ht : Ev (fun k => spec_l20Rd_pick.j0 k n true b (p + 1)) (0, p + 1) := by
    refine Ev_succ.mpr ?_
    simp [spec_l20Rd_pick.j0, Ev_some]
  by_cases h1 : n < 1
  · exact ⟨0, by simp only [if_pos h1]; exact ht, fun h => by omega, fun _ => rfl⟩
  simp only [if_neg h1]
  by_cases hz : (b.length : Int) = 0
  · exact ⟨0, by rw [hz]; exact ht, fun _ => by omega, fun _ => rfl⟩
  have hb0 : ((b.length : Int) == 0) = false := by simpa using hz
  rw [hb0]
  have hp : p + 1 - 1 = p := by omega
  by_cases hlt : p < (b.length : Int)
  · have hr := rd_in h.bytes p
    have hm := tmod_in (rd b p) n hr.1 (by omega)
    refine ⟨Int.tmod (rd b p) n, ?_, fun _ => hm, fun h => by omega⟩
    refine Ev_succ.mpr ?_
    simp only [spec_l20Rd_pick.j0, hp, Bool.false_eq_true, if_false, w64 (x := p) (by omega) (by omega), w64 (x := rd b p) (by omega) (by omega), Ev_ite]
    rw [if_pos hlt, if_pos hlo, if_neg (by omega)]
    exact Ev_some.mpr rfl
  · have hL : 1 ≤ (b.length : Int) := by omega
    have m1 := tmod_in p b.length hlo hL
    have m2 := tmod_in (p * 7 + 3) b.length (by omega) hL
    have r1 := rd_in h.bytes (Int.tmod p b.length)
    have r2 := rd_in h.bytes (Int.tmod (p * 7 + 3) b.length)
    have d1 : Int.tdiv p b.length = p / b.length := Int.tdiv_eq_ediv_of_nonneg hlo
    have d2 : 0 ≤ p / (b.length : Int) := Int.ediv_nonneg hlo (by omega)
    have d3 : p / (b.length : Int) ≤ p := Int.ediv_le_self _ hlo
    obtain ⟨x, hx⟩ : ∃ x, x = rd b (Int.tmod p b.length) * 131 + rd b (Int.tmod (p * 7 + 3) b.length) * 1117 + p * 29 + p / (b.length : Int) * 53 := ⟨_, rfl⟩
    have hx0 : 0 ≤ x := by rw [hx]; omega
    have hx1 : x < 1099511627776 := by rw [hx]; omega
    have d4 : Int.tdiv x 64 = x / 64 := Int.tdiv_eq_ediv_of_nonneg hx0
    obtain ⟨c, hc, hcl⟩ := xor64 x (x / 64) hx0 hx1 (by omega) (by omega)
    have hm := tmod_in (c : Int) n (by omega) (by omega)
    refine ⟨Int.tmod c n, ?_, fun _ => hm, fun h => by omega⟩
    refine Ev_succ.mpr ?_
    simp only [spec_l20Rd_pick.j0, hp, Bool.false_eq_true, if_false, w64 (x := p) (by omega) (by omega), w64 (x := p * 7) (by omega) (by omega), w64 (x := p * 7 + 3) (by omega) (by omega), d1, Ev_ite]
    rw [if_neg hlt, if_neg hz, if_pos m1.1, if_pos m1.2, if_pos m2.1, if_pos m2.2, if_neg (by omega)]
    rw [w64 (x := rd b (Int.tmod p b.length)) (by omega) (by omega), w64 (x := rd b (Int.tmod (p * 7 + 3) b.length)) (by omega) (by omega)]
    rw [w64 (x := rd b (Int.tmod p b.length) * 131) (by omega) (by omega), w64 (x := rd b (Int.tmod (p * 7 + 3) b.length) * 1117) (by omega) (by omega), w64 (x := p * 29) (by omega) (by omega), w64 (x := p / (b.length : Int)) (by omega) (by omega), w64 (x := p / (b.length : Int) * 53) (by omega) (by omega)]
    rw [w64 (x := rd b (Int.tmod p b.length) * 131 + rd b (Int.tmod (p * 7 + 3) b.length) * 1117) (by omega) (by omega), w64 (x := rd b (Int.tmod p b.length) * 131 + rd b (Int.tmod (p * 7 + 3) b.length) * 1117 + p * 29) (by omega) (by omega), ← hx]
    rw [w64 (x := x) (by omega) (by omega), d4, w64 (x := x / 64) (by omega) (by omega), hc]
    exact Ev_some.mpr rfl
theorem pick_p {b : List Int} {p : Int} (h : RdOk b p) (n : Int) (hn : n ≤ 1000000) : EvP (fun k => spec_l20Rd_pick.f k b p n) (fun r => r.2 = p + 1 ∧ (1 ≤ n → 0 ≤ r.1 ∧ r.1 < n) ∧ (n < 1 → r.1 = 0)) := by
  obtain ⟨v, hv, h1, h2⟩ := pick_ev h n hn
  exact ⟨_, hv, rfl, h1, h2⟩
theorem open_ev (l : List Int) (hl : ∀ x ∈ l, 0 ≤ x ∧ x ≤ 255) : ∃ b, spec_l20Open.f l = some (b, 0) ∧ RdOk b 0 := by
  unfold spec_l20Open.f
  by_cases h : (l.length : Int) > 2000
  · rw [if_pos h, if_pos (by omega)]
    exact ⟨_, rfl, fun x hx => hl x (List.mem_of_mem_take hx), by rw [List.length_take]; omega, by omega, by omega⟩
  · rw [if_neg h]
    exact ⟨_, rfl, hl, by omega, by omega, by omega⟩
end Go.Proofs.Ytbjfbmoeboagaaa.Mod

/- What the draws of words and prints come to. -/
namespace Go.Proofs.Ytbjfbmoeboagaaa.Mod
open Go.RowKit Go.Proofs.Ytbjfbmoeboagaaa.P Go.Proofs.Ytbjfbmoeboagaaa.EvK Go.Proofs.YtbjfbmoeboagaaaW.PrintWords Go.Proofs.YtbjfbmoeboagaaaW.PrintLast
set_option linter.unusedVariables false
set_option linter.unusedSimpArgs false
theorem odd_p {b : List Int} {p : Int} (h : RdOk b p) (n : Int) (hn : n ≤ 1000000) : EvP (fun k => spec_l20Rd_odd.f k b p n) (fun r => p ≤ r.2 ∧ r.2 ≤ p + 1) := by
  unfold spec_l20Rd_odd.f
  rw [EvP_ite]
  split
  · refine EvP_bp (pick_p h n hn) ?_
    rintro ⟨v, q⟩ ⟨rfl, -, -⟩
    exact EvP_some.mpr ⟨by dsimp only; omega, by dsimp only; omega⟩
  · exact EvP_some.mpr ⟨by dsimp only; omega, by dsimp only; omega⟩
theorem five (v : Int) (h : 0 ≤ v ∧ v < 5) : v = 0 ∨ v = 1 ∨ v = 2 ∨ v = 3 ∨ v = 4 := by omega
theorem word_p {b : List Int} {p : Int} (h : RdOk b p) (hp : p + 2 ≤ 1000000) (n : Int) (hn : n ≤ 1000000) : EvP (fun k => spec_l20Word.f k b p n) (fun r => r.1.size ≤ 9 ∧ p ≤ r.2 ∧ r.2 ≤ p + 2) := by
  unfold spec_l20Word.f
  refine EvP_bp (odd_p h n hn) ?_
  rintro ⟨o, q⟩ ⟨h1, h2⟩
  dsimp only at h1 h2 ⊢
  have hq : RdOk b q := h.to h1 (by omega)
  rw [EvP_ite]
  split
  · simp only [Option.bind_some]
    refine EvP_bp (pick_p hq 5 (by omega)) ?_
    rintro ⟨v, q'⟩ ⟨rfl, r1, -⟩
    have r1 := r1 (by omega)
    dsimp only at r1 ⊢
    rw [EvP_pos r1.1, EvP_pos (by simpa using r1.2)]
    refine EvP_some.mpr ⟨?_, by dsimp only; omega, by dsimp only; omega⟩
    rcases five v r1 with rfl | rfl | rfl | rfl | rfl <;> (dsimp only; decide)
  · simp only [Option.bind_some]
    refine EvP_bp (pick_p hq 5 (by omega)) ?_
    rintro ⟨v, q'⟩ ⟨rfl, r1, -⟩
    have r1 := r1 (by omega)
    dsimp only at r1 ⊢
    rw [EvP_pos r1.1, EvP_pos (by simpa using r1.2)]
    refine EvP_some.mpr ⟨?_, by dsimp only; omega, by dsimp only; omega⟩
    rcases five v r1 with rfl | rfl | rfl | rfl | rfl <;> (dsimp only; decide)
theorem seven (v : Int) (h : 0 ≤ v ∧ v < 7) : 0 ≤ rd [0, 0, 0, 1, 1, 1, 2] v ∧ rd [0, 0, 0, 1, 1, 1, 2] v < 3 := by
  have : v = 0 ∨ v = 1 ∨ v = 2 ∨ v = 3 ∨ v = 4 ∨ v = 5 ∨ v = 6 := by omega
  rcases this with rfl | rfl | rfl | rfl | rfl | rfl | rfl <;> decide
theorem print_p {b : List Int} {p : Int} (h : RdOk b p) (hp : p + 4 ≤ 1000000) (n : Int) (hn : n ≤ 1000000) : EvP (fun k => spec_l20Print.f k b p n) (fun r => p ≤ r.2 ∧ r.2 ≤ p + 4) := by
  unfold spec_l20Print.f
  refine EvP_bp (odd_p h n hn) ?_
  rintro ⟨o, q⟩ ⟨h1, h2⟩
  dsimp only at h1 h2 ⊢
  have hq : RdOk b q := h.to h1 (by omega)
  rw [EvP_ite]
  split
  · simp only [Option.bind_some]
    refine EvP_bp (pick_p hq 2 (by omega)) ?_
    rintro ⟨v, q'⟩ ⟨rfl, r1, -⟩
    have r1 := r1 (by omega)
    dsimp only at r1 ⊢
    rw [EvP_pos r1.1, EvP_pos (by simpa using r1.2)]
    exact EvP_some.mpr ⟨by dsimp only; omega, by dsimp only; omega⟩
  · refine EvP_bp (pick_p hq 100 (by omega)) ?_
    rintro ⟨v1, q1⟩ ⟨rfl, -, -⟩
    refine EvP_bp (pick_p (hq.to (q := q + 1) (by omega) (by omega)) 256 (by omega)) ?_
    rintro ⟨v2, q2⟩ ⟨rfl, -, -⟩
    simp only [Option.bind_some]
    refine EvP_bp (pick_p (hq.to (q := q + 1 + 1) (by omega) (by omega)) 7 (by omega)) ?_
    rintro ⟨v3, q3⟩ ⟨rfl, r3, -⟩
    have r3 := r3 (by omega)
    dsimp only at r3 ⊢
    have r4 := seven v3 r3
    rw [EvP_pos r3.1, EvP_pos (by simpa using r3.2), EvP_pos r4.1, EvP_pos (by simpa using r4.2)]
    exact EvP_some.mpr ⟨by dsimp only; omega, by dsimp only; omega⟩
end Go.Proofs.Ytbjfbmoeboagaaa.Mod

/- What the reference's SetBranch comes to, and the draws of branches. -/
namespace Go.Proofs.Ytbjfbmoeboagaaa.Mod
open Go.RowKit Go.Proofs.Ytbjfbmoeboagaaa.P Go.Proofs.Ytbjfbmoeboagaaa.EvK Go.Proofs.YtbjfbmoeboagaaaW.PrintWords Go.Proofs.YtbjfbmoeboagaaaW.PrintLast
set_option linter.unusedVariables false
set_option linter.unusedSimpArgs false
/-- The first place whose text is not less. -/
def posB (l : List S64) (t : ByteArray) : Nat := (l.takeWhile (fun b => lessS b.f0 t)).length
theorem posB_le (l : List S64) (t : ByteArray) : posB l t ≤ l.length := by
  unfold posB
  exact (List.takeWhile_sublist _).length_le
open Classical in
noncomputable def putB (l : List S64) (b : S64) : List S64 :=
  l.take (posB l b.f0) ++ [b] ++ (if posB l b.f0 < l.length ∧ (l.getD (posB l b.f0) z64).f0 = b.f0 then l.drop (posB l b.f0 + 1) else l.drop (posB l b.f0))
noncomputable def setB (l : List S64) (many : Int) (b : S64) : List S64 × Bool :=
  if branchesValid l many = true then (if branchesValid (putB l b) many = true then (putB l b, true) else (l, false)) else ([], false)
theorem putB_mem {l : List S64} {b v : S64} (h : v ∈ putB l b) : v ∈ l ∨ v = b := by
  unfold putB at h
  rcases List.mem_append.1 h with h | h
  · rcases List.mem_append.1 h with h | h
    · exact Or.inl (List.mem_of_mem_take h)
    · exact Or.inr (List.mem_singleton.1 h)
  · split at h <;> exact Or.inl (List.mem_of_mem_drop h)
theorem putB_len (l : List S64) (b : S64) : (putB l b).length ≤ l.length + 1 := by
  unfold putB
  have := posB_le l b.f0
  split <;> simp <;> omega
theorem putB_sized {l : List S64} {b : S64} (h : BranSized l) (hl : l.length ≤ 1048576) (hb : b.f0.size ≤ 9223372036854775807) : BranSized (putB l b) := by
  refine ⟨by have := putB_len l b; omega, fun v hv => ?_⟩
  rcases putB_mem hv with hv | rfl
  · exact h.2 v hv
  · exact hb
theorem posB_spec (l : List S64) (t : ByteArray) : (∀ j, j < posB l t → lessS (l.getD j z64).f0 t = true) ∧ (posB l t < l.length → lessS (l.getD (posB l t) z64).f0 t = false) := by
  unfold posB
  induction l with
  | nil => exact ⟨fun j hj => by simp at hj, fun h => by simp at h⟩
  | cons a l ih =>
    rw [List.takeWhile_cons]
    by_cases h : lessS a.f0 t = true
    · rw [if_pos h]
      refine ⟨fun j hj => ?_, fun hj => ?_⟩
      · cases j with
        | zero => simpa using h
        | succ j => simpa using ih.1 j (by simpa using hj)
      · simpa using ih.2 (by simpa using hj)
    · rw [if_neg h]
      exact ⟨fun j hj => by simp at hj, fun _ => by simpa using h⟩
theorem posB_uniq {l : List S64} {t : ByteArray} {r : Nat} (h0 : r ≤ l.length) (h1 : ∀ j, j < r → lessS (l.getD j z64).f0 t = true) (h2 : r < l.length → lessS (l.getD r z64).f0 t = false) : r = posB l t := by
  obtain ⟨g1, g2⟩ := posB_spec l t
  have g0 := posB_le l t
  rcases Nat.lt_trichotomy r (posB l t) with q | q | q
  · have := g1 r q
    rw [h2 (by omega)] at this
    simp at this
  · exact q
  · have := h1 _ q
    rw [g2 (by omega)] at this
    simp at this
theorem spec_setB_ev (l : List S64) (many : Int) (s : ByteArray) (n : Int) (hl : BranSized l) (hn : l.length ≤ 1048576) (hs : s.size ≤ 9223372036854775807) : Ev (fun k => spec_SetBranch.f k l many s n) (setB l many ⟨s, n⟩) := by
  unfold spec_SetBranch.f setB
  rw [Ev_bd (spec_bran_ev l many hl), Ev_ite]
  by_cases h : branchesValid l many = true
  · rw [if_pos h, if_pos h]
    obtain ⟨g1, g2⟩ := posB_spec l s
    have g0 := posB_le l s
    have hz := putB_sized (b := ⟨s, n⟩) hl hn hs
    have hj3 : ∀ rest, rest = (if posB l s < l.length ∧ (l.getD (posB l s) z64).f0 = s then l.drop (posB l s + 1) else l.drop (posB l s)) → Ev (fun k => spec_SetBranch.j3 k l many (posB l s : Int) rest s n) (if branchesValid (putB l ⟨s, n⟩) many = true then (putB l ⟨s, n⟩, true) else (l, false)) := by
      intro rest hr
      refine Ev_succ.mpr ?_
      have hrl : rest.length ≤ l.length := by rw [hr]; split <;> simp
      simp only [spec_SetBranch.j3, Option.bind_some, List.nil_append, List.length_nil, Int.toNat_natCast]
      have e : l.take (posB l s) ++ [⟨s, n⟩] ++ rest = putB l ⟨s, n⟩ := by unfold putB; rw [hr]
      rw [Ev_pos (by omega), Ev_pos (by omega), Ev_pos (by simp; omega), Ev_pos (by simp; omega), Ev_pos (by simp; omega), e, Ev_bd (spec_bran_ev _ many hz), Ev_ite]
      by_cases h2 : branchesValid (putB l ⟨s, n⟩) many = true
      · rw [if_pos h2, if_pos h2]
        exact Ev_some.mpr rfl
      · rw [if_neg h2, if_neg h2, Ev_pos (by omega)]
        exact Ev_some.mpr rfl
    have hj2 : ∀ b : Bool, (b = true ↔ posB l s < l.length ∧ (l.getD (posB l s) z64).f0 = s) → Ev (fun k => spec_SetBranch.j2 k l many (posB l s : Int) (l.drop (posB l s)) b s n) (if branchesValid (putB l ⟨s, n⟩) many = true then (putB l ⟨s, n⟩, true) else (l, false)) := by
      intro b hb
      refine Ev_succ.mpr ?_
      simp only [spec_SetBranch.j2]
      rw [Ev_ite]
      by_cases h2 : b = true
      · have hc := hb.1 h2
        rw [if_pos h2, w64s _ (by omega), Ev_pos (by omega), Ev_pos (by omega)]
        exact hj3 _ (by rw [if_pos hc, Int.toNat_natCast])
      · rw [if_neg h2]
        exact hj3 _ (by rw [if_neg (fun g => h2 (hb.2 g))])
    have hj1 : Ev (fun k => spec_SetBranch.j1 k l many (posB l s : Int) s n) (if branchesValid (putB l ⟨s, n⟩) many = true then (putB l ⟨s, n⟩, true) else (l, false)) := by
      refine Ev_succ.mpr ?_
      simp only [spec_SetBranch.j1, Option.bind_some, Int.toNat_natCast, rdBranch]
      rw [Ev_pos (by omega), Ev_pos (by omega), Ev_ite]
      by_cases h2 : posB l s < l.length
      · rw [if_pos (by omega)]
        refine hj2 _ ?_
        rw [beq_iff_eq, toList_iff]
        exact ⟨fun g => ⟨h2, g⟩, fun g => g.2⟩
      · rw [if_neg (by omega)]
        exact hj2 _ ⟨fun g => by simp at g, fun g => absurd g.1 h2⟩
    have key : ∀ d i, i + d = posB l s → Ev (fun k => spec_SetBranch.l0 k l many (i : Int) s n) (if branchesValid (putB l ⟨s, n⟩) many = true then (putB l ⟨s, n⟩, true) else (l, false)) := by
      intro d
      induction d with
      | zero =>
        intro i hi
        obtain rfl : i = posB l s := by omega
        refine Ev_succ.mpr ?_
        simp only [spec_SetBranch.l0, rdBranch]
        rw [Ev_ite]
        by_cases h2 : posB l s < l.length
        · have := g2 h2
          unfold lessS at this
          rw [if_pos (by omega), Ev_pos (by omega), Ev_neg (by rw [this]; simp)]
          exact hj1
        · rw [if_neg (by omega)]
          exact hj1
      | succ d ih =>
        intro i hi
        refine Ev_succ.mpr ?_
        have := g1 i (by omega)
        unfold lessS at this
        simp only [spec_SetBranch.l0, rdBranch, w64s i (by omega)]
        rw [Ev_pos (by omega), Ev_pos (by omega), Ev_pos this]
        exact ih (i + 1) (by omega)
    exact key (posB l s) 0 (by omega)
  · rw [if_neg h, if_neg h]
    exact Ev_some.mpr rfl
theorem branchesValid_nil {many : Int} (h : 0 ≤ many ∧ many ≤ 12) : branchesValid [] many = true := by
  unfold branchesValid
  rw [inB_iff.2 h]
  rfl
theorem setB_valid {l : List S64} {many : Int} (h : branchesValid l many = true) (b : S64) : branchesValid (setB l many b).1 many = true := by
  unfold setB
  rw [if_pos h]
  by_cases h2 : branchesValid (putB l b) many = true
  · rw [if_pos h2]; exact h2
  · rw [if_neg h2]; exact h
theorem setB_nil {l : List S64} {many : Int} (h : ¬ branchesValid l many = true) (b : S64) : setB l many b = ([], false) := by
  unfold setB
  rw [if_neg h]
/-- Branches as the draws give them. -/
structure DrawnB (l : List S64) : Prop where
  len : l.length ≤ 7
  siz : ∀ v ∈ l, v.f0.size ≤ 9
theorem DrawnB.sized {l : List S64} (h : DrawnB l) : BranSized l := ⟨by have := h.len; omega, fun v hv => by have := h.siz v hv; omega⟩
theorem drawnB_nil : DrawnB [] := ⟨by simp, fun v hv => by simp at hv⟩
theorem drawnB_setB {l : List S64} {many : Int} (b : S64) : (setB l many b).1.length ≤ 6 ∧ ∀ v ∈ (setB l many b).1, v.f0.size ≤ 9 := by
  by_cases h : branchesValid l many = true
  · have hv := setB_valid h b
    exact ⟨branchesValid_len hv, fun v g => by have := branchesValid_word hv v g; omega⟩
  · rw [setB_nil h]
    exact ⟨by simp, fun v g => by simp at g⟩
theorem many_p {b : List Int} {p : Int} (h : RdOk b p) (hp : p + 3 ≤ 1000000) : EvP (fun k => spec_l20Many.f k b p) (fun r => -1 ≤ r.1 ∧ r.1 ≤ 13 ∧ r.2 = p + 2) := by
  unfold spec_l20Many.f
  refine EvP_bp (pick_p h 8 (by omega)) ?_
  rintro ⟨v, q⟩ ⟨rfl, r1, -⟩
  have r1 := r1 (by omega)
  dsimp only at r1 ⊢
  simp only [Option.bind_some]
  refine EvP_bp (pick_p (h.to (q := p + 1) (by omega) (by omega)) 9 (by omega)) ?_
  rintro ⟨u, q2⟩ ⟨rfl, r2, -⟩
  have r2 := r2 (by omega)
  dsimp only at r2 ⊢
  rw [w64 (x := 1 + v) (by omega) (by omega)]
  have : u = 0 ∨ u = 1 ∨ u = 2 ∨ u = 3 ∨ u = 4 ∨ u = 5 ∨ u = 6 ∨ u = 7 ∨ u = 8 := by omega
  rcases this with rfl | rfl | rfl | rfl | rfl | rfl | rfl | rfl | rfl <;> exact EvP_some.mpr ⟨by simp [rd] <;> omega, by simp [rd] <;> omega, by dsimp only; omega⟩
theorem branches_p {b : List Int} {p : Int} (h : RdOk b p) (hp : p + 100 ≤ 1000000) (many : Int) (hm : many ≤ 13) (n : Int) (hn : n ≤ 1000000) : EvP (fun k => spec_l20Branches.f k b p many n) (fun r => DrawnB r.1 ∧ p ≤ r.2 ∧ r.2 ≤ p + 100) := by
  have hj1f : ∀ (x8 : Int) (l : List S64) (q : Int), (l.length ≤ 6 ∧ ∀ v ∈ l, v.f0.size ≤ 9) → p ≤ q → q + 3 ≤ p + 100 → EvP (fun k => spec_l20Branches.j1 k many n l x8 false b q) (fun r => DrawnB r.1 ∧ p ≤ r.2 ∧ r.2 ≤ p + 100) := by
    intro x8 l q hl h1 h2
    refine EvP_succ.mpr ?_
    simp only [spec_l20Branches.j1]
    rw [EvP_neg (by simp)]
    refine EvP_bp (odd_p (h.to h1 (by omega)) n hn) ?_
    rintro ⟨o, q1⟩ ⟨g1, g2⟩
    dsimp only at g1 g2 ⊢
    rw [EvP_ite]
    split
    · simp only [Option.bind_some]
      refine EvP_bp (pick_p (h.to (q := q1) (by omega) (by omega)) 4 (by omega)) ?_
      rintro ⟨v, q2⟩ ⟨rfl, r1, -⟩
      have r1 := r1 (by omega)
      dsimp only at r1 ⊢
      rw [EvP_pos r1.1, EvP_pos (by simpa using r1.2), EvP_pos (by omega)]
      refine EvP_some.mpr ⟨⟨by simp; omega, fun x hx => ?_⟩, by dsimp only; omega, by dsimp only; omega⟩
      rcases List.mem_append.1 hx with hx | hx
      · exact hl.2 x hx
      · have : v = 0 ∨ v = 1 ∨ v = 2 ∨ v = 3 := by omega
        rw [List.mem_singleton.1 hx]
        rcases this with rfl | rfl | rfl | rfl <;> exact Nat.le_of_ble_eq_true rfl
    · exact EvP_some.mpr ⟨⟨by dsimp only; omega, hl.2⟩, by dsimp only; omega, by dsimp only; omega⟩
  have loop : ∀ (d : Nat) (l : List S64) (q : Int), (l.length ≤ 6 ∧ ∀ v ∈ l, v.f0.size ≤ 9) → p ≤ q → q + 4 * d + 4 ≤ p + 100 → EvP (fun k => spec_l20Branches.l0 k many n l (d : Int) b q) (fun r => DrawnB r.1 ∧ p ≤ r.2 ∧ r.2 ≤ p + 100) := by
    intro d
    induction d with
    | zero =>
      intro l q hl h1 h2
      refine EvP_succ.mpr ?_
      simp only [spec_l20Branches.l0]
      rw [EvP_neg (by omega)]
      exact hj1f _ l q hl h1 (by omega)
    | succ d ih =>
      intro l q hl h1 h2
      refine EvP_succ.mpr ?_
      simp only [spec_l20Branches.l0]
      rw [EvP_pos (by omega)]
      by_cases hm0 : many > 0
      · rw [decide_eq_true hm0]
        refine EvP_succ.mpr ?_
        simp only [spec_l20Branches.j1, if_true]
        refine EvP_bp (word_p (h.to (q := q) (by omega) (by omega)) (by omega) 0 (by omega)) ?_
        rintro ⟨s, q3⟩ ⟨hs, g3, g4⟩
        dsimp only at hs g3 g4 ⊢
        refine EvP_bp (pick_p (h.to (q := q3) (by omega) (by omega)) many (by omega)) ?_
        rintro ⟨v, q2⟩ ⟨rfl, -, -⟩
        dsimp only
        rw [EvP_bd (spec_setB_ev l many s v ⟨by omega, fun v hv => by have := hl.2 v hv; omega⟩ (by omega) (by omega))]
        rw [w64 (x := ((d + 1 : Nat) : Int) - 1) (by omega) (by omega), show ((d + 1 : Nat) : Int) - 1 = (d : Int) by omega]
        exact ih _ _ (drawnB_setB _) (by omega) (by omega)
      · rw [decide_eq_false hm0]
        exact hj1f _ l q hl h1 (by omega)
  unfold spec_l20Branches.f
  refine EvP_bp (pick_p h 6 (by omega)) ?_
  rintro ⟨v, q⟩ ⟨rfl, r1, -⟩
  have r1 := r1 (by omega)
  dsimp only at r1 ⊢
  obtain ⟨d, rfl⟩ := Int.eq_ofNat_of_zero_le r1.1
  exact loop d [] (p + 1) ⟨by simp, fun v hv => by simp at hv⟩ (by omega) (by omega)
end Go.Proofs.Ytbjfbmoeboagaaa.Mod

/- What SetBranch and DropBranch come to. -/
namespace Go.Proofs.Ytbjfbmoeboagaaa.Mod
open Go.RowKit Go.Proofs.Ytbjfbmoeboagaaa.P Go.Proofs.Ytbjfbmoeboagaaa.EvK Go.Proofs.YtbjfbmoeboagaaaW.PrintWords Go.Proofs.YtbjfbmoeboagaaaW.PrintLast
set_option linter.unusedVariables false
set_option linter.unusedSimpArgs false
theorem getD_at {α : Type} (l : List α) (z : α) (i : Nat) (h : i < l.length) : l.getD i z = l[i] := by
  rw [List.getD_eq_getElem?_getD, List.getElem?_eq_getElem h]
  rfl
theorem branchesValid_iff {l : List S64} {many : Int} : branchesValid l many = true ↔ (0 ≤ many ∧ many ≤ 12) ∧ l.length ≤ 6 ∧ (∀ v ∈ l, wordValid v.f0 = true ∧ inB v.f1 0 (many - 1) = true) ∧ l.Pairwise (fun a b => lessS a.f0 b.f0 = true) := by
  constructor
  · intro h
    refine ⟨branchesValid_many h, branchesValid_len h, fun v hv => ?_, ?_⟩
    · obtain ⟨i, hi, rfl⟩ := List.getElem_of_mem hv
      have := branchesValid_at h hi
      unfold branOk at this
      simp only [Bool.and_eq_true] at this
      rw [getD_at l _ i hi] at this
      exact this.1
    · rw [List.pairwise_iff_getElem]
      intro i j hi hj hij
      have := branchesValid_less h j i hij hj
      rwa [getD_at l _ i hi, getD_at l _ j hj] at this
  · rintro ⟨h1, h2, h3, h4⟩
    unfold branchesValid
    rw [inB_iff.2 h1, Bool.true_and, Bool.and_eq_true, decide_eq_true_iff]
    refine ⟨allN_iff.2 (fun i hi => ?_), by omega⟩
    unfold branOk
    rw [getD_at l _ i hi]
    have hv := h3 _ (List.getElem_mem hi)
    rw [hv.1, hv.2, Bool.true_and, Bool.true_and]
    by_cases h0 : i = 0
    · simp [h0]
    · rw [decide_eq_false h0, Bool.false_or, getD_at l _ (i - 1) (by omega)]
      exact List.pairwise_iff_getElem.1 h4 (i - 1) i (by omega) hi (by omega)
theorem branchesValid_sub {l m : List S64} {many : Int} (h : branchesValid l many = true) (hs : m.Sublist l) : branchesValid m many = true := by
  obtain ⟨h1, h2, h3, h4⟩ := branchesValid_iff.1 h
  exact branchesValid_iff.2 ⟨h1, by have := hs.length_le; omega, fun v hv => h3 v (hs.subset hv), h4.sublist hs⟩
theorem impl_setB_ev (l : List S64) (many : Int) (s : ByteArray) (n : Int) (hl : BranSized l) (hn : l.length ≤ 1048576) (hs : s.size ≤ 9223372036854775807) : Ev (fun k => impl_SetBranch.f k l many s n) (setB l many ⟨s, n⟩) := by
  have hc : slices_Clone_Branch.f l = some l := by
    unfold slices_Clone_Branch.f
    rw [if_pos (by omega)]
  unfold impl_SetBranch.f setB
  rw [Ev_bd (impl_bran_ev l many hl), Ev_ite]
  by_cases h : branchesValid l many = true
  · rw [if_pos h, if_pos h, Ev_b0 hc]
    obtain ⟨r, b, hr, h1, h2, h3, h4⟩ := findBranch_p h s
    rw [Ev_bd hr]
    dsimp only
    have hp : r = posB l s := posB_uniq h1 h2 (fun hlt => h3 r (Nat.le_refl _) hlt)
    have hz := putB_sized (b := ⟨s, n⟩) hl hn hs
    have hj0 : Ev (fun k => impl_SetBranch.j0 k l many (putB l ⟨s, n⟩)) (if branchesValid (putB l ⟨s, n⟩) many = true then (putB l ⟨s, n⟩, true) else (l, false)) := by
      refine Ev_succ.mpr ?_
      simp only [impl_SetBranch.j0]
      rw [Ev_bd (impl_bran_ev _ many hz), Ev_ite]
      by_cases h5 : branchesValid (putB l ⟨s, n⟩) many = true
      · rw [if_pos h5, if_pos h5]
        exact Ev_some.mpr rfl
      · rw [if_neg h5, if_neg h5, Ev_b0 hc]
        exact Ev_some.mpr rfl
    rw [Ev_ite]
    by_cases hb : b = true
    · have hb' := h4.1 hb
      rw [if_pos hb, Ev_pos (by omega), Ev_pos (by omega), Int.toNat_natCast]
      have e : l.set r ⟨s, n⟩ = putB l ⟨s, n⟩ := by
        unfold putB
        rw [← hp, if_pos hb', List.set_eq_take_append_cons_drop, if_pos hb'.1]
        simp
      rw [e]
      exact hj0
    · have hb' : ¬ (r < l.length ∧ (l.getD r z64).f0 = s) := fun g => hb (h4.2 g)
      rw [if_neg hb]
      have e : slices_Insert_Branch.f l (r : Int) [⟨s, n⟩] = some (putB l ⟨s, n⟩) := by
        unfold slices_Insert_Branch.f putB
        rw [← hp, if_neg hb', if_pos ⟨rfl, by omega, by omega, by omega⟩, Int.toNat_natCast]
      rw [Ev_b0 e]
      exact hj0
  · rw [if_neg h, if_neg h]
    exact Ev_some.mpr rfl
open Classical in
noncomputable def dropF (l : List S64) (t : ByteArray) : List S64 := l.filter (fun b => !decide (b.f0 = t))
noncomputable def dropB (l : List S64) (many : Int) (t : ByteArray) : List S64 × Bool := if branchesValid l many = true then (dropF l t, decide ((dropF l t).length < l.length)) else ([], false)
theorem dropF_all {l : List S64} {t : ByteArray} (h : ∀ v ∈ l, v.f0 ≠ t) : dropF l t = l := by
  unfold dropF
  rw [List.filter_eq_self]
  intro v hv
  simpa using h v hv
theorem dropF_append (a b : List S64) (t : ByteArray) : dropF (a ++ b) t = dropF a t ++ dropF b t := by
  unfold dropF
  rw [List.filter_append]
theorem dropF_cons_eq (v : S64) (l : List S64) (t : ByteArray) (h : v.f0 = t) : dropF (v :: l) t = dropF l t := by
  unfold dropF
  rw [List.filter_cons_of_neg (by simp [h])]
theorem dropF_cons_ne (v : S64) (l : List S64) (t : ByteArray) (h : v.f0 ≠ t) : dropF (v :: l) t = v :: dropF l t := by
  unfold dropF
  rw [List.filter_cons_of_pos (by simp [h])]
theorem dropF_sub (l : List S64) (t : ByteArray) : (dropF l t).Sublist l := List.filter_sublist
theorem dropF_not {l : List S64} {t : ByteArray} : ∀ v ∈ dropF l t, v.f0 ≠ t := by
  intro v hv
  unfold dropF at hv
  simpa using (List.mem_filter.1 hv).2
theorem dropF_at {l : List S64} {t : ByteArray} {r : Nat} (hr : r < l.length) (he : (l.getD r z64).f0 = t) (hn : ∀ j, j < l.length → j ≠ r → (l.getD j z64).f0 ≠ t) : dropF l t = l.take r ++ l.drop (r + 1) := by
  have e : l = l.take r ++ l.getD r z64 :: l.drop (r + 1) := by
    rw [← drop_cons l _ r hr, List.take_append_drop]
  have h1 : ∀ v ∈ l.take r, v.f0 ≠ t := by
    intro v hv
    obtain ⟨i, hi, rfl⟩ := List.getElem_of_mem hv
    rw [List.length_take] at hi
    rw [List.getElem_take, ← getD_at l z64 i (by omega)]
    exact hn i (by omega) (by omega)
  have h2 : ∀ v ∈ l.drop (r + 1), v.f0 ≠ t := by
    intro v hv
    obtain ⟨i, hi, rfl⟩ := List.getElem_of_mem hv
    rw [List.length_drop] at hi
    rw [List.getElem_drop, ← getD_at l z64 _ (by omega)]
    exact hn _ (by omega) (by omega)
  rw [congrArg (fun x => dropF x t) e]
  show dropF (l.take r ++ l.getD r z64 :: l.drop (r + 1)) t = _
  rw [dropF_append, dropF_cons_eq _ _ _ he, dropF_all h1, dropF_all h2]
theorem branches_once {l : List S64} {many : Int} (h : branchesValid l many = true) {t : ByteArray} {r : Nat} (hr : r < l.length) (he : (l.getD r z64).f0 = t) : ∀ j, j < l.length → j ≠ r → (l.getD j z64).f0 ≠ t := by
  intro j hj hne e
  rcases Nat.lt_or_ge j r with q | q
  · have := branchesValid_less h r j q hr
    rw [e, he, lessS_irrefl] at this
    simp at this
  · have := branchesValid_less h j r (by omega) hj
    rw [e, he, lessS_irrefl] at this
    simp at this
theorem impl_dropB_ev (l : List S64) (many : Int) (t : ByteArray) (hl : BranSized l) (hn : l.length ≤ 1048576) : Ev (fun k => impl_DropBranch.f k l many t) (dropB l many t) := by
  have hc : slices_Clone_Branch.f l = some l := by
    unfold slices_Clone_Branch.f
    rw [if_pos (by omega)]
  unfold impl_DropBranch.f dropB
  rw [Ev_bd (impl_bran_ev l many hl), Ev_ite]
  by_cases h : branchesValid l many = true
  · rw [if_pos h, if_pos h, Ev_b0 hc]
    obtain ⟨r, b, hr, h1, h2, h3, h4⟩ := findBranch_p h t
    rw [Ev_bd hr]
    dsimp only
    rw [Ev_ite]
    by_cases hb : b = true
    · have hb' := h4.1 hb
      rw [if_pos hb, w64s r (by omega)]
      have e : slices_Delete_Branch.f l (r : Int) ((r + 1 : Nat) : Int) = some (l.take r ++ l.drop (r + 1)) := by
        unfold slices_Delete_Branch.f
        rw [if_pos ⟨by omega, by omega, by omega⟩, Int.toNat_natCast, Int.toNat_natCast]
      rw [Ev_b0 e, dropF_at hb'.1 hb'.2 (branches_once h hb'.1 hb'.2)]
      refine Ev_some.mpr ?_
      rw [decide_eq_true (by rw [List.length_append, List.length_take, List.length_drop]; omega)]
    · rw [if_neg hb]
      have hno : ∀ v ∈ l, v.f0 ≠ t := by
        intro v hv e
        obtain ⟨i, hi, rfl⟩ := List.getElem_of_mem hv
        rw [← getD_at l z64 i hi] at e
        rcases Nat.lt_or_ge i r with q | q
        · exact lessS_ne (h2 i q) e
        · by_cases q2 : i = r
          · subst q2
            exact hb (h4.2 ⟨hi, e⟩)
          · have := branchesValid_less h i r (by omega) hi
            rw [e, h3 r (Nat.le_refl _) (by omega)] at this
            simp at this
      rw [dropF_all hno]
      exact Ev_some.mpr (by simp)
  · rw [if_neg h, if_neg h]
    exact Ev_some.mpr rfl
theorem spec_dropB_ev (l : List S64) (many : Int) (t : ByteArray) (hl : BranSized l) (hn : l.length ≤ 1048576) : Ev (fun k => spec_DropBranch.f k l many t) (dropB l many t) := by
  unfold spec_DropBranch.f dropB
  by_cases h : branchesValid l many = true
  · rw [if_pos h]
    have key : ∀ d i (acc : List S64), i + d = l.length → acc.length ≤ i → Ev (fun k => spec_DropBranch.l0 k l many t acc (i : Int)) (acc ++ dropF (l.drop i) t, decide ((acc ++ dropF (l.drop i) t).length < l.length)) := by
      intro d
      induction d with
      | zero =>
        intro i acc hi ha
        refine Ev_succ.mpr ?_
        simp only [spec_DropBranch.l0]
        rw [Ev_neg (by omega), List.drop_eq_nil_of_le (by omega)]
        refine Ev_succ.mpr ?_
        simp only [spec_DropBranch.j1]
        rw [Ev_neg (by simp), Ev_bd (spec_bran_ev l many hl), Ev_pos h]
        have e : dropF ([] : List S64) t = [] := rfl
        rw [e, List.append_nil]
        refine Ev_some.mpr ?_
        congr 1
        rw [decide_eq_decide]
        omega
      | succ d ih =>
        intro i acc hi ha
        refine Ev_succ.mpr ?_
        simp only [spec_DropBranch.l0]
        rw [Ev_pos (by omega), Ev_bd (spec_bran_ev l many hl), h]
        refine Ev_succ.mpr ?_
        simp only [spec_DropBranch.j1, if_true, rdBranch, w64s i (by omega)]
        rw [Ev_pos (by omega), Ev_pos (by omega), drop_cons l z64 i (by omega), Ev_ite]
        by_cases he : (l.getD i z64).f0 = t
        · rw [if_pos (by rw [he]), dropF_cons_eq _ _ _ he]
          exact ih (i + 1) acc (by omega) (by omega)
        · rw [if_neg (fun g => he (toList_iff.1 g)), dropF_cons_ne _ _ _ he, Ev_pos (by omega)]
          have := ih (i + 1) (acc ++ [l.getD i z64]) (by omega) (by simp; omega)
          rw [List.append_assoc] at this
          exact this
    have := key l.length 0 [] (by omega) (by simp)
    simpa using this
  · rw [if_neg h]
    have hend : Ev (fun k => spec_DropBranch.j1 k l many t [] 0 false) ([], false) := by
      refine Ev_succ.mpr ?_
      simp only [spec_DropBranch.j1]
      rw [Ev_neg (by simp), Ev_bd (spec_bran_ev l many hl), Ev_neg h]
      exact Ev_some.mpr rfl
    refine Ev_succ.mpr ?_
    simp only [spec_DropBranch.l0]
    rw [Ev_ite]
    split
    · rw [Ev_bd (spec_bran_ev l many hl), (by simpa using h : branchesValid l many = false)]
      exact hend
    · exact hend
theorem dropB_len (l : List S64) (many : Int) (t : ByteArray) : (dropB l many t).1.length ≤ 6 := by
  unfold dropB
  split
  · rename_i h
    have h1 := branchesValid_len h
    have h2 := (dropF_sub l t).length_le
    show (dropF l t).length ≤ 6
    omega
  · simp
theorem setB_len (l : List S64) (many : Int) (b : S64) : (setB l many b).1.length ≤ 6 := drawnB_setB b |>.1
theorem putB_drop (l : List S64) (b : S64) : dropF (putB l b) b.f0 = dropF l b.f0 := by
  have g0 := posB_le l b.f0
  unfold putB
  rw [dropF_append, dropF_append, dropF_cons_eq b [] b.f0 rfl]
  have e0 : dropF ([] : List S64) b.f0 = [] := rfl
  rw [e0, List.append_nil]
  have e1 : dropF l b.f0 = dropF (l.take (posB l b.f0)) b.f0 ++ dropF (l.drop (posB l b.f0)) b.f0 := by rw [← dropF_append, List.take_append_drop]
  rw [e1]
  congr 1
  split
  · rename_i hc
    rw [drop_cons l z64 _ hc.1, dropF_cons_eq _ _ _ hc.2]
  · rfl
theorem putB_at (l : List S64) (b : S64) : atF (putB l b) b.f0 = b.f1 := by
  obtain ⟨g1, g2⟩ := posB_spec l b.f0
  have g0 := posB_le l b.f0
  have hl : (l.take (posB l b.f0)).length = posB l b.f0 := by rw [List.length_take]; omega
  have e : (putB l b).getD (posB l b.f0) z64 = b := by
    unfold putB
    rw [List.getD_eq_getElem?_getD, List.append_assoc, List.getElem?_append_right (by omega), hl]
    simp
  rw [atF_at (posB l b.f0) (by unfold putB; rw [List.length_append, List.length_append, hl]; simp; omega) (by rw [e]) (fun j hj => ?_), e]
  have e2 : (putB l b).getD j z64 = l.getD j z64 := by
    unfold putB
    rw [List.getD_eq_getElem?_getD, List.append_assoc, List.getElem?_append_left (by omega), List.getElem?_take, if_pos hj, List.getD_eq_getElem?_getD]
  rw [e2]
  exact lessS_ne (g1 j hj)
theorem sameBranches_ev (a b : List S64) (ha : a.length ≤ 9223372036854775807) : Ev (fun k => laws_sameBranches.f k a b) (eqb a b) := by
  unfold laws_sameBranches.f
  rw [Ev_ite]
  by_cases h : (a.length : Int) = (b.length : Int)
  · rw [if_pos h]
    refine ev_eqS a b z64 (fun k i => laws_sameBranches.l0 k a b i) (by omega) ?_ ?_
    · intro i hi r hr
      refine Ev_succ.mpr ?_
      simp only [laws_sameBranches.l0, rdBranch, w64s i (by omega), Ev_ite]
      rw [if_pos (by omega), if_pos (by omega), if_pos (by omega)]
      generalize a.getD i z64 = x at hr ⊢
      generalize b.getD i z64 = y at hr ⊢
      by_cases he : x = y
      · rw [if_pos (eqb_iff.2 he)] at hr
        subst he
        rw [if_neg (by simp)]
        exact hr
      · rw [if_neg (fun g => he (eqb_iff.1 g))] at hr
        rw [if_pos]
        · exact Ev_some.mpr hr
        · obtain ⟨x0, x1⟩ := x
          obtain ⟨y0, y1⟩ := y
          by_cases g0 : x0.toList = y0.toList <;> by_cases g2 : x1 = y1
          all_goals first | (have := toList_iff.1 g0; exact absurd (by rw [g2, this]) he) | simp [g0, g2]
    · refine Ev_succ.mpr ?_
      simp only [laws_sameBranches.l0, Ev_ite]
      rw [if_neg (by omega)]
      exact Ev_some.mpr rfl
  · rw [if_neg h, eqb_ne (fun e => h (by rw [e]))]
    exact Ev_some.mpr rfl
end Go.Proofs.Ytbjfbmoeboagaaa.Mod
