/- Several of my texts as one. -/
import Derived.Test.YtcbmkonigclceaaPx0
import Derived.Test.YtcbmkonigclceaaPx1
import Derived.Test.YtcbmkonigclceaaPx2
import Derived.Test.YtcbmkonigclceaaPx3
import Derived.Test.YtcbmkonigclceaaPx4
import Derived.Test.YtcbmkonigclceaaPx5
import Derived.Test.YtcbmkonigclceaaPx6
import Derived.Test.YtcbmkonigclceaaPx7
import Derived.Test.YtcbmkonigclceaaPx8
import Derived.Test.YtcbmkonigclceaaPx9
import Derived.Test.YtcbmkonigclceaaPx10
import Derived.Test.YtcbmkonigclceaaPx17
import Derived.Test.YtcbmkonigclceaaEv
import Derived.Laws.BitsLemmas
/- What the smallest functions of the program and of the reference come to: words, texts, prints, sides. -/
namespace Go.Proofs.Ytcbmkonigclceaa.Mod
open Go.RowKit Go.Proofs.Ytcbmkonigclceaa.P Go.Proofs.Ytcbmkonigclceaa.EvK Go.Proofs.YtcbmkonigclceaaW.PrintWords Go.Proofs.YtcbmkonigclceaaW.PrintLast
set_option linter.unusedVariables false
set_option linter.unusedSimpArgs false

def inB (a l h : Int) : Bool := decide (l ≤ a ∧ a ≤ h)
theorem l1In_eq (a l h : Int) : spec_l1In.f a l h = some (inB a l h) := by
  unfold spec_l1In.f inB
  by_cases h1 : a ≥ l <;> by_cases h2 : a ≤ h <;> simp [h1, h2] <;> omega
theorem inB_iff {a l h : Int} : inB a l h = true ↔ l ≤ a ∧ a ≤ h := by simp [inB]
theorem isDigit_eq (c : Int) : impl_isDigit.f c = some (inB c 48 57) := by
  unfold impl_isDigit.f inB
  by_cases h1 : c ≥ 48 <;> by_cases h2 : c ≤ 57 <;> simp [h1, h2] <;> omega
theorem isSmall_eq (c : Int) : impl_isSmall.f c = some (inB c 97 122) := by
  unfold impl_isSmall.f inB
  by_cases h1 : c ≥ 97 <;> by_cases h2 : c ≤ 122 <;> simp [h1, h2] <;> omega

/-- The bytes of a word. -/
def wchar (k : Nat) (c : Int) : Bool := inB c 97 122 || (decide (k ≠ 0) && inB c 48 57)
def wordValid (s : ByteArray) : Bool := allN s.size (fun k => wchar k ((bytesOf s).getD k 0)) && inB s.size 1 8
theorem impl_word_ev (s : ByteArray) (hs : s.size ≤ 9223372036854775807) : Ev (fun k => impl_WordValid.f k s) (wordValid s) := by
  have hj1 : Ev (fun k => impl_WordValid.j0 k s true) false := Ev_succ.mpr (by simp [impl_WordValid.j0, Ev_some])
  have hl : Ev (fun k => impl_WordValid.l0 k s 0) (allN s.size (fun k => inB ((bytesOf s).getD k 0) 97 122 || inB ((bytesOf s).getD k 0) 48 57) && true) := by
    refine ev_allN s.size (fun k i => impl_WordValid.l0 k s i) _ _ ?_ ?_
    · intro i hi r hr
      refine Ev_succ.mpr ?_
      simp only [impl_WordValid.l0, bt_getD, w64s i (by omega), isSmall_eq, isDigit_eq, Option.bind_some, Ev_ite]
      rw [if_pos (by omega), if_pos (by omega)]
      by_cases h1 : inB ((bytesOf s).getD i 0) 97 122 = true <;> by_cases h2 : inB ((bytesOf s).getD i 0) 48 57 = true <;> simp_all [Ev_some]
    · refine Ev_succ.mpr ?_
      simp [impl_WordValid.l0, Ev_some]
  unfold impl_WordValid.f wordValid
  simp only [Ev_ite, isDigit_eq, Option.bind_some]
  by_cases h1 : (s.size : Int) < 1
  · rw [if_pos h1]
    have : inB s.size 1 8 = false := by simp [inB]; omega
    rw [this, Bool.and_false]
    exact hj1
  rw [if_neg h1]
  by_cases h2 : (s.size : Int) > 8
  · rw [if_pos h2]
    have : inB s.size 1 8 = false := by simp [inB]; omega
    rw [this, Bool.and_false]
    exact hj1
  rw [if_neg h2, if_pos (by omega)]
  have e : inB s.size 1 8 = true := by simp [inB]; omega
  have b0 : bt s 0 = (bytesOf s).getD 0 0 := bt_getD s 0
  rw [e, Bool.and_true, b0]
  by_cases h3 : inB ((bytesOf s).getD 0 0) 48 57 = true
  · rw [h3]
    have : allN s.size (fun k => wchar k ((bytesOf s).getD k 0)) = false := by
      rw [Bool.eq_false_iff]
      intro h
      have := allN_iff.1 h 0 (by omega)
      unfold wchar inB at this
      unfold inB at h3
      simp at this h3
      omega
    rw [this]
    exact hj1
  · have h3' : inB ((bytesOf s).getD 0 0) 48 57 = false := by simpa using h3
    rw [h3']
    refine Ev_succ.mpr ?_
    simp only [impl_WordValid.j0, Ev_ite]
    rw [if_neg (by simp)]
    rw [Bool.and_true] at hl
    have : allN s.size (fun k => wchar k ((bytesOf s).getD k 0)) = allN s.size (fun k => inB ((bytesOf s).getD k 0) 97 122 || inB ((bytesOf s).getD k 0) 48 57) := by
      refine allN_congr (fun i hi => ?_)
      by_cases h0 : i = 0
      · subst h0
        simp only [wchar, h3', Bool.or_false, Bool.and_false]
      · simp only [wchar, ne_eq, h0, not_false_eq_true, decide_true, Bool.true_and]
    rw [this]
    exact hl
theorem alive_ev : Ev (fun k => laws_alive.f k) true := by
  unfold laws_alive.f
  rw [Ev_bd (impl_word_ev _ (by decide))]
  rw [Ev_ite, if_pos (by decide)]
  rw [Ev_bd (impl_word_ev _ (by decide)), Ev_some]
  decide
end Go.Proofs.Ytcbmkonigclceaa.Mod

/- What TextValid comes to. -/
namespace Go.Proofs.Ytcbmkonigclceaa.Mod
open Go.RowKit Go.Proofs.Ytcbmkonigclceaa.P Go.Proofs.Ytcbmkonigclceaa.EvK Go.Proofs.YtcbmkonigclceaaW.PrintWords Go.Proofs.YtcbmkonigclceaaW.PrintLast
set_option linter.unusedVariables false
set_option linter.unusedSimpArgs false
def textValid (s : ByteArray) : Bool := allN s.size (fun k => inB ((bytesOf s).getD k 0) 32 126) && decide ((s.size : Int) ≤ 60)
theorem textValid_size {s : ByteArray} (h : textValid s = true) : s.size ≤ 60 := by
  unfold textValid at h
  simp only [Bool.and_eq_true, decide_eq_true_eq] at h
  omega
theorem spec_text_ev (s : ByteArray) (hs : s.size ≤ 9223372036854775807) : Ev (fun k => spec_TextValid.f k s) (textValid s) := by
  unfold spec_TextValid.f textValid
  refine ev_allN s.size (fun k i => spec_TextValid.l0 k s i) _ _ ?_ ?_
  · intro i hi r hr
    refine Ev_succ.mpr ?_
    simp only [spec_TextValid.l0, bt_getD, w64s i (by omega), Ev_ite]
    generalize (bytesOf s).getD i 0 = c at hr ⊢
    rw [if_pos (by omega), if_pos (by omega)]
    by_cases hw : 32 ≤ c ∧ c ≤ 126
    · rw [if_pos (inB_iff.2 hw)] at hr
      rw [if_neg (by omega), if_neg (by omega)]
      exact hr
    · rw [if_neg (fun h => hw (inB_iff.1 h))] at hr
      repeat' split
      all_goals first | exact Ev_some.mpr hr | (exfalso; omega)
  · refine Ev_succ.mpr ?_
    simp [spec_TextValid.l0, Ev_some]
theorem impl_text_ev (s : ByteArray) (hs : s.size ≤ 9223372036854775807) : Ev (fun k => impl_TextValid.f k s) (textValid s) := by
  unfold impl_TextValid.f textValid
  rw [Ev_ite]
  by_cases h : (s.size : Int) > 60
  · rw [if_pos h, decide_eq_false (by omega), Bool.and_false]
    exact Ev_some.mpr rfl
  · rw [if_neg h, decide_eq_true (by omega)]
    refine ev_allN s.size (fun k i => impl_TextValid.l0 k s i) _ _ ?_ ?_
    · intro i hi r hr
      refine Ev_succ.mpr ?_
      simp only [impl_TextValid.l0, bt_getD, w64s i (by omega), Ev_ite]
      generalize (bytesOf s).getD i 0 = c at hr ⊢
      rw [if_pos (by omega), if_pos (by omega)]
      by_cases hw : 32 ≤ c ∧ c ≤ 126
      · rw [if_pos (inB_iff.2 hw)] at hr
        rw [if_neg (by omega), if_neg (by omega)]
        exact hr
      · rw [if_neg (fun h => hw (inB_iff.1 h))] at hr
        repeat' split
        all_goals first | exact Ev_some.mpr hr | (exfalso; omega)
    · refine Ev_succ.mpr ?_
      simp [impl_TextValid.l0, Ev_some]
end Go.Proofs.Ytcbmkonigclceaa.Mod

/- Slices of Piece: the guard on sizes, the copy, equality, as the statements use them. -/
namespace Go.Proofs.Ytcbmkonigclceaa.Mod
open Go.RowKit Go.Proofs.Ytcbmkonigclceaa.P Go.Proofs.Ytcbmkonigclceaa.EvK Go.Proofs.YtcbmkonigclceaaW.PrintWords Go.Proofs.YtcbmkonigclceaaW.PrintLast
set_option linter.unusedVariables false
set_option linter.unusedSimpArgs false
theorem rdPiece (xs : List S65) (i : Nat) : rd_T65 xs (i : Int) = xs.getD i z65 := by simp [rd_T65]
end Go.Proofs.Ytcbmkonigclceaa.Mod

/- Slices of LogEntry: the guard on sizes, the copy, equality, as the statements use them. -/
namespace Go.Proofs.Ytcbmkonigclceaa.Mod
open Go.RowKit Go.Proofs.Ytcbmkonigclceaa.P Go.Proofs.Ytcbmkonigclceaa.EvK Go.Proofs.YtcbmkonigclceaaW.PrintWords Go.Proofs.YtcbmkonigclceaaW.PrintLast
set_option linter.unusedVariables false
set_option linter.unusedSimpArgs false
theorem rdLogEntry (xs : List S39) (i : Nat) : rd_T39 xs (i : Int) = xs.getD i z39 := by simp [rd_T39]
theorem rdLLogEntry (xs : List S70) (i : Nat) : rd_T70 xs (i : Int) = xs.getD i z70 := by simp [rd_T70]
def convLogEntry (x : S70) : S39 := ⟨x.f0, x.f1⟩
end Go.Proofs.Ytcbmkonigclceaa.Mod

/- What LogValid comes to. -/
namespace Go.Proofs.Ytcbmkonigclceaa.Mod
open Go.RowKit Go.Proofs.Ytcbmkonigclceaa.P Go.Proofs.Ytcbmkonigclceaa.EvK Go.Proofs.YtcbmkonigclceaaW.PrintWords Go.Proofs.YtcbmkonigclceaaW.PrintLast
set_option linter.unusedVariables false
set_option linter.unusedSimpArgs false
noncomputable def logOk (v : S39) : Bool := inB v.f0 0 2 && textValid v.f1 && (decide (v.f0 = 1) || eqb v.f1 (⟨#[]⟩ : ByteArray))
noncomputable def logValid (l : List S39) : Bool := allN l.length (fun i => logOk (l.getD i z39)) && decide ((l.length : Int) ≤ 40)
def LogSized (l : List S39) : Prop := l.length ≤ 9223372036854775807 ∧ ∀ v ∈ l, v.f1.size ≤ 9223372036854775807
theorem LogSized.at_ {l : List S39} (h : LogSized l) {i : Nat} (hi : i < l.length) : (l.getD i z39).f1.size ≤ 9223372036854775807 := by
  rw [List.getD_eq_getElem?_getD, List.getElem?_eq_getElem hi]
  exact h.2 _ (List.getElem_mem hi)
theorem spec_log_ev (l : List S39) (hl : LogSized l) : Ev (fun k => spec_LogValid.f k l) (logValid l) := by
  unfold spec_LogValid.f logValid
  have hn := hl.1
  refine ev_allN l.length (fun k i => spec_LogValid.l0 k l i) _ _ ?_ ?_
  · intro i hi r hr
    have hz := hl.at_ hi
    refine Ev_succ.mpr ?_
    simp only [spec_LogValid.l0, rdLogEntry, w64s i (by omega), l1In_eq, Option.bind_some, Ev_ite]
    generalize l.getD i z39 = v at hr hz ⊢
    rw [if_pos (by omega), if_pos (by omega), Ev_bd (spec_text_ev v.f1 hz), Ev_ite]
    simp only [toList_nil, Ev_ite]
    unfold logOk at hr
    by_cases h1 : v.f0 = 1
    · cases h2 : inB v.f0 0 2 <;> cases h3 : textValid v.f1 <;> simp_all [Ev_some]
    · by_cases h4 : v.f1 = (⟨#[]⟩ : ByteArray)
      · cases h2 : inB v.f0 0 2 <;> cases h3 : textValid v.f1 <;> simp_all [Ev_some, eqb_self]
      · have := eqb_ne h4
        cases h2 : inB v.f0 0 2 <;> cases h3 : textValid v.f1 <;> simp_all [Ev_some]
  · refine Ev_succ.mpr ?_
    simp [spec_LogValid.l0, Ev_some]
theorem impl_log_ev (l : List S39) (hl : LogSized l) : Ev (fun k => impl_LogValid.f k l) (logValid l) := by
  unfold impl_LogValid.f logValid
  have hn := hl.1
  rw [Ev_ite]
  by_cases h : (l.length : Int) > 40
  · rw [if_pos h, decide_eq_false (by omega), Bool.and_false]
    exact Ev_some.mpr rfl
  · rw [if_neg h, decide_eq_true (by omega)]
    refine ev_allN l.length (fun k i => impl_LogValid.l0 k l l.length i) _ _ ?_ ?_
    · intro i hi r hr
      have hz := hl.at_ hi
      refine Ev_succ.mpr ?_
      simp only [impl_LogValid.l0, rdLogEntry, Ev_ite]
      generalize l.getD i z39 = v at hr hz ⊢
      rw [if_pos (by omega), if_pos (by omega), if_pos (by omega), Ev_bd (impl_text_ev v.f1 hz)]
      have hj : ∀ b, Ev (fun k => impl_LogValid.j1 k l l.length i b v.f0 v.f1) r ↔ (if b = true then false = r else if v.f0 = 1 ∨ v.f1 = (⟨#[]⟩ : ByteArray) then Ev (fun k => impl_LogValid.l0 k l l.length ((i + 1 : Nat) : Int)) r else false = r) := by
        intro b
        rw [Ev_succ]
        simp only [impl_LogValid.j1, w64s i (by omega), toList_nil, Ev_ite, Ev_some]
        by_cases h1 : v.f0 = 1 <;> by_cases h2 : v.f1 = (⟨#[]⟩ : ByteArray) <;> simp [h1, h2]
      simp only [hj]
      unfold logOk at hr
      by_cases h2 : 0 ≤ v.f0 ∧ v.f0 ≤ 2
      · rw [inB_iff.2 h2] at hr
        simp only [if_neg (show ¬ v.f0 < 0 by omega), if_neg (show ¬ v.f0 > 2 by omega)]
        by_cases h1 : v.f0 = 1
        · cases h3 : textValid v.f1 <;> simp_all
        · by_cases h4 : v.f1 = (⟨#[]⟩ : ByteArray)
          · cases h3 : textValid v.f1 <;> simp_all [eqb_self]
          · have := eqb_ne h4
            cases h3 : textValid v.f1 <;> simp_all
      · have e2 : inB v.f0 0 2 = false := by
          rw [Bool.eq_false_iff]
          exact fun g => h2 (inB_iff.1 g)
        rw [e2] at hr
        simp only [Bool.false_and, Bool.false_eq_true, if_false] at hr
        by_cases h0 : v.f0 < 0
        · rw [if_pos h0, if_pos trivial]
          exact hr
        · rw [if_neg h0, if_pos (by omega), if_pos trivial]
          exact hr
    · refine Ev_succ.mpr ?_
      simp [impl_LogValid.l0, Ev_some]
theorem conv_sized_log (l : List S70) (hl : l.length ≤ 9223372036854775807) (hz : ∀ z ∈ l, z.f1.size ≤ 9223372036854775807) : LogSized (l.map convLogEntry) :=
  ⟨by simpa using hl, fun v hv => by
    obtain ⟨x, hx, rfl⟩ := List.mem_map.1 hv
    exact hz x hx⟩
end Go.Proofs.Ytcbmkonigclceaa.Mod

/- The reader that draws numbers: every number it gives lies in its bounds, and its place moves on by one. -/
namespace Go.Proofs.Ytcbmkonigclceaa.Mod
open Go.RowKit Go.Proofs.Ytcbmkonigclceaa.P Go.Proofs.Ytcbmkonigclceaa.EvK Go.Proofs.YtcbmkonigclceaaW.PrintWords Go.Proofs.YtcbmkonigclceaaW.PrintLast
set_option linter.unusedVariables false
set_option linter.unusedSimpArgs false
theorem xor64 (a b : Int) (ha : 0 ≤ a) (ha' : a < 1099511627776) (hb : 0 ≤ b) (hb' : b < 1099511627776) : ∃ c : Nat, Go.bits .xor .i64 a b = (c : Int) ∧ c < 1099511627776 := by
  obtain ⟨a, rfl⟩ := Int.eq_ofNat_of_zero_le ha
  obtain ⟨b, rfl⟩ := Int.eq_ofNat_of_zero_le hb
  have h : a ^^^ b < 2 ^ 40 := Nat.xor_lt_two_pow (by omega) (by omega)
  have h1 : (BitVec.ofInt 64 (a : Int)).toNat = a := by
    rw [BitVec.ofInt_natCast, BitVec.toNat_ofNat]; exact Nat.mod_eq_of_lt (by omega)
  have h2 : (BitVec.ofInt 64 (b : Int)).toNat = b := by
    rw [BitVec.ofInt_natCast, BitVec.toNat_ofNat]; exact Nat.mod_eq_of_lt (by omega)
  refine ⟨a ^^^ b, ?_, h⟩
  show IntKind.i64.wrap ((BitVec.ofInt 64 (a : Int) ^^^ BitVec.ofInt 64 (b : Int)).toNat : Int) = _
  rw [BitVec.toNat_xor, h1, h2, IntKind.wrap_i64]
  omega
theorem wf_u8 {z : Int} (h : (Lit.int .u8 z).wf = true) : 0 ≤ z ∧ z ≤ 255 := by
  simpa [Lit.wf, IntKind.min, IntKind.max, IntKind.signed, IntKind.bits] using h
theorem wf_i64 {z : Int} (h : (Lit.int .i64 z).wf = true) : -9223372036854775808 ≤ z ∧ z ≤ 9223372036854775807 := by
  simpa [Lit.wf, IntKind.min, IntKind.max, IntKind.signed, IntKind.bits] using h
/-- A reader's bytes and place. -/
structure RdOk (b : List Int) (p : Int) : Prop where
  bytes : ∀ x ∈ b, 0 ≤ x ∧ x ≤ 255
  len : b.length ≤ 2000
  lo : 0 ≤ p
  hi : p ≤ 1000000
theorem RdOk.next {b : List Int} {p : Int} (h : RdOk b p) (hp : p + 1 ≤ 1000000) : RdOk b (p + 1) := ⟨h.bytes, h.len, by have := h.lo; omega, hp⟩
theorem RdOk.to {b : List Int} {p q : Int} (h : RdOk b p) (h0 : p ≤ q) (hq : q ≤ 1000000) : RdOk b q := ⟨h.bytes, h.len, by have := h.lo; omega, hq⟩
theorem tmod_in (x n : Int) (hx : 0 ≤ x) (hn : 1 ≤ n) : 0 ≤ Int.tmod x n ∧ Int.tmod x n < n := by
  rw [Int.tmod_eq_emod_of_nonneg hx]
  exact ⟨Int.emod_nonneg _ (by omega), Int.emod_lt_of_pos _ (by omega)⟩
theorem rd_in {b : List Int} (hb : ∀ x ∈ b, 0 ≤ x ∧ x ≤ 255) (i : Int) : 0 ≤ rd b i ∧ rd b i ≤ 255 := by
  unfold rd
  rw [List.getD_eq_getElem?_getD]
  cases h : b[i.toNat]? with
  | none => simp
  | some x => exact hb x (List.mem_of_getElem? h)
theorem pick_ev {b : List Int} {p : Int} (h : RdOk b p) (n : Int) (hn : n ≤ 1000000) : ∃ v, Ev (fun k => spec_l20Rd_pick.f k b p n) (v, p + 1) ∧ (1 ≤ n → 0 ≤ v ∧ v < n) ∧ (n < 1 → v = 0) := by
  have hlo := h.lo
  have hhi := h.hi
  have hlen := h.len
  unfold spec_l20Rd_pick.f
  rw [w64 (x := p + 1) (by omega) (by omega)]
  have ht : Ev (fun k => spec_l20Rd_pick.j0 k n true b (p + 1)) (0, p + 1) := by
    refine Ev_succ.mpr ?_
    simp [spec_l20Rd_pick.j0, Ev_some]
  by_cases h1 : n < 1
  · exact ⟨0, by simp only [if_pos h1]; exact ht, fun h => by omega, fun _ => rfl⟩
  simp only [if_neg h1]
  by_cases hz : (b.length : Int) = 0
  · exact ⟨0, by rw [hz]; exact ht, fun _ => by omega, fun _ => rfl⟩
  have hb0 : ((b.length : Int) == 0) = false := by simpa using hz
  rw [hb0]
  have hp : p + 1 - 1 = p := by omega
  by_cases hlt : p < (b.length : Int)
  · have hr := rd_in h.bytes p
    have hm := tmod_in (rd b p) n hr.1 (by omega)
    refine ⟨Int.tmod (rd b p) n, ?_, fun _ => hm, fun h => by omega⟩
    refine Ev_succ.mpr ?_
    simp only [spec_l20Rd_pick.j0, hp, Bool.false_eq_true, if_false, w64 (x := p) (by omega) (by omega), w64 (x := rd b p) (by omega) (by omega), Ev_ite]
    rw [if_pos hlt, if_pos hlo, if_neg (by omega)]
    exact Ev_some.mpr rfl
  · have hL : 1 ≤ (b.length : Int) := by omega
    have m1 := tmod_in p b.length hlo hL
    have m2 := tmod_in (p * 7 + 3) b.length (by omega) hL
    have r1 := rd_in h.bytes (Int.tmod p b.length)
    have r2 := rd_in h.bytes (Int.tmod (p * 7 + 3) b.length)
    have d1 : Int.tdiv p b.length = p / b.length := Int.tdiv_eq_ediv_of_nonneg hlo
    have d2 : 0 ≤ p / (b.length : Int) := Int.ediv_nonneg hlo (by omega)
    have d3 : p / (b.length : Int) ≤ p := Int.ediv_le_self _ hlo
    obtain ⟨x, hx⟩ : ∃ x, x = rd b (Int.tmod p b.length) * 131 + rd b (Int.tmod (p * 7 + 3) b.length) * 1117 + p * 29 + p / (b.length : Int) * 53 := ⟨_, rfl⟩
    have hx0 : 0 ≤ x := by rw [hx]; omega
    have hx1 : x < 1099511627776 := by rw [hx]; omega
    have d4 : Int.tdiv x 64 = x / 64 := Int.tdiv_eq_ediv_of_nonneg hx0
    obtain ⟨c, hc, hcl⟩ := xor64 x (x / 64) hx0 hx1 (by omega) (by omega)
    have hm := tmod_in (c : Int) n (by omega) (by omega)
    refine ⟨Int.tmod c n, ?_, fun _ => hm, fun h => by omega⟩
    refine Ev_succ.mpr ?_
    simp only [spec_l20Rd_pick.j0, hp, Bool.false_eq_true, if_false, w64 (x := p) (by omega) (by omega), w64 (x := p * 7) (by omega) (by omega), w64 (x := p * 7 + 3) (by omega) (by omega), d1, Ev_ite]
    rw [if_neg hlt, if_neg hz, if_pos m1.1, if_pos m1.2, if_pos m2.1, if_pos m2.2, if_neg (by omega)]
    rw [w64 (x := rd b (Int.tmod p b.length)) (by omega) (by omega), w64 (x := rd b (Int.tmod (p * 7 + 3) b.length)) (by omega) (by omega)]
    rw [w64 (x := rd b (Int.tmod p b.length) * 131) (by omega) (by omega), w64 (x := rd b (Int.tmod (p * 7 + 3) b.length) * 1117) (by omega) (by omega), w64 (x := p * 29) (by omega) (by omega), w64 (x := p / (b.length : Int)) (by omega) (by omega), w64 (x := p / (b.length : Int) * 53) (by omega) (by omega)]
    rw [w64 (x := rd b (Int.tmod p b.length) * 131 + rd b (Int.tmod (p * 7 + 3) b.length) * 1117) (by omega) (by omega), w64 (x := rd b (Int.tmod p b.length) * 131 + rd b (Int.tmod (p * 7 + 3) b.length) * 1117 + p * 29) (by omega) (by omega), ← hx]
    rw [w64 (x := x) (by omega) (by omega), d4, w64 (x := x / 64) (by omega) (by omega), hc]
    exact Ev_some.mpr rfl
theorem pick_p {b : List Int} {p : Int} (h : RdOk b p) (n : Int) (hn : n ≤ 1000000) : EvP (fun k => spec_l20Rd_pick.f k b p n) (fun r => r.2 = p + 1 ∧ (1 ≤ n → 0 ≤ r.1 ∧ r.1 < n) ∧ (n < 1 → r.1 = 0)) := by
  obtain ⟨v, hv, h1, h2⟩ := pick_ev h n hn
  exact ⟨_, hv, rfl, h1, h2⟩
theorem open_ev (l : List Int) (hl : ∀ x ∈ l, 0 ≤ x ∧ x ≤ 255) : ∃ b, spec_l20Open.f l = some (b, 0) ∧ RdOk b 0 := by
  unfold spec_l20Open.f
  by_cases h : (l.length : Int) > 2000
  · rw [if_pos h, if_pos (by omega)]
    exact ⟨_, rfl, fun x hx => hl x (List.mem_of_mem_take hx), by rw [List.length_take]; omega, by omega, by omega⟩
  · rw [if_neg h]
    exact ⟨_, rfl, hl, by omega, by omega, by omega⟩
end Go.Proofs.Ytcbmkonigclceaa.Mod

/- What the draws of words and prints come to. -/
namespace Go.Proofs.Ytcbmkonigclceaa.Mod
open Go.RowKit Go.Proofs.Ytcbmkonigclceaa.P Go.Proofs.Ytcbmkonigclceaa.EvK Go.Proofs.YtcbmkonigclceaaW.PrintWords Go.Proofs.YtcbmkonigclceaaW.PrintLast
set_option linter.unusedVariables false
set_option linter.unusedSimpArgs false
theorem odd_p {b : List Int} {p : Int} (h : RdOk b p) (n : Int) (hn : n ≤ 1000000) : EvP (fun k => spec_l20Rd_odd.f k b p n) (fun r => p ≤ r.2 ∧ r.2 ≤ p + 1) := by
  unfold spec_l20Rd_odd.f
  rw [EvP_ite]
  split
  · refine EvP_bp (pick_p h n hn) ?_
    rintro ⟨v, q⟩ ⟨rfl, -, -⟩
    exact EvP_some.mpr ⟨by dsimp only; omega, by dsimp only; omega⟩
  · exact EvP_some.mpr ⟨by dsimp only; omega, by dsimp only; omega⟩
theorem five (v : Int) (h : 0 ≤ v ∧ v < 5) : v = 0 ∨ v = 1 ∨ v = 2 ∨ v = 3 ∨ v = 4 := by omega
theorem seven (v : Int) (h : 0 ≤ v ∧ v < 7) : 0 ≤ rd [0, 0, 0, 1, 1, 1, 2] v ∧ rd [0, 0, 0, 1, 1, 1, 2] v < 3 := by
  have : v = 0 ∨ v = 1 ∨ v = 2 ∨ v = 3 ∨ v = 4 ∨ v = 5 ∨ v = 6 := by omega
  rcases this with rfl | rfl | rfl | rfl | rfl | rfl | rfl <;> decide
end Go.Proofs.Ytcbmkonigclceaa.Mod

/- What the draws of logs come to, and LogAdd, LogCut of the reference. -/
namespace Go.Proofs.Ytcbmkonigclceaa.Mod
open Go.RowKit Go.Proofs.Ytcbmkonigclceaa.P Go.Proofs.Ytcbmkonigclceaa.EvK Go.Proofs.YtcbmkonigclceaaW.PrintWords Go.Proofs.YtcbmkonigclceaaW.PrintLast
set_option linter.unusedVariables false
set_option linter.unusedSimpArgs false
theorem logValid_len {l : List S39} (h : logValid l = true) : l.length ≤ 40 := by
  unfold logValid at h
  simp only [Bool.and_eq_true, decide_eq_true_eq] at h
  omega
theorem logValid_mem {l : List S39} : logValid l = true ↔ (∀ v ∈ l, logOk v = true) ∧ l.length ≤ 40 := by
  unfold logValid
  rw [Bool.and_eq_true, allN_iff, decide_eq_true_iff]
  constructor
  · rintro ⟨h, hl⟩
    refine ⟨fun v hv => ?_, by omega⟩
    obtain ⟨i, hi, rfl⟩ := List.getElem_of_mem hv
    have := h i hi
    rw [List.getD_eq_getElem?_getD, List.getElem?_eq_getElem hi] at this
    exact this
  · rintro ⟨h, hl⟩
    refine ⟨fun i hi => ?_, by omega⟩
    rw [List.getD_eq_getElem?_getD, List.getElem?_eq_getElem hi]
    exact h _ (List.getElem_mem hi)
theorem logOk_size {v : S39} (h : logOk v = true) : v.f1.size ≤ 60 := by
  unfold logOk at h
  simp only [Bool.and_eq_true] at h
  exact textValid_size h.1.2
theorem logValid_sized {l : List S39} (h : logValid l = true) : LogSized l := by
  obtain ⟨h1, h2⟩ := logValid_mem.1 h
  exact ⟨by omega, fun v hv => by have := logOk_size (h1 v hv); omega⟩
/-- Logs as the draws give them. -/
structure DrawnL (l : List S39) : Prop where
  len : l.length ≤ 100
  siz : ∀ v ∈ l, v.f1.size ≤ 61
theorem DrawnL.sized {l : List S39} (h : DrawnL l) : LogSized l := ⟨by have := h.len; omega, fun v hv => by have := h.siz v hv; omega⟩
theorem drawn_log {l : List S39} (h : logValid l = true) : DrawnL l := by
  obtain ⟨h1, h2⟩ := logValid_mem.1 h
  exact ⟨by omega, fun v hv => by have := logOk_size (h1 v hv); omega⟩
/-- What LogAdd puts behind a log. -/
def addTail (ts : List ByteArray) : List S39 := ⟨0, ⟨#[]⟩⟩ :: (ts.map fun t => ⟨1, t⟩) ++ [⟨2, ⟨#[]⟩⟩]
noncomputable def logAdd (l : List S39) (ts : List ByteArray) : List S39 × Bool :=
  if logValid l = true then (if logValid (l ++ addTail ts) = true then (l ++ addTail ts, true) else (l, false)) else ([], false)
theorem addTail_sized {l : List S39} {ts : List ByteArray} (hl : LogSized l) (hn : l.length ≤ 1048576) (ht : ts.length ≤ 1048576) (hs : ∀ t ∈ ts, t.size ≤ 9223372036854775807) : LogSized (l ++ addTail ts) := by
  refine ⟨by simp [addTail]; omega, fun v hv => ?_⟩
  rcases List.mem_append.1 hv with hv | hv
  · exact hl.2 v hv
  · unfold addTail at hv
    simp only [List.mem_append, List.mem_cons, List.mem_map, List.not_mem_nil, or_false] at hv
    rcases hv with (rfl | ⟨t, ht, rfl⟩) | rfl
    · dsimp only; decide
    · exact hs t ht
    · dsimp only; decide
theorem rdOf_nat (ts : List ByteArray) (i : Nat) : rdOf ByteArray.empty ts (i : Int) = ts.getD i ByteArray.empty := by simp [rdOf]
theorem spec_logAdd_ev (l : List S39) (ts : List ByteArray) (hl : LogSized l) (hn : l.length ≤ 1048576) (ht : ts.length ≤ 1048576) (hs : ∀ t ∈ ts, t.size ≤ 9223372036854775807) : Ev (fun k => spec_LogAdd.f k l ts) (logAdd l ts) := by
  unfold spec_LogAdd.f logAdd
  rw [Ev_bd (spec_log_ev l hl), Ev_ite]
  by_cases h : logValid l = true
  · rw [if_pos h, if_pos h]
    simp only [Option.bind_some, List.nil_append, List.length_nil]
    rw [Ev_pos (by omega), Ev_pos (by omega)]
    have hz := addTail_sized hl hn ht hs
    have key : ∀ d i, i + d = ts.length → Ev (fun k => spec_LogAdd.l0 k l ts (l ++ [⟨0, ⟨#[]⟩⟩] ++ ((ts.take i).map fun t => ⟨1, t⟩)) (i : Int)) (if logValid (l ++ addTail ts) = true then (l ++ addTail ts, true) else (l, false)) := by
      intro d
      induction d with
      | zero =>
        intro i hi
        obtain rfl : i = ts.length := by omega
        refine Ev_succ.mpr ?_
        simp only [spec_LogAdd.l0]
        rw [Ev_neg (by omega), List.take_length, Ev_pos (by simp; omega)]
        have e : l ++ [⟨0, ⟨#[]⟩⟩] ++ (ts.map fun t => (⟨1, t⟩ : S39)) ++ [⟨2, ⟨#[]⟩⟩] = l ++ addTail ts := by simp [addTail]
        simp only [Option.bind_some, List.nil_append, List.length_nil]
        rw [e, Ev_bd (spec_log_ev _ hz), Ev_ite]
        by_cases h2 : logValid (l ++ addTail ts) = true
        · rw [if_pos h2, if_pos h2]
          exact Ev_some.mpr rfl
        · rw [if_neg h2, if_neg h2, Ev_pos (by omega)]
          exact Ev_some.mpr rfl
      | succ d ih =>
        intro i hi
        refine Ev_succ.mpr ?_
        simp only [spec_LogAdd.l0, w64s i (by omega), rdOf_nat]
        rw [Ev_pos (by omega), Ev_pos (by omega), Ev_pos (by simp; omega)]
        have := ih (i + 1) (by omega)
        have e2 : ((ts.take (i + 1)).map fun t => (⟨1, t⟩ : S39)) = ((ts.take i).map fun t => (⟨1, t⟩ : S39)) ++ [⟨1, ts.getD i ByteArray.empty⟩] := by
          rw [List.take_succ_eq_append_getElem (show i < ts.length by omega), List.map_append]
          simp [List.getD_eq_getElem?_getD, List.getElem?_eq_getElem (show i < ts.length by omega)]
        rw [e2, ← List.append_assoc] at this
        exact this
    have := key ts.length 0 (by omega)
    simpa using this
  · rw [if_neg h, if_neg h]
    exact Ev_some.mpr rfl
theorem logAdd_valid (l : List S39) (ts : List ByteArray) : logValid (logAdd l ts).1 = true := by
  unfold logAdd
  by_cases h : logValid l = true
  · rw [if_pos h]
    by_cases h2 : logValid (l ++ addTail ts) = true
    · rw [if_pos h2]; exact h2
    · rw [if_neg h2]; exact h
  · rw [if_neg h]
    exact logValid_mem.2 ⟨fun v hv => by simp at hv, by simp⟩
noncomputable def logCut (l : List S39) (m : Int) : List S39 := if logValid l = true ∧ 0 ≤ m ∧ m ≤ l.length then l.take m.toNat else []
theorem spec_logCut_ev (l : List S39) (m : Int) (hl : LogSized l) : Ev (fun k => spec_LogCut.f k l m) (logCut l m) := by
  unfold spec_LogCut.f logCut
  rw [Ev_bd (spec_log_ev l hl), Ev_ite]
  by_cases h : logValid l = true
  · rw [if_pos h]
    have hlen := logValid_len h
    simp only [l1In_eq, Option.bind_some, Ev_ite, List.nil_append, List.length_nil]
    by_cases h1 : 0 ≤ m ∧ m ≤ l.length
    · rw [inB_iff.2 h1, if_pos rfl, if_pos h1.1, if_pos h1.2, if_pos (by simp; omega), if_pos ⟨h, h1⟩]
      exact Ev_some.mpr rfl
    · have e : inB m 0 l.length = false := by
        rw [Bool.eq_false_iff]
        exact fun g => h1 (inB_iff.1 g)
      rw [e, if_neg (by simp), if_neg (fun g => h1 g.2)]
      exact Ev_some.mpr rfl
  · rw [if_neg h, if_neg (fun g => h g.1)]
    exact Ev_some.mpr rfl
theorem text_p {b : List Int} {p : Int} (h : RdOk b p) (hp : p + 2 ≤ 1000000) (n : Int) (hn : n ≤ 1000000) : EvP (fun k => spec_l20Text.f k b p n) (fun r => r.1.size ≤ 61 ∧ p ≤ r.2 ∧ r.2 ≤ p + 2) := by
  unfold spec_l20Text.f
  refine EvP_bp (odd_p h n hn) ?_
  rintro ⟨o, q⟩ ⟨h1, h2⟩
  dsimp only at h1 h2 ⊢
  have hq : RdOk b q := h.to h1 (by omega)
  rw [EvP_ite]
  split
  · rw [EvP_pos (by omega)]
    simp only [Option.bind_some]
    refine EvP_bp (pick_p hq 3 (by omega)) ?_
    rintro ⟨v, q'⟩ ⟨rfl, r1, -⟩
    have r1 := r1 (by omega)
    dsimp only at r1 ⊢
    rw [EvP_pos r1.1, EvP_pos (by simpa using r1.2)]
    refine EvP_some.mpr ⟨?_, by dsimp only; omega, by dsimp only; omega⟩
    have : v = 0 ∨ v = 1 ∨ v = 2 := by omega
    rcases this with rfl | rfl | rfl <;> (dsimp only; decide)
  · simp only [Option.bind_some]
    refine EvP_bp (pick_p hq 8 (by omega)) ?_
    rintro ⟨v, q'⟩ ⟨rfl, r1, -⟩
    have r1 := r1 (by omega)
    dsimp only at r1 ⊢
    rw [EvP_pos r1.1, EvP_pos (by simpa using r1.2)]
    refine EvP_some.mpr ⟨?_, by dsimp only; omega, by dsimp only; omega⟩
    have : v = 0 ∨ v = 1 ∨ v = 2 ∨ v = 3 ∨ v = 4 ∨ v = 5 ∨ v = 6 ∨ v = 7 := by omega
    rcases this with rfl | rfl | rfl | rfl | rfl | rfl | rfl | rfl <;> (dsimp only; decide)
theorem drawnL_snoc {l : List S39} {n : Nat} (hl : l.length ≤ n) (h : ∀ v ∈ l, v.f1.size ≤ 61) (v : S39) (hv : v.f1.size ≤ 61) : (l ++ [v]).length ≤ n + 1 ∧ ∀ x ∈ l ++ [v], x.f1.size ≤ 61 := by
  refine ⟨by simp; omega, fun x hx => ?_⟩
  rcases List.mem_append.1 hx with hx | hx
  · exact h x hx
  · rw [List.mem_singleton.1 hx]; exact hv
theorem logCut_drawn {l : List S39} {m : Int} {n : Nat} (hl : l.length ≤ n) (h : ∀ v ∈ l, v.f1.size ≤ 61) : (logCut l m).length ≤ n ∧ ∀ x ∈ logCut l m, x.f1.size ≤ 61 := by
  unfold logCut
  split
  · exact ⟨by rw [List.length_take]; omega, fun x hx => h x (List.mem_of_mem_take hx)⟩
  · exact ⟨by simp, fun x hx => by simp at hx⟩
theorem log_p {b : List Int} {p : Int} (h : RdOk b p) (hp : p + 200 ≤ 1000000) (n : Int) (hn : n ≤ 1000000) : EvP (fun k => spec_l20Log.f k b p n) (fun r => DrawnL r.1 ∧ p ≤ r.2 ∧ r.2 ≤ p + 200) := by
  have hj3 : ∀ (l : List S39) (q : Int), l.length ≤ 60 → (∀ v ∈ l, v.f1.size ≤ 61) → p ≤ q → q ≤ p + 190 → EvP (fun k => spec_l20Log.j3 k n l b q) (fun r => DrawnL r.1 ∧ p ≤ r.2 ∧ r.2 ≤ p + 200) := by
    intro l q hl hs h1 h2
    refine EvP_succ.mpr ?_
    simp only [spec_l20Log.j3]
    refine EvP_bp (odd_p (h.to h1 (by omega)) n hn) ?_
    rintro ⟨o, q1⟩ ⟨g1, g2⟩
    dsimp only at g1 g2 ⊢
    rw [EvP_ite]
    split
    · simp only [Option.bind_some]
      refine EvP_bp (pick_p (h.to (q := q1) (by omega) (by omega)) 4 (by omega)) ?_
      rintro ⟨v, q2⟩ ⟨rfl, r1, -⟩
      have r1 := r1 (by omega)
      dsimp only at r1 ⊢
      rw [EvP_pos r1.1, EvP_pos (by simpa using r1.2), EvP_pos (by omega)]
      have hx : (⟨(rd_T39 [⟨3, ⟨#[]⟩⟩, ⟨-1, ⟨#[]⟩⟩, ⟨0, ⟨#[97]⟩⟩, ⟨1, ⟨#[10]⟩⟩] v).f0, (rd_T39 [⟨3, ⟨#[]⟩⟩, ⟨-1, ⟨#[]⟩⟩, ⟨0, ⟨#[97]⟩⟩, ⟨1, ⟨#[10]⟩⟩] v).f1⟩ : S39).f1.size ≤ 61 := by
        have : v = 0 ∨ v = 1 ∨ v = 2 ∨ v = 3 := by omega
        rcases this with rfl | rfl | rfl | rfl <;> exact Nat.le_of_ble_eq_true rfl
      have := drawnL_snoc hl hs _ hx
      exact EvP_some.mpr ⟨⟨Nat.le_trans this.1 (by omega), this.2⟩, by dsimp only; omega, by dsimp only; omega⟩
    · exact EvP_some.mpr ⟨⟨Nat.le_trans hl (by omega), hs⟩, by dsimp only; omega, by dsimp only; omega⟩
  have hl0 : ∀ (d : Nat) (l : List S39) (q : Int), l.length ≤ 42 → (∀ v ∈ l, v.f1.size ≤ 61) → p ≤ q → q + 20 * d + 10 ≤ p + 190 → EvP (fun k => spec_l20Log.l0 k n l (d : Int) b q) (fun r => DrawnL r.1 ∧ p ≤ r.2 ∧ r.2 ≤ p + 200) := by
    intro d
    induction d with
    | zero =>
      intro l q hl hs h1 h2
      refine EvP_succ.mpr ?_
      simp only [spec_l20Log.l0]
      rw [EvP_neg (by omega)]
      refine EvP_bp (odd_p (h.to h1 (by omega)) 4 (by omega)) ?_
      rintro ⟨o, q1⟩ ⟨g1, g2⟩
      dsimp only at g1 g2 ⊢
      rw [EvP_ite]
      split
      · rw [w64 (x := (l.length : Int) + 1) (by omega) (by omega)]
        refine EvP_bp (pick_p (h.to (q := q1) (by omega) (by omega)) _ (by omega)) ?_
        rintro ⟨v, q2⟩ ⟨rfl, -, -⟩
        dsimp only
        rw [EvP_bd (spec_logCut_ev l v ⟨by omega, fun v hv => by have := hs v hv; omega⟩)]
        have := logCut_drawn (m := v) hl hs
        exact hj3 _ _ (by omega) this.2 (by omega) (by omega)
      · exact hj3 _ _ (by omega) hs (by omega) (by omega)
    | succ d ih =>
      intro l q hl hs h1 h2
      have hj2 : ∀ (l : List S39) (q : Int), l.length ≤ 41 → (∀ v ∈ l, v.f1.size ≤ 61) → p ≤ q → q + 20 * d + 11 ≤ p + 190 → EvP (fun k => spec_l20Log.j2 k n l ((d + 1 : Nat) : Int) b q) (fun r => DrawnL r.1 ∧ p ≤ r.2 ∧ r.2 ≤ p + 200) := by
        intro l q hl hs h1 h2
        refine EvP_succ.mpr ?_
        simp only [spec_l20Log.j2]
        refine EvP_bp (pick_p (h.to (q := q) (by omega) (by omega)) 6 (by omega)) ?_
        rintro ⟨v, q2⟩ ⟨rfl, -, -⟩
        dsimp only
        rw [w64 (x := ((d + 1 : Nat) : Int) - 1) (by omega) (by omega), show ((d + 1 : Nat) : Int) - 1 = (d : Int) by omega, EvP_ite]
        split
        · rw [EvP_pos (by omega)]
          have := drawnL_snoc hl hs ⟨0, ⟨#[]⟩⟩ (by dsimp only; decide)
          exact ih _ _ (by omega) this.2 (by omega) (by omega)
        · exact ih _ _ (by omega) hs (by omega) (by omega)
      have hl1 : ∀ (e : Nat) (ts : List ByteArray) (q : Int), ts.length + e ≤ 8 → (∀ t ∈ ts, t.size ≤ 61) → p ≤ q → q + 2 * e + 20 * d + 12 ≤ p + 190 → EvP (fun k => spec_l20Log.l1 k n l ((d + 1 : Nat) : Int) ts (e : Int) b q) (fun r => DrawnL r.1 ∧ p ≤ r.2 ∧ r.2 ≤ p + 200) := by
        intro e
        induction e with
        | zero =>
          intro ts q ht hts h1 h2
          refine EvP_succ.mpr ?_
          simp only [spec_l20Log.l1]
          rw [EvP_neg (by omega), EvP_bd (spec_logAdd_ev l ts ⟨by omega, fun v hv => by have := hs v hv; omega⟩ (by omega) (by omega) (fun t ht => by have := hts t ht; omega))]
          have hv := logAdd_valid l ts
          have hD := drawn_log hv
          have hlen := logValid_len hv
          refine EvP_bp (pick_p (h.to (q := q) (by omega) (by omega)) 4 (by omega)) ?_
          rintro ⟨v, q2⟩ ⟨rfl, -, -⟩
          dsimp only
          rw [EvP_ite]
          split
          · rw [EvP_pos (by omega)]
            have := drawnL_snoc hlen hD.siz ⟨1, ⟨#[108, 111, 115, 116]⟩⟩ (by dsimp only; decide)
            exact hj2 _ _ (by omega) this.2 (by omega) (by omega)
          · exact hj2 _ _ (by omega) hD.siz (by omega) (by omega)
        | succ e ihe =>
          intro ts q ht hts h1 h2
          refine EvP_succ.mpr ?_
          simp only [spec_l20Log.l1]
          rw [EvP_pos (by omega)]
          refine EvP_bp (text_p (h.to (q := q) (by omega) (by omega)) (by omega) 0 (by omega)) ?_
          rintro ⟨t, q2⟩ ⟨hz, g1, g2⟩
          dsimp only at hz g1 g2 ⊢
          rw [EvP_pos (by omega), w64 (x := ((e + 1 : Nat) : Int) - 1) (by omega) (by omega), show ((e + 1 : Nat) : Int) - 1 = (e : Int) by omega]
          refine ihe _ _ (by simp; omega) (fun x hx => ?_) (by omega) (by omega)
          rcases List.mem_append.1 hx with hx | hx
          · exact hts x hx
          · rw [List.mem_singleton.1 hx]; exact hz
      refine EvP_succ.mpr ?_
      simp only [spec_l20Log.l0]
      rw [EvP_pos (by omega)]
      refine EvP_bp (pick_p (h.to (q := q) (by omega) (by omega)) 4 (by omega)) ?_
      rintro ⟨v, q2⟩ ⟨rfl, r1, -⟩
      have r1 := r1 (by omega)
      dsimp only at r1 ⊢
      obtain ⟨e, rfl⟩ := Int.eq_ofNat_of_zero_le r1.1
      exact hl1 e [] (q + 1) (by simp; omega) (fun t ht => by simp at ht) (by omega) (by omega)
  unfold spec_l20Log.f
  refine EvP_bp (pick_p h 4 (by omega)) ?_
  rintro ⟨v, q⟩ ⟨rfl, r1, -⟩
  have r1 := r1 (by omega)
  dsimp only at r1 ⊢
  obtain ⟨d, rfl⟩ := Int.eq_ofNat_of_zero_le r1.1
  exact hl0 d [] (p + 1) (by simp) (fun v hv => by simp at hv) (by omega) (by omega)
end Go.Proofs.Ytcbmkonigclceaa.Mod

/- Marks: what the statements write over a result, to see that nothing else holds it. -/
namespace Go.Proofs.Ytcbmkonigclceaa.Mod
open Go.RowKit Go.Proofs.Ytcbmkonigclceaa.P Go.Proofs.Ytcbmkonigclceaa.EvK Go.Proofs.YtcbmkonigclceaaW.PrintWords Go.Proofs.YtcbmkonigclceaaW.PrintLast
set_option linter.unusedVariables false
set_option linter.unusedSimpArgs false
theorem getD_set {β : Type} (xs : List β) (z v : β) (i : Nat) (h : i < xs.length) : (xs.set i v).getD i z = v := by
  simp [List.getD_eq_getElem?_getD, h]
theorem ev_mark {β : Type} (n : Nat) (e : Nat → β) (k0 : Int) (m : Nat) (g : Nat → List β → Int → Int → Option (Int × List β))
    (hs : ∀ (i : Nat) (acc : List β), i < n → acc.length = n → ∀ r, Ev (fun q => g q (acc.set i (e i)) (k0 + ((m * (i + 1) : Nat) : Int)) ((i + 1 : Nat) : Int)) r → Ev (fun q => g q acc (k0 + ((m * i : Nat) : Int)) (i : Int)) r)
    (he : ∀ acc : List β, acc.length = n → Ev (fun q => g q acc (k0 + ((m * n : Nat) : Int)) (n : Int)) (k0 + ((m * n : Nat) : Int), acc)) (acc : List β) (hl : acc.length = n) :
    Ev (fun q => g q acc k0 0) (k0 + ((m * n : Nat) : Int), (List.range n).map e) := by
  have key : ∀ d i (acc : List β), i + d = n → acc.length = n → acc.take i = ((List.range n).map e).take i → Ev (fun q => g q acc (k0 + ((m * i : Nat) : Int)) (i : Int)) (k0 + ((m * n : Nat) : Int), (List.range n).map e) := by
    intro d
    induction d with
    | zero =>
      intro i acc hi hl ht
      obtain rfl : i = n := by omega
      have : acc = (List.range i).map e := by
        rw [List.take_of_length_le (by omega), List.take_of_length_le (by simp)] at ht
        exact ht
      rw [← this]
      exact he acc hl
    | succ d ih =>
      intro i acc hi hl ht
      refine hs i acc (by omega) hl _ (ih (i + 1) _ (by omega) (by simpa using hl) ?_)
      apply List.ext_getElem?
      intro j
      have hj := congrArg (fun l => l[j]?) ht
      simp only [List.getElem?_take] at hj ⊢
      by_cases h1 : j < i
      · rw [if_pos h1, if_pos h1] at hj
        rw [if_pos (by omega), if_pos (by omega), List.getElem?_set_ne (by omega)]
        exact hj
      · by_cases h2 : j = i
        · subst h2
          rw [if_pos (by omega), if_pos (by omega), List.getElem?_set_self (by omega)]
          simp [List.getElem?_range (show j < n by omega)]
        · rw [if_neg (by omega), if_neg (by omega)]
  have := key n 0 acc (by omega) hl (by simp)
  simpa using this
theorem ev_held (n : Nat) (k0 : Int) (m : Nat) (g : Nat → Int → Int → Option Int)
    (hs : ∀ (i : Nat), i < n → ∀ r, Ev (fun q => g q (k0 + ((m * (i + 1) : Nat) : Int)) ((i + 1 : Nat) : Int)) r → Ev (fun q => g q (k0 + ((m * i : Nat) : Int)) (i : Int)) r)
    (he : Ev (fun q => g q (k0 + ((m * n : Nat) : Int)) (n : Int)) (k0 + ((m * n : Nat) : Int))) : Ev (fun q => g q k0 0) (k0 + ((m * n : Nat) : Int)) := by
  have key : ∀ d i, i + d = n → Ev (fun q => g q (k0 + ((m * i : Nat) : Int)) (i : Int)) (k0 + ((m * n : Nat) : Int)) := by
    intro d
    induction d with
    | zero =>
      intro i hi
      obtain rfl : i = n := by omega
      exact he
    | succ d ih =>
      intro i hi
      exact hs i (by omega) _ (ih (i + 1) (by omega))
  have := key n 0 (by omega)
  simpa using this
end Go.Proofs.Ytcbmkonigclceaa.Mod

/- What the laws' functions on slices of texts come to. -/
namespace Go.Proofs.Ytcbmkonigclceaa.Mod
open Go.RowKit Go.Proofs.Ytcbmkonigclceaa.P Go.Proofs.Ytcbmkonigclceaa.EvK Go.Proofs.YtcbmkonigclceaaW.PrintWords Go.Proofs.YtcbmkonigclceaaW.PrintLast
set_option linter.unusedVariables false
set_option linter.unusedSimpArgs false
theorem rdT_nat (ts : List ByteArray) (i : Nat) : rdOf ByteArray.empty ts (i : Int) = ts.getD i ByteArray.empty := by simp [rdOf]
end Go.Proofs.Ytcbmkonigclceaa.Mod

/- What LogDone and LogLost come to. -/
namespace Go.Proofs.Ytcbmkonigclceaa.Mod
open Go.RowKit Go.Proofs.Ytcbmkonigclceaa.P Go.Proofs.Ytcbmkonigclceaa.EvK Go.Proofs.YtcbmkonigclceaaW.PrintWords Go.Proofs.YtcbmkonigclceaaW.PrintLast
set_option linter.unusedVariables false
set_option linter.unusedSimpArgs false
abbrev DoneS := List ByteArray × List ByteArray × Bool
open Classical in
/-- One line of a log. -/
noncomputable def stepD (s : DoneS) (e : S39) : DoneS :=
  if e.f0 = 0 then (s.1, [], true) else if e.f0 = 1 then (s.1, if s.2.2 = true then s.2.1 ++ [e.f1] else s.2.1, s.2.2) else (if s.2.2 = true then s.1 ++ s.2.1 else s.1, [], false)
noncomputable def doneL (s : DoneS) (l : List S39) : DoneS := l.foldl stepD s
noncomputable def logDone (l : List S39) : List ByteArray := if logValid l = true then (doneL ([], [], false) l).1 else []
theorem doneL_cons (s : DoneS) (e : S39) (l : List S39) : doneL s (e :: l) = doneL (stepD s e) l := rfl
theorem doneL_append (s : DoneS) (a b : List S39) : doneL s (a ++ b) = doneL (doneL s a) b := List.foldl_append
/-- The state's pending texts count only while a part is open. -/
theorem stepD_same {d p q : List ByteArray} {o : Bool} (h : o = true → p = q) (e : S39) : (stepD (d, p, o) e).1 = (stepD (d, q, o) e).1 ∧ (stepD (d, p, o) e).2.2 = (stepD (d, q, o) e).2.2 ∧ ((stepD (d, p, o) e).2.2 = true → (stepD (d, p, o) e).2.1 = (stepD (d, q, o) e).2.1) := by
  unfold stepD
  by_cases h0 : e.f0 = 0
  · simp [h0]
  · by_cases h1 : e.f0 = 1
    · cases o
      · simp [h0, h1]
      · simp [h0, h1, h rfl]
    · cases o
      · simp [h0, h1]
      · simp [h0, h1, h rfl]
def ones (l : List S39) : Nat := (l.filter (fun e => e.f0 == 1)).length
theorem ones_cons (e : S39) (l : List S39) : ones (e :: l) = if e.f0 = 1 then ones l + 1 else ones l := by
  unfold ones
  by_cases h : e.f0 = 1 <;> simp [h]
theorem ones_le (l : List S39) : ones l ≤ l.length := List.length_filter_le _ _
theorem doneL_len : ∀ (l : List S39) (s : DoneS), (doneL s l).1.length ≤ s.1.length + s.2.1.length + ones l
  | [], s => by simp only [doneL, List.foldl_nil]; omega
  | e :: l, s => by
    rw [doneL_cons, ones_cons]
    have := doneL_len l (stepD s e)
    refine Nat.le_trans this ?_
    unfold stepD
    by_cases h0 : e.f0 = 0
    · rw [if_pos h0, if_neg (by omega)]
      simp
    · by_cases h1 : e.f0 = 1
      · rw [if_neg h0, if_pos h1, if_pos h1]
        dsimp only
        split
        · simp; omega
        · omega
      · rw [if_neg h0, if_neg h1, if_neg h1]
        dsimp only
        split
        · simp
        · simp
theorem doneL_pre : ∀ (l : List S39) (s : DoneS), ∃ t, (doneL s l).1 = s.1 ++ t
  | [], s => ⟨[], by simp [doneL]⟩
  | e :: l, s => by
    rw [doneL_cons]
    obtain ⟨t, ht⟩ := doneL_pre l (stepD s e)
    have : ∃ u, (stepD s e).1 = s.1 ++ u := by
      unfold stepD
      by_cases h0 : e.f0 = 0
      · exact ⟨[], by simp [h0]⟩
      · by_cases h1 : e.f0 = 1
        · exact ⟨[], by simp [h0, h1]⟩
        · rw [if_neg h0, if_neg h1]
          dsimp only
          split
          · exact ⟨s.2.1, rfl⟩
          · exact ⟨[], by simp⟩
    obtain ⟨u, hu⟩ := this
    exact ⟨u ++ t, by rw [ht, hu, List.append_assoc]⟩
theorem logDone_len (l : List S39) : (logDone l).length ≤ ones l ∧ (logDone l).length ≤ 40 := by
  unfold logDone
  split
  · rename_i h
    have h1 := doneL_len l ([], [], false)
    have h2 := ones_le l
    have h3 := logValid_len h
    simp only [List.length_nil] at h1
    omega
  · simp
theorem impl_done_ev (l : List S39) (hl : LogSized l) : Ev (fun k => impl_LogDone.f k l) (logDone l) := by
  unfold impl_LogDone.f logDone
  rw [Ev_bd (impl_log_ev l hl), Ev_ite]
  by_cases h : logValid l = true
  · rw [if_pos h, if_pos h]
    have hlen := logValid_len h
    have key : ∀ n i (d p : List ByteArray) (o : Bool), i + n = l.length → (o = false → p = []) → d.length + p.length ≤ i → Ev (fun k => impl_LogDone.l0 k d p o l (l.length : Int) (i : Int)) (doneL (d, p, o) (l.drop i)).1 := by
      intro n
      induction n with
      | zero =>
        intro i d p o hi hp hd
        refine Ev_succ.mpr ?_
        simp only [impl_LogDone.l0]
        rw [Ev_neg (by omega), List.drop_eq_nil_of_le (by omega)]
        exact Ev_some.mpr rfl
      | succ n ih =>
        intro i d p o hi hp hd
        refine Ev_succ.mpr ?_
        have hv := (logValid_mem.1 h).1 (l.getD i z39) (by
          rw [List.getD_eq_getElem?_getD, List.getElem?_eq_getElem (show i < l.length by omega)]
          exact List.getElem_mem _)
        unfold logOk at hv
        simp only [Bool.and_eq_true] at hv
        have hv := inB_iff.1 hv.1.1
        simp only [impl_LogDone.l0, rdLogEntry, w64s i (by omega)]
        rw [Ev_pos (by omega), Ev_pos (by omega), Ev_pos (by omega), drop_cons l z39 i (by omega), doneL_cons]
        generalize l.getD i z39 = e at *
        unfold stepD
        rw [Ev_ite]
        by_cases h0 : e.f0 = 0
        · rw [if_pos h0, if_pos h0]
          exact ih (i + 1) d [] true (by omega) (by simp) (by simp; omega)
        rw [if_neg h0, if_neg h0, Ev_ite]
        by_cases h1 : e.f0 = 1
        · rw [if_pos h1, if_pos h1, Ev_ite]
          cases o
          · rw [if_neg (by simp)]
            exact ih (i + 1) d p false (by omega) hp (by omega)
          · rw [if_pos rfl, Ev_pos (by omega)]
            exact ih (i + 1) d (p ++ [e.f1]) true (by omega) (by simp) (by simp; omega)
        · rw [if_neg h1, if_neg h1, Ev_pos (by omega), Ev_pos (by omega)]
          have := ih (i + 1) (d ++ p) [] false (by omega) (by simp) (by simp; omega)
          cases o
          · rw [hp rfl] at this ⊢
            simpa using this
          · exact this
    have := key l.length 0 [] [] false (by omega) (by simp) (by simp)
    simpa using this
  · rw [if_neg h, if_neg h]
    exact Ev_some.mpr rfl
theorem spec_done_ev (l : List S39) (hl : LogSized l) : Ev (fun k => spec_LogDone.f k l) (logDone l) := by
  have hn := hl.1
  unfold spec_LogDone.f logDone
  have hend : ∀ (d p : List ByteArray) (o : Bool) (i : Nat), Ev (fun k => spec_LogDone.j1 k l d p o (i : Int) false) d := by
    intro d p o i
    refine Ev_succ.mpr ?_
    simp only [spec_LogDone.j1]
    rw [Ev_neg (by simp)]
    exact Ev_some.mpr rfl
  by_cases h : logValid l = true
  · rw [if_pos h]
    have hlen := logValid_len h
    have key : ∀ n i (d p q : List ByteArray) (o : Bool), i + n = l.length → (o = true → p = q) → d.length + p.length ≤ i → Ev (fun k => spec_LogDone.l0 k l d p o (i : Int)) (doneL (d, q, o) (l.drop i)).1 := by
      intro n
      induction n with
      | zero =>
        intro i d p q o hi hp hd
        refine Ev_succ.mpr ?_
        simp only [spec_LogDone.l0]
        rw [Ev_neg (by omega), List.drop_eq_nil_of_le (by omega)]
        exact hend d p o i
      | succ n ih =>
        intro i d p q o hi hp hd
        refine Ev_succ.mpr ?_
        simp only [spec_LogDone.l0]
        rw [Ev_pos (by omega), Ev_bd (spec_log_ev l hl), h]
        refine Ev_succ.mpr ?_
        simp only [spec_LogDone.j1, if_true, rdLogEntry, w64s i (by omega)]
        rw [Ev_pos (by omega), Ev_pos (by omega), drop_cons l z39 i (by omega), doneL_cons]
        generalize l.getD i z39 = e at *
        unfold stepD
        rw [Ev_ite]
        by_cases h0 : e.f0 = 0
        · rw [if_pos h0, if_pos h0]
          exact ih (i + 1) d [] [] true (by omega) (by simp) (by simp; omega)
        rw [if_neg h0, if_neg h0, Ev_ite]
        by_cases h1 : e.f0 = 1
        · rw [if_pos h1, if_pos h1, Ev_pos (by omega)]
          refine ih (i + 1) d (p ++ [e.f1]) _ o (by omega) (fun ho => ?_) (by simp; omega)
          rw [if_pos ho, hp ho]
        · rw [if_neg h1, if_neg h1, Ev_ite]
          cases o
          · rw [if_neg (by simp)]
            exact ih (i + 1) d [] [] false (by omega) (by simp) (by simp; omega)
          · rw [if_pos rfl, Ev_pos (by omega), ← hp rfl]
            exact ih (i + 1) (d ++ p) [] [] false (by omega) (by simp) (by simp; omega)
    have := key l.length 0 [] [] [] false (by omega) (by simp) (by simp)
    simpa using this
  · rw [if_neg h]
    refine Ev_succ.mpr ?_
    simp only [spec_LogDone.l0]
    rw [Ev_ite]
    split
    · rw [Ev_bd (spec_log_ev l hl), (by simpa using h : logValid l = false)]
      exact hend [] [] false 0
    · exact hend [] [] false 0
noncomputable def logLost (l : List S39) : Int := if logValid l = true then (ones l : Int) - ((logDone l).length : Int) else -1
end Go.Proofs.Ytcbmkonigclceaa.Mod

/- A binary search. Plain Lean; no program in it. -/
namespace Go.Proofs.Ytcbmkonigclceaa.EvK
open Go Go.RowKit Go.Proofs.YtcbmkonigclceaaW.PrintWords
set_option linter.unusedVariables false
set_option linter.unusedSimpArgs false
/-- A binary search: the first place where something that holds first and then never again does not hold. -/
theorem searchP_ev {α : Type} (xs : List α) (z : α) (p : α → Bool) (g : Nat → Int → Int → Option Int) (hlen : xs.length ≤ 1048576)
    (hm : ∀ i j, i < j → j < xs.length → p (xs.getD j z) = true → p (xs.getD i z) = true)
    (hs : ∀ i j : Nat, i < j → j ≤ xs.length → ∀ r, (if p (xs.getD ((i + j) / 2) z) = true then Ev (fun k => g k (((i + j) / 2 + 1 : Nat) : Int) (j : Int)) r else Ev (fun k => g k (i : Int) (((i + j) / 2 : Nat) : Int)) r) → Ev (fun k => g k (i : Int) (j : Int)) r)
    (he : ∀ i : Nat, Ev (fun k => g k (i : Int) (i : Int)) (i : Int)) :
    ∃ r : Nat, Ev (fun k => g k 0 (xs.length : Int)) (r : Int) ∧ r ≤ xs.length ∧ (∀ j, j < r → p (xs.getD j z) = true) ∧ (∀ j, r ≤ j → j < xs.length → p (xs.getD j z) = false) := by
  have main : ∀ (d i j : Nat), j - i ≤ d → i ≤ j → j ≤ xs.length → (∀ q, q < i → p (xs.getD q z) = true) → (∀ q, j ≤ q → q < xs.length → p (xs.getD q z) = false) →
      ∃ r : Nat, Ev (fun k => g k (i : Int) (j : Int)) (r : Int) ∧ r ≤ xs.length ∧ (∀ j, j < r → p (xs.getD j z) = true) ∧ (∀ j, r ≤ j → j < xs.length → p (xs.getD j z) = false) := by
    intro d
    induction d with
    | zero =>
      intro i j hd hij hj h1 h2
      obtain rfl : i = j := by omega
      exact ⟨i, he i, hj, h1, h2⟩
    | succ d ih =>
      intro i j hd hij hj h1 h2
      by_cases h : i = j
      · subst h
        exact ⟨i, he i, hj, h1, h2⟩
      · by_cases hl : p (xs.getD ((i + j) / 2) z) = true
        · obtain ⟨r, hr, g1, g2, g3⟩ := ih ((i + j) / 2 + 1) j (by omega) (by omega) hj (fun q hq => by
            by_cases hqm : q = (i + j) / 2
            · rw [hqm]; exact hl
            · exact hm q ((i + j) / 2) (by omega) (by omega) hl) h2
          exact ⟨r, hs i j (by omega) hj _ (by rw [if_pos hl]; exact hr), g1, g2, g3⟩
        · obtain ⟨r, hr, g1, g2, g3⟩ := ih i ((i + j) / 2) (by omega) (by omega) (by omega) h1 (fun q hq hq2 => by
            by_cases hqm : q = (i + j) / 2
            · rw [hqm]; simpa using hl
            · rw [Bool.eq_false_iff]
              exact fun gq => hl (hm ((i + j) / 2) q (by omega) hq2 gq))
          exact ⟨r, hs i j (by omega) hj _ (by rw [if_neg hl]; exact hr), g1, g2, g3⟩
  exact main xs.length 0 xs.length (by omega) (by omega) (Nat.le_refl _) (fun q hq => by omega) (fun q h1 h2 => by omega)
end Go.Proofs.Ytcbmkonigclceaa.EvK

/- What PrintOf, StoreValid, findPiece and GetText come to. -/
namespace Go.Proofs.Ytcbmkonigclceaa.Mod
open Go.RowKit Go.Proofs.Ytcbmkonigclceaa.P Go.Proofs.Ytcbmkonigclceaa.EvK Go.Proofs.YtcbmkonigclceaaW.PrintWords Go.Proofs.YtcbmkonigclceaaW.PrintLast
set_option linter.unusedVariables false
set_option linter.unusedSimpArgs false
def prL : List Int → Int → Int
  | [], h => h
  | c :: cs, h => prL cs (Int.tmod (h * 257 + c) 16777213)
def printOf (s : ByteArray) : Int := if textValid s = true then prL (bytesOf s) 1 else -1
theorem prL_in : ∀ (cs : List Int) (h : Int), (∀ c ∈ cs, 0 ≤ c ∧ c ≤ 255) → 0 ≤ h ∧ h < 16777213 → 0 ≤ prL cs h ∧ prL cs h < 16777213
  | [], h, _, hh => hh
  | c :: cs, h, hc, hh => by
    have h0 := hc c List.mem_cons_self
    refine prL_in cs _ (fun x hx => hc x (List.mem_cons_of_mem _ hx)) ?_
    rw [Int.tmod_eq_emod_of_nonneg (by omega)]
    exact ⟨Int.emod_nonneg _ (by omega), Int.emod_lt_of_pos _ (by omega)⟩
theorem bytesOf_in (s : ByteArray) : ∀ c ∈ bytesOf s, 0 ≤ c ∧ c ≤ 255 := by
  intro c hc
  unfold bytesOf at hc
  obtain ⟨u, -, rfl⟩ := List.mem_map.1 hc
  have := u.toNat_lt
  omega
theorem printOf_in {s : ByteArray} (h : textValid s = true) : 0 ≤ printOf s ∧ printOf s < 16777213 := by
  unfold printOf
  rw [if_pos h]
  exact prL_in _ _ (bytesOf_in s) (by omega)
theorem printOf_not {s : ByteArray} (h : ¬ textValid s = true) : printOf s = -1 := by
  unfold printOf
  rw [if_neg h]
theorem printOf_ge (s : ByteArray) : -1 ≤ printOf s ∧ printOf s < 16777213 := by
  by_cases h : textValid s = true
  · have := printOf_in h; omega
  · rw [printOf_not h]; omega
theorem impl_print_ev (s : ByteArray) (hs : s.size ≤ 9223372036854775807) : Ev (fun k => impl_PrintOf.f k s) (printOf s) := by
  unfold impl_PrintOf.f printOf
  rw [Ev_bd (impl_text_ev s hs), Ev_ite]
  by_cases h : textValid s = true
  · rw [if_pos h, if_pos h]
    have hsz := textValid_size h
    have hb := bytesOf_in s
    have hl := bytesOf_len s
    have key : ∀ n i (a : Int), i + n = s.size → 0 ≤ a ∧ a < 16777213 → Ev (fun k => impl_PrintOf.l0 k s a (i : Int)) (prL ((bytesOf s).drop i) a) := by
      intro n
      induction n with
      | zero =>
        intro i a hi ha
        refine Ev_succ.mpr ?_
        simp only [impl_PrintOf.l0]
        rw [Ev_neg (by omega), List.drop_eq_nil_of_le (by omega)]
        exact Ev_some.mpr rfl
      | succ n ih =>
        intro i a hi ha
        refine Ev_succ.mpr ?_
        have hc := hb ((bytesOf s).getD i 0) (by rw [List.getD_eq_getElem?_getD, List.getElem?_eq_getElem (show i < (bytesOf s).length by omega)]; exact List.getElem_mem _)
        simp only [impl_PrintOf.l0, bt_getD, w64s i (by omega)]
        rw [Ev_pos (by omega), Ev_pos (by omega), drop_cons (bytesOf s) 0 i (by omega), w64 (x := a * 257) (by omega) (by omega), w64 (x := (bytesOf s).getD i 0) (by omega) (by omega), w64 (x := a * 257 + _) (by omega) (by omega)]
        refine ih (i + 1) _ (by omega) ?_
        rw [Int.tmod_eq_emod_of_nonneg (by omega)]
        exact ⟨Int.emod_nonneg _ (by omega), Int.emod_lt_of_pos _ (by omega)⟩
    have := key s.size 0 1 (by omega) (by omega)
    simpa using this
  · rw [if_neg h, if_neg h]
    exact Ev_some.mpr rfl
theorem spec_print_ev (s : ByteArray) (hs : s.size ≤ 9223372036854775807) : Ev (fun k => spec_PrintOf.f k s) (printOf s) := by
  unfold spec_PrintOf.f printOf
  rw [Ev_bd (spec_text_ev s hs), Ev_ite]
  by_cases h : textValid s = true
  · rw [if_pos h, if_pos h]
    have hsz := textValid_size h
    have hb := bytesOf_in s
    have hl := bytesOf_len s
    have key : ∀ n i (a : Int), i + n = s.size → 0 ≤ a ∧ a < 16777213 → Ev (fun k => spec_PrintOf.l0 k s a (i : Int)) (prL ((bytesOf s).drop i) a) := by
      intro n
      induction n with
      | zero =>
        intro i a hi ha
        refine Ev_succ.mpr ?_
        simp only [spec_PrintOf.l0]
        rw [Ev_neg (by omega), List.drop_eq_nil_of_le (by omega)]
        exact Ev_some.mpr rfl
      | succ n ih =>
        intro i a hi ha
        refine Ev_succ.mpr ?_
        have hc := hb ((bytesOf s).getD i 0) (by rw [List.getD_eq_getElem?_getD, List.getElem?_eq_getElem (show i < (bytesOf s).length by omega)]; exact List.getElem_mem _)
        simp only [spec_PrintOf.l0, bt_getD, w64s i (by omega)]
        rw [Ev_pos (by omega), Ev_pos (by omega), drop_cons (bytesOf s) 0 i (by omega), w64 (x := 257 * a) (by omega) (by omega), w64 (x := (bytesOf s).getD i 0) (by omega) (by omega), w64 (x := 257 * a + _) (by omega) (by omega), Int.mul_comm 257 a]
        refine ih (i + 1) _ (by omega) ?_
        rw [Int.tmod_eq_emod_of_nonneg (by omega)]
        exact ⟨Int.emod_nonneg _ (by omega), Int.emod_lt_of_pos _ (by omega)⟩
    have := key s.size 0 1 (by omega) (by omega)
    simpa using this
  · rw [if_neg h, if_neg h]
    exact Ev_some.mpr rfl
def pieceOk (l : List S65) (i : Nat) : Bool := textValid (l.getD i z65).f1 && decide ((l.getD i z65).f0 = printOf (l.getD i z65).f1) && (decide (i = 0) || decide ((l.getD (i - 1) z65).f0 < (l.getD i z65).f0))
def storeValid (l : List S65) : Bool := allN l.length (fun i => pieceOk l i) && decide ((l.length : Int) ≤ 40)
def StoreSized (l : List S65) : Prop := l.length ≤ 9223372036854775807 ∧ ∀ v ∈ l, v.f1.size ≤ 9223372036854775807
theorem StoreSized.at_ {l : List S65} (h : StoreSized l) {i : Nat} (hi : i < l.length) : (l.getD i z65).f1.size ≤ 9223372036854775807 := by
  rw [List.getD_eq_getElem?_getD, List.getElem?_eq_getElem hi]
  exact h.2 _ (List.getElem_mem hi)
theorem rdPiece1 (xs : List S65) (i : Nat) (h : 0 < i) : rd_T65 xs ((i : Int) - 1) = xs.getD (i - 1) z65 := by
  rw [show (i : Int) - 1 = ((i - 1 : Nat) : Int) by omega, rdPiece]
theorem spec_store_ev (l : List S65) (hl : StoreSized l) : Ev (fun k => spec_StoreValid.f k l) (storeValid l) := by
  unfold spec_StoreValid.f storeValid
  have hn := hl.1
  refine ev_allN l.length (fun k i => spec_StoreValid.l0 k l i) _ _ ?_ ?_
  · intro i hi r hr
    have hz := hl.at_ hi
    refine Ev_succ.mpr ?_
    simp only [spec_StoreValid.l0, rdPiece, w64s i (by omega)]
    rw [w64 (x := (i : Int) - 1) (by omega) (by omega)]
    rw [Ev_pos (by omega), Ev_pos (by omega), Ev_bd (spec_text_ev _ hz), Ev_ite]
    unfold pieceOk at hr
    by_cases h1 : textValid (l.getD i z65).f1 = true
    · rw [if_pos h1, Ev_bd (spec_print_ev _ hz), Ev_ite]
      rw [h1, Bool.true_and] at hr
      by_cases h2 : printOf (l.getD i z65).f1 = (l.getD i z65).f0
      · rw [if_pos h2]
        rw [decide_eq_true h2.symm, Bool.true_and] at hr
        rw [Ev_ite]
        by_cases h0 : i = 0
        · subst h0
          rw [if_neg (by omega)]
          simpa using hr
        · rw [if_pos (by omega), Ev_pos (by omega), Ev_pos (by omega), rdPiece1 l i (by omega), Ev_ite]
          rw [decide_eq_false h0, Bool.false_or] at hr
          by_cases h3 : (l.getD (i - 1) z65).f0 < (l.getD i z65).f0
          · rw [if_neg (by omega)]
            rw [if_pos (by simpa using h3)] at hr
            exact hr
          · rw [if_pos (by omega)]
            rw [if_neg (by simpa using h3)] at hr
            exact Ev_some.mpr hr
      · rw [if_neg h2]
        rw [decide_eq_false (fun g => h2 g.symm), Bool.false_and, if_neg (by simp)] at hr
        exact Ev_some.mpr hr
    · rw [if_neg h1]
      rw [(by simpa using h1 : textValid (l.getD i z65).f1 = false), Bool.false_and, Bool.false_and, if_neg (by simp)] at hr
      exact Ev_some.mpr hr
  · refine Ev_succ.mpr ?_
    simp [spec_StoreValid.l0, Ev_some]
theorem impl_store_ev (l : List S65) (hl : StoreSized l) : Ev (fun k => impl_StoreValid.f k l) (storeValid l) := by
  unfold impl_StoreValid.f storeValid
  have hn := hl.1
  rw [Ev_ite]
  by_cases h : (l.length : Int) > 40
  · rw [if_pos h, decide_eq_false (by omega), Bool.and_false]
    exact Ev_some.mpr rfl
  · rw [if_neg h, decide_eq_true (by omega)]
    refine ev_allN l.length (fun k i => impl_StoreValid.l0 k l l l.length i) _ _ ?_ ?_
    · intro i hi r hr
      have hz := hl.at_ hi
      refine Ev_succ.mpr ?_
      simp only [impl_StoreValid.l0, rdPiece]
      rw [Ev_pos (by omega), Ev_pos (by omega), Ev_pos (by omega), Ev_bd (impl_text_ev _ hz), Ev_ite]
      have hj1 : ∀ b, Ev (fun k => impl_StoreValid.j1 k l i l l.length i b (l.getD i z65).f0 (l.getD i z65).f1) r ↔
          (if b = true then false = r else if (decide (i = 0) || decide ((l.getD (i - 1) z65).f0 < (l.getD i z65).f0)) = true then Ev (fun k => impl_StoreValid.l0 k l l l.length ((i + 1 : Nat) : Int)) r else false = r) := by
        intro b
        rw [Ev_succ]
        simp only [impl_StoreValid.j1, w64s i (by omega), Ev_ite, Ev_some]
        cases b
        · simp only [Bool.false_eq_true, if_false]
          by_cases h0 : i = 0
          · subst h0
            rw [if_neg (by omega), decide_eq_true rfl, Bool.true_or, if_pos rfl]
          · rw [if_pos (by omega), w64 (x := (i : Int) - 1) (by omega) (by omega), if_pos (by omega), if_pos (by omega), rdPiece1 l i (by omega), decide_eq_false h0, Bool.false_or]
            by_cases h3 : (l.getD (i - 1) z65).f0 < (l.getD i z65).f0
            · rw [if_neg (by omega), if_pos (by simpa using h3)]
            · rw [if_pos (by omega), if_neg (by simpa using h3)]
        · simp
      unfold pieceOk at hr
      generalize (decide (i = 0) || decide ((l.getD (i - 1) z65).f0 < (l.getD i z65).f0)) = c at hr hj1
      by_cases h1 : textValid (l.getD i z65).f1 = true
      · rw [if_pos h1, Ev_bd (impl_print_ev _ hz), hj1]
        rw [h1, Bool.true_and] at hr
        by_cases h2 : (l.getD i z65).f0 = printOf (l.getD i z65).f1
        · rw [decide_eq_true h2, Bool.true_and] at hr
          rw [if_neg (by rw [← h2]; simp)]
          exact hr
        · rw [decide_eq_false h2, Bool.false_and, if_neg (by simp)] at hr
          rw [if_pos (by simpa using h2)]
          exact hr
      · rw [if_neg h1, hj1, if_pos rfl]
        rw [(by simpa using h1 : textValid (l.getD i z65).f1 = false), Bool.false_and, Bool.false_and, if_neg (by simp)] at hr
        exact hr
    · refine Ev_succ.mpr ?_
      simp [impl_StoreValid.l0, Ev_some]
theorem storeValid_iff {l : List S65} : storeValid l = true ↔ l.length ≤ 40 ∧ (∀ v ∈ l, textValid v.f1 = true ∧ v.f0 = printOf v.f1) ∧ l.Pairwise (fun a b => a.f0 < b.f0) := by
  have gd : ∀ i (h : i < l.length), l.getD i z65 = l[i] := fun i h => by rw [List.getD_eq_getElem?_getD, List.getElem?_eq_getElem h]; rfl
  unfold storeValid
  rw [Bool.and_eq_true, allN_iff, decide_eq_true_iff]
  constructor
  · rintro ⟨h, hl⟩
    have step : ∀ i (hi : i < l.length), (textValid (l[i]).f1 = true ∧ (l[i]).f0 = printOf (l[i]).f1) ∧ (i = 0 ∨ (l.getD (i - 1) z65).f0 < (l.getD i z65).f0) := by
      intro i hi
      have := h i hi
      unfold pieceOk at this
      simp only [Bool.and_eq_true, Bool.or_eq_true, decide_eq_true_eq] at this
      rw [← gd i hi]
      exact this
    refine ⟨by omega, fun v hv => ?_, ?_⟩
    · obtain ⟨i, hi, rfl⟩ := List.getElem_of_mem hv
      exact (step i hi).1
    · rw [List.pairwise_iff_getElem]
      have less : ∀ j i, i < j → j < l.length → (l.getD i z65).f0 < (l.getD j z65).f0 := by
        intro j
        induction j with
        | zero => intro i hi; omega
        | succ j ih =>
          intro i hi hj
          have hb := (step (j + 1) hj).2.resolve_left (by omega)
          rw [Nat.add_sub_cancel] at hb
          by_cases hij : i = j
          · rw [hij]; exact hb
          · have := ih i (by omega) (by omega)
            omega
      intro i j hi hj hij
      have := less j i hij hj
      rwa [gd i hi, gd j hj] at this
  · rintro ⟨h2, h3, h4⟩
    refine ⟨fun i hi => ?_, by omega⟩
    have hv := h3 _ (List.getElem_mem hi)
    unfold pieceOk
    rw [gd i hi, hv.1, decide_eq_true hv.2, Bool.true_and, Bool.true_and]
    by_cases h0 : i = 0
    · simp [h0]
    · rw [decide_eq_false h0, Bool.false_or, gd (i - 1) (by omega), decide_eq_true_iff]
      exact List.pairwise_iff_getElem.1 h4 (i - 1) i (by omega) hi (by omega)
theorem storeValid_sized {l : List S65} (h : storeValid l = true) : StoreSized l := by
  obtain ⟨h1, h2, -⟩ := storeValid_iff.1 h
  exact ⟨by omega, fun v hv => by have := textValid_size (h2 v hv).1; omega⟩
theorem pieceAt (l : List S65) (i : Nat) (h : i < l.length) : l.getD i z65 = l[i] := by
  rw [List.getD_eq_getElem?_getD, List.getElem?_eq_getElem h]
  rfl
theorem store_less {l : List S65} (h : storeValid l = true) (i j : Nat) (hij : i < j) (hj : j < l.length) : (l.getD i z65).f0 < (l.getD j z65).f0 := by
  obtain ⟨-, -, h3⟩ := storeValid_iff.1 h
  have := List.pairwise_iff_getElem.1 h3 i j (by omega) hj hij
  rwa [← pieceAt l i (by omega), ← pieceAt l j hj] at this
end Go.Proofs.Ytcbmkonigclceaa.Mod

/- What PutText and GetText come to. -/
namespace Go.Proofs.Ytcbmkonigclceaa.Mod
open Go.RowKit Go.Proofs.Ytcbmkonigclceaa.P Go.Proofs.Ytcbmkonigclceaa.EvK Go.Proofs.YtcbmkonigclceaaW.PrintWords Go.Proofs.YtcbmkonigclceaaW.PrintLast
set_option linter.unusedVariables false
set_option linter.unusedSimpArgs false
theorem cmpInt_eq (a b : Int) : cmp_Compare_int.f a b = some (if a < b then -1 else if a > b then 1 else 0) := by
  unfold cmp_Compare_int.f cmp_isNaN_int.f
  simp only [bne_self_eq_false, Option.bind_some, Bool.false_eq_true, if_false]
  repeat' split
  all_goals rfl
theorem findPiece1_eq (a : Int) (s : ByteArray) (t : Int) : impl_findPiece_1.f a s t = some (if a < t then -1 else if a > t then 1 else 0) := by
  unfold impl_findPiece_1.f
  rw [cmpInt_eq]
  rfl
theorem findPiece_p {l : List S65} (h : storeValid l = true) (t : Int) :
    ∃ r : Nat, ∃ b : Bool, Ev (fun k => impl_findPiece.f k l t) ((r : Int), b) ∧ r ≤ l.length ∧ (∀ j, j < r → (l.getD j z65).f0 < t) ∧ (∀ j, r ≤ j → j < l.length → t ≤ (l.getD j z65).f0) ∧ (b = true ↔ r < l.length ∧ (l.getD r z65).f0 = t) := by
  have hlen := (storeValid_iff.1 h).1
  obtain ⟨r, hr, h1, h2, h3⟩ := searchP_ev l z65 (fun x => decide (x.f0 < t)) (fun k i j => impl_findPiece.l0 k l t i j) (by omega)
    (fun i j hij hj hl => by
      have := store_less h i j hij hj
      simp only [decide_eq_true_eq] at hl ⊢
      omega) (by
      intro i j hij hj r hr
      refine Ev_succ.mpr ?_
      simp only [impl_findPiece.l0]
      rw [Ev_pos (by omega), Ev_pos (by omega), Ev_pos (by omega), show ((i : Int) + (j : Int)) / 2 = (((i + j) / 2 : Nat) : Int) by omega, rdPiece, Ev_b0 (findPiece1_eq _ _ _), Ev_ite]
      by_cases hl : (l.getD ((i + j) / 2) z65).f0 < t
      · rw [if_pos (by simpa using hl)] at hr
        rw [if_pos (by rw [if_pos hl]; omega)]
        exact hr
      · rw [if_neg (by simpa using hl)] at hr
        rw [if_neg (by rw [if_neg hl]; split <;> omega)]
        exact hr) (by
      intro i
      refine Ev_succ.mpr ?_
      simp only [impl_findPiece.l0]
      rw [Ev_neg (by omega)]
      exact Ev_some.mpr rfl)
  have h2' : ∀ j, j < r → (l.getD j z65).f0 < t := fun j hj => by simpa using h2 j hj
  have h3' : ∀ j, r ≤ j → j < l.length → t ≤ (l.getD j z65).f0 := fun j hj hl => by simpa using h3 j hj hl
  by_cases hrl : r < l.length
  · refine ⟨r, (if (l.getD r z65).f0 < t then (-1 : Int) else if (l.getD r z65).f0 > t then 1 else 0) == 0, ?_, h1, h2', h3', ?_⟩
    · unfold impl_findPiece.f
      rw [Ev_bd hr, Ev_pos (by omega), Ev_pos (by omega), rdPiece, Ev_b0 (findPiece1_eq _ _ _)]
      exact Ev_some.mpr rfl
    · rw [beq_iff_eq]
      constructor
      · intro g
        refine ⟨hrl, ?_⟩
        by_cases q1 : (l.getD r z65).f0 < t
        · rw [if_pos q1] at g; omega
        · by_cases q2 : (l.getD r z65).f0 > t
          · rw [if_neg q1, if_pos q2] at g; omega
          · omega
      · rintro ⟨-, g⟩
        rw [if_neg (by omega), if_neg (by omega)]
  · refine ⟨r, false, ?_, h1, h2', h3', ?_⟩
    · unfold impl_findPiece.f
      rw [Ev_bd hr, Ev_pos (by omega), Ev_neg (by omega)]
      exact Ev_some.mpr rfl
    · exact ⟨fun g => by simp at g, fun g => absurd g.1 hrl⟩
def posP (l : List S65) (t : Int) : Nat := (l.takeWhile (fun b => decide (b.f0 < t))).length
theorem posP_le (l : List S65) (t : Int) : posP l t ≤ l.length := by
  unfold posP
  exact (List.takeWhile_sublist _).length_le
theorem posP_spec (l : List S65) (t : Int) : (∀ j, j < posP l t → (l.getD j z65).f0 < t) ∧ (posP l t < l.length → t ≤ (l.getD (posP l t) z65).f0) := by
  unfold posP
  induction l with
  | nil => exact ⟨fun j hj => by simp at hj, fun h => by simp at h⟩
  | cons a l ih =>
    rw [List.takeWhile_cons]
    by_cases h : a.f0 < t
    · rw [if_pos (by simpa using h)]
      refine ⟨fun j hj => ?_, fun hj => ?_⟩
      · cases j with
        | zero => simpa using h
        | succ j => simpa using ih.1 j (by simpa using hj)
      · simpa using ih.2 (by simpa using hj)
    · rw [if_neg (by simpa using h)]
      exact ⟨fun j hj => by simp at hj, fun _ => by simpa using h⟩
theorem posP_uniq {l : List S65} {t : Int} {r : Nat} (h0 : r ≤ l.length) (h1 : ∀ j, j < r → (l.getD j z65).f0 < t) (h2 : r < l.length → t ≤ (l.getD r z65).f0) : r = posP l t := by
  obtain ⟨g1, g2⟩ := posP_spec l t
  have g0 := posP_le l t
  rcases Nat.lt_trichotomy r (posP l t) with q | q | q
  · have := g1 r q
    have := h2 (by omega)
    omega
  · exact q
  · have := h1 _ q
    have := g2 (by omega)
    omega
/-- The piece with a print is there. -/
def hasP (l : List S65) (t : Int) : Prop := posP l t < l.length ∧ (l.getD (posP l t) z65).f0 = t
def insP (l : List S65) (v : S65) : List S65 := l.take (posP l v.f0) ++ [v] ++ l.drop (posP l v.f0)
open Classical in
/-- What PutText answers. -/
noncomputable def putT (l : List S65) (s : ByteArray) : List S65 × Int × Bool :=
  if storeValid l = true then
    (if textValid s = true then
      (if hasP l (printOf s) then (if (l.getD (posP l (printOf s)) z65).f1 = s then (l, printOf s, true) else (l, -1, false))
       else if l.length = 40 then (l, -1, false) else (insP l ⟨printOf s, s⟩, printOf s, true))
     else (l, -1, false))
  else ([], -1, false)
theorem impl_put_ev (l : List S65) (s : ByteArray) (hl : StoreSized l) (hn : l.length ≤ 1048576) (hs : s.size ≤ 9223372036854775807) : Ev (fun k => impl_PutText.f k l s) (putT l s) := by
  have hc : slices_Clone_Piece.f l = some l := by
    unfold slices_Clone_Piece.f
    rw [if_pos (by omega)]
  unfold impl_PutText.f putT
  rw [Ev_bd (impl_store_ev l hl), Ev_ite]
  by_cases h : storeValid l = true
  · rw [if_pos h, if_pos h, Ev_bd (impl_text_ev s hs), Ev_ite]
    by_cases ht : textValid s = true
    · rw [if_pos ht, if_pos ht, Ev_bd (impl_print_ev s hs)]
      obtain ⟨r, b, hr, h1, h2, h3, h4⟩ := findPiece_p h (printOf s)
      have hp : r = posP l (printOf s) := posP_uniq h1 h2 (fun hlt => h3 r (Nat.le_refl _) hlt)
      have hb : b = true ↔ hasP l (printOf s) := by unfold hasP; rw [← hp]; exact h4
      rw [Ev_bd hr]
      dsimp only
      rw [Ev_ite]
      by_cases hb1 : b = true
      · have hq := hb.1 hb1
        have hlt : r < l.length := (h4.1 hb1).1
        rw [if_pos hb1, if_pos hq, Ev_pos (by omega), Ev_pos (by omega), rdPiece, ← hp, Ev_ite]
        by_cases he : (l.getD r z65).f1 = s
        · rw [if_pos (by rw [he]), if_pos he, Ev_b0 hc]
          exact Ev_some.mpr rfl
        · rw [if_neg (fun g => he (toList_iff.1 g)), if_neg he, Ev_b0 hc]
          exact Ev_some.mpr rfl
      · rw [if_neg hb1, if_neg (fun g => hb1 (hb.2 g)), Ev_ite]
        by_cases h40 : l.length = 40
        · rw [if_pos (by omega), if_pos h40, Ev_b0 hc]
          exact Ev_some.mpr rfl
        · rw [if_neg (by omega), if_neg h40, Ev_b0 hc]
          have e : slices_Insert_Piece.f l (r : Int) [⟨printOf s, s⟩] = some (insP l ⟨printOf s, s⟩) := by
            unfold slices_Insert_Piece.f insP
            rw [if_pos ⟨rfl, by omega, by omega, by omega⟩, Int.toNat_natCast, ← hp]
          rw [Ev_b0 e]
          exact Ev_some.mpr rfl
    · rw [if_neg ht, if_neg ht, Ev_b0 hc]
      exact Ev_some.mpr rfl
  · rw [if_neg h, if_neg h]
    exact Ev_some.mpr rfl
theorem spec_put_ev (l : List S65) (s : ByteArray) (hl : StoreSized l) (hn : l.length ≤ 1048576) (hs : s.size ≤ 9223372036854775807) : Ev (fun k => spec_PutText.f k l s) (putT l s) := by
  unfold spec_PutText.f putT
  rw [Ev_bd (spec_store_ev l hl), Ev_ite]
  by_cases h : storeValid l = true
  · rw [if_pos h, if_pos h, Ev_bd (spec_print_ev s hs)]
    obtain ⟨g1, g2⟩ := posP_spec l (printOf s)
    have g0 := posP_le l (printOf s)
    have hge := printOf_ge s
    have hj3t : ∀ b, Ev (fun k => spec_PutText.j3 k l s (printOf s) (posP l (printOf s) : Int) b true) (l, -1, false) := by
      intro b
      refine Ev_succ.mpr ?_
      simp only [spec_PutText.j3, if_true, Option.bind_some, List.nil_append, List.length_nil]
      rw [Ev_pos (by omega)]
      exact Ev_some.mpr rfl
    have hj3a : Ev (fun k => spec_PutText.j3 k l s (printOf s) (posP l (printOf s) : Int) true false) (l, printOf s, true) := by
      refine Ev_succ.mpr ?_
      simp only [spec_PutText.j3, if_true, Option.bind_some, List.nil_append, List.length_nil]
      rw [Ev_neg (by simp), Ev_pos (by omega)]
      exact Ev_some.mpr rfl
    have hj3b : Ev (fun k => spec_PutText.j3 k l s (printOf s) (posP l (printOf s) : Int) false false) (insP l ⟨printOf s, s⟩, printOf s, true) := by
      refine Ev_succ.mpr ?_
      simp only [spec_PutText.j3, Option.bind_some, List.nil_append, List.length_nil, Int.toNat_natCast]
      rw [Ev_neg (by simp), Ev_neg (by simp), Ev_pos (by omega), Ev_pos (by omega), Ev_pos (by simp; omega), Ev_pos (by simp; omega), Ev_pos (by simp; omega)]
      exact Ev_some.mpr rfl
    have hj2 : ∀ b : Bool, (b = true ↔ hasP l (printOf s)) → Ev (fun k => spec_PutText.j2 k l s (printOf s) (posP l (printOf s) : Int) b)
        (if textValid s = true then (open Classical in if hasP l (printOf s) then (if (l.getD (posP l (printOf s)) z65).f1 = s then (l, printOf s, true) else (l, -1, false)) else if l.length = 40 then (l, -1, false) else (insP l ⟨printOf s, s⟩, printOf s, true)) else (l, -1, false)) := by
      intro b hb
      refine Ev_succ.mpr ?_
      simp only [spec_PutText.j2, rdPiece]
      rw [Ev_ite]
      by_cases ht : textValid s = true
      · have := printOf_in ht
        rw [if_neg (by omega), if_pos ht, Ev_ite]
        by_cases hb1 : b = true
        · have hq := hb.1 hb1
          rw [if_pos hb1, if_pos hq, Ev_pos (by omega), Ev_pos (by have := hq.1; omega), Ev_ite]
          by_cases he : (l.getD (posP l (printOf s)) z65).f1 = s
          · rw [if_pos (by rw [he]), if_pos he, hb1]
            exact hj3a
          · rw [if_neg (fun g => he (toList_iff.1 g)), if_neg he]
            exact hj3t b
        · rw [if_neg hb1, if_neg (fun g => hb1 (hb.2 g))]
          have hbf : b = false := by simpa using hb1
          by_cases h40 : l.length = 40
          · rw [if_pos h40, show ((l.length : Int) == 40) = true by simp; omega]
            exact hj3t b
          · rw [if_neg h40, show ((l.length : Int) == 40) = false by simp; omega, hbf]
            exact hj3b
      · rw [printOf_not ht] at *
        rw [if_pos (by omega), if_neg ht]
        exact hj3t b
    have hj1 : Ev (fun k => spec_PutText.j1 k l s (printOf s) (posP l (printOf s) : Int))
        (if textValid s = true then (open Classical in if hasP l (printOf s) then (if (l.getD (posP l (printOf s)) z65).f1 = s then (l, printOf s, true) else (l, -1, false)) else if l.length = 40 then (l, -1, false) else (insP l ⟨printOf s, s⟩, printOf s, true)) else (l, -1, false)) := by
      refine Ev_succ.mpr ?_
      simp only [spec_PutText.j1, rdPiece]
      rw [Ev_ite]
      by_cases hlt : posP l (printOf s) < l.length
      · rw [if_pos (by omega), Ev_pos (by omega)]
        refine hj2 _ ?_
        rw [beq_iff_eq]
        exact ⟨fun g => ⟨hlt, g⟩, fun g => g.2⟩
      · rw [if_neg (by omega)]
        exact hj2 _ ⟨fun g => by simp at g, fun g => absurd g.1 hlt⟩
    have key : ∀ d i, i + d = posP l (printOf s) → Ev (fun k => spec_PutText.l0 k l s (printOf s) (i : Int))
        (if textValid s = true then (open Classical in if hasP l (printOf s) then (if (l.getD (posP l (printOf s)) z65).f1 = s then (l, printOf s, true) else (l, -1, false)) else if l.length = 40 then (l, -1, false) else (insP l ⟨printOf s, s⟩, printOf s, true)) else (l, -1, false)) := by
      intro d
      induction d with
      | zero =>
        intro i hi
        obtain rfl : i = posP l (printOf s) := by omega
        refine Ev_succ.mpr ?_
        simp only [spec_PutText.l0, rdPiece]
        rw [Ev_ite]
        by_cases hlt : posP l (printOf s) < l.length
        · have := g2 hlt
          rw [if_pos (by omega), Ev_pos (by omega), Ev_neg (by omega)]
          exact hj1
        · rw [if_neg (by omega)]
          exact hj1
      | succ d ih =>
        intro i hi
        refine Ev_succ.mpr ?_
        have := g1 i (by omega)
        simp only [spec_PutText.l0, rdPiece, w64s i (by omega)]
        rw [Ev_pos (by omega), Ev_pos (by omega), Ev_pos this]
        exact ih (i + 1) (by omega)
    exact key (posP l (printOf s)) 0 (by omega)
  · rw [if_neg h, if_neg h]
    exact Ev_some.mpr rfl
theorem insP_mem {l : List S65} {v x : S65} : x ∈ insP l v ↔ x = v ∨ x ∈ l := by
  unfold insP
  have e : x ∈ l ↔ x ∈ l.take (posP l v.f0) ∨ x ∈ l.drop (posP l v.f0) := by
    rw [← List.mem_append, List.take_append_drop]
  rw [List.mem_append, List.mem_append, List.mem_singleton, e]
  constructor
  · rintro ((h | h) | h)
    · exact Or.inr (Or.inl h)
    · exact Or.inl h
    · exact Or.inr (Or.inr h)
  · rintro (h | h | h)
    · exact Or.inl (Or.inr h)
    · exact Or.inl (Or.inl h)
    · exact Or.inr h
theorem insP_len (l : List S65) (v : S65) : (insP l v).length = l.length + 1 := by
  unfold insP
  have := posP_le l v.f0
  simp
  omega
theorem insP_valid {l : List S65} {s : ByteArray} (h : storeValid l = true) (ht : textValid s = true) (hn : ¬ hasP l (printOf s)) (h40 : l.length ≠ 40) : storeValid (insP l ⟨printOf s, s⟩) = true := by
  obtain ⟨h1, h2, h3⟩ := storeValid_iff.1 h
  obtain ⟨g1, g2⟩ := posP_spec l (printOf s)
  have g0 := posP_le l (printOf s)
  refine storeValid_iff.2 ⟨by rw [insP_len]; omega, fun v hv => ?_, ?_⟩
  · rcases insP_mem.1 hv with rfl | hv
    · exact ⟨ht, rfl⟩
    · exact h2 v hv
  · unfold insP
    rw [List.append_assoc, List.pairwise_append]
    have hdrop : ∀ b ∈ l.drop (posP l (printOf s)), printOf s < b.f0 := by
      intro b hb
      obtain ⟨i, hi, rfl⟩ := List.getElem_of_mem hb
      rw [List.length_drop] at hi
      rw [List.getElem_drop, ← pieceAt l _ (by omega)]
      have h5 := g2 (by omega)
      have h6 : (l.getD (posP l (printOf s)) z65).f0 ≠ printOf s := fun e => hn ⟨by omega, e⟩
      by_cases hi0 : i = 0
      · subst hi0
        rw [Nat.add_zero]
        omega
      · have := store_less h (posP l (printOf s)) (posP l (printOf s) + i) (by omega) (by omega)
        omega
    refine ⟨h3.sublist (List.take_sublist _ _), ?_, ?_⟩
    · rw [List.singleton_append, List.pairwise_cons]
      exact ⟨hdrop, h3.sublist (List.drop_sublist _ _)⟩
    · intro a ha b hb
      have ha' : a.f0 < printOf s := by
        obtain ⟨i, hi, rfl⟩ := List.getElem_of_mem ha
        rw [List.length_take] at hi
        have hi2 : i < posP l (printOf s) := Nat.lt_of_lt_of_le hi (Nat.min_le_left _ _)
        have h7 := g1 i hi2
        rw [List.getElem_take]
        rw [pieceAt l i (by omega)] at h7
        exact h7
      rw [List.singleton_append, List.mem_cons] at hb
      rcases hb with rfl | hb
      · exact ha'
      · have := hdrop b hb
        omega
theorem hasP_iff {l : List S65} (h : storeValid l = true) (t : Int) : hasP l t ↔ ∃ v ∈ l, v.f0 = t := by
  obtain ⟨g1, g2⟩ := posP_spec l t
  have g0 := posP_le l t
  constructor
  · rintro ⟨h1, h2⟩
    refine ⟨_, ?_, h2⟩
    rw [pieceAt l _ h1]
    exact List.getElem_mem _
  · rintro ⟨v, hv, e⟩
    obtain ⟨i, hi, rfl⟩ := List.getElem_of_mem hv
    rw [← pieceAt l i hi] at e
    rcases Nat.lt_trichotomy i (posP l t) with q | q | q
    · have := g1 i q; omega
    · subst q; exact ⟨hi, e⟩
    · have := store_less h _ i q hi
      have := g2 (by omega)
      omega
theorem store_once {l : List S65} (h : storeValid l = true) {v w : S65} (hv : v ∈ l) (hw : w ∈ l) (e : v.f0 = w.f0) : v = w := by
  obtain ⟨i, hi, rfl⟩ := List.getElem_of_mem hv
  obtain ⟨j, hj, rfl⟩ := List.getElem_of_mem hw
  rw [← pieceAt l i hi, ← pieceAt l j hj] at e ⊢
  rcases Nat.lt_trichotomy i j with q | q | q
  · have := store_less h i j q hj; omega
  · rw [q]
  · have := store_less h j i q hi; omega
/-- A text that is there can be put again. -/
theorem putT_again {l : List S65} {s : ByteArray} (h : storeValid l = true) (ht : textValid s = true) (hm : (⟨printOf s, s⟩ : S65) ∈ l) : putT l s = (l, printOf s, true) := by
  have hp : hasP l (printOf s) := (hasP_iff h _).2 ⟨_, hm, rfl⟩
  have e : l.getD (posP l (printOf s)) z65 = ⟨printOf s, s⟩ := store_once h (by rw [pieceAt l _ hp.1]; exact List.getElem_mem _) hm hp.2
  unfold putT
  rw [if_pos h, if_pos ht, if_pos hp, e, if_pos rfl]
theorem putT_ok {l : List S65} {s : ByteArray} (h : (putT l s).2.2 = true) : storeValid l = true ∧ textValid s = true ∧ storeValid (putT l s).1 = true ∧ (⟨printOf s, s⟩ : S65) ∈ (putT l s).1 ∧ (∀ v ∈ l, v ∈ (putT l s).1) ∧ (putT l s).1.length ≤ l.length + 1 ∧ (putT l s).2.1 = printOf s ∧ (∀ v ∈ (putT l s).1, v ∈ l ∨ v = ⟨printOf s, s⟩) := by
  unfold putT at h ⊢
  by_cases h1 : storeValid l = true
  case neg => rw [if_neg h1] at h; simp at h
  by_cases h2 : textValid s = true
  case neg => rw [if_pos h1, if_neg h2] at h; simp at h
  by_cases h3 : hasP l (printOf s)
  · by_cases h4 : (l.getD (posP l (printOf s)) z65).f1 = s
    · rw [if_pos h1, if_pos h2, if_pos h3, if_pos h4]
      refine ⟨h1, h2, h1, ?_, fun v hv => hv, by dsimp only; omega, rfl, fun v hv => Or.inl hv⟩
      have e : l.getD (posP l (printOf s)) z65 = ⟨printOf s, s⟩ := by
        have h5 := h3.2
        generalize l.getD (posP l (printOf s)) z65 = v at h4 h5
        cases v
        simp_all
      rw [← e, pieceAt l _ h3.1]
      exact List.getElem_mem _
    · rw [if_pos h1, if_pos h2, if_pos h3, if_neg h4] at h; simp at h
  · by_cases h4 : l.length = 40
    · rw [if_pos h1, if_pos h2, if_neg h3, if_pos h4] at h; simp at h
    · rw [if_pos h1, if_pos h2, if_neg h3, if_neg h4]
      exact ⟨h1, h2, insP_valid h1 h2 h3 h4, insP_mem.2 (Or.inl rfl), fun v hv => insP_mem.2 (Or.inr hv), by rw [insP_len]; exact Nat.le_refl _, rfl, fun v hv => (insP_mem.1 hv).symm⟩
theorem putT_valid (l : List S65) (s : ByteArray) : storeValid (putT l s).1 = true := by
  by_cases h : (putT l s).2.2 = true
  · exact (putT_ok h).2.2.1
  · unfold putT at h ⊢
    by_cases h1 : storeValid l = true
    · rw [if_pos h1] at h ⊢
      by_cases h2 : textValid s = true
      · rw [if_pos h2] at h ⊢
        by_cases h3 : hasP l (printOf s)
        · rw [if_pos h3]
          split <;> exact h1
        · rw [if_neg h3] at h ⊢
          by_cases h4 : l.length = 40
          · rw [if_pos h4]; exact h1
          · rw [if_neg h4] at h
            simp at h
      · rw [if_neg h2]; exact h1
    · rw [if_neg h1]; decide
/-- What GetText answers. -/
noncomputable def getT (l : List S65) (t : Int) : ByteArray × Bool := open Classical in if storeValid l = true ∧ hasP l t then ((l.getD (posP l t) z65).f1, true) else (⟨#[]⟩, false)
theorem impl_get_ev (l : List S65) (t : Int) (hl : StoreSized l) : Ev (fun k => impl_GetText.f k l t) (getT l t) := by
  unfold impl_GetText.f impl_textOf.f getT
  rw [Ev_bd (impl_store_ev l hl), Ev_ite]
  by_cases h : storeValid l = true
  · rw [if_pos h]
    obtain ⟨r, b, hr, h1, h2, h3, h4⟩ := findPiece_p h t
    have hp : r = posP l t := posP_uniq h1 h2 (fun hlt => h3 r (Nat.le_refl _) hlt)
    have hb : b = true ↔ hasP l t := by unfold hasP; rw [← hp]; exact h4
    by_cases hb1 : b = true
    · have hlt : r < l.length := (h4.1 hb1).1
      refine (Ev_bd (a := ((l.getD r z65).f1, true)) ?_).mpr ?_
      · rw [Ev_bd hr, Ev_pos hb1, Ev_pos (by omega), Ev_pos (by omega), rdPiece]
        exact Ev_some.mpr rfl
      · rw [if_pos ⟨h, hb.1 hb1⟩, ← hp]
        exact Ev_some.mpr rfl
    · refine (Ev_bd (a := ((⟨#[]⟩ : ByteArray), false)) ?_).mpr ?_
      · rw [Ev_bd hr, Ev_neg hb1]
        exact Ev_some.mpr rfl
      · rw [if_neg (fun g => hb1 (hb.2 g.2))]
        exact Ev_some.mpr rfl
  · rw [if_neg h, if_neg (fun g => h g.1)]
    exact Ev_some.mpr rfl
theorem getT_mem {l : List S65} {v : S65} (h : storeValid l = true) (hm : v ∈ l) : getT l v.f0 = (v.f1, true) := by
  have hp : hasP l v.f0 := (hasP_iff h _).2 ⟨v, hm, rfl⟩
  have e : l.getD (posP l v.f0) z65 = v := store_once h (by rw [pieceAt l _ hp.1]; exact List.getElem_mem _) hm hp.2
  unfold getT
  rw [if_pos ⟨h, hp⟩, e]
end Go.Proofs.Ytcbmkonigclceaa.Mod

/- What RecoverStore comes to. -/
namespace Go.Proofs.Ytcbmkonigclceaa.Mod
open Go.RowKit Go.Proofs.Ytcbmkonigclceaa.P Go.Proofs.Ytcbmkonigclceaa.EvK Go.Proofs.YtcbmkonigclceaaW.PrintWords Go.Proofs.YtcbmkonigclceaaW.PrintLast
set_option linter.unusedVariables false
set_option linter.unusedSimpArgs false
noncomputable def recL : List S65 → List ByteArray → List S65 × Bool
  | s, [] => (s, true)
  | s, t :: ts => if (putT s t).2.2 = true then recL (putT s t).1 ts else ([], false)
noncomputable def recS (l : List S39) : List S65 × Bool := if logValid l = true then recL [] (logDone l) else ([], false)
theorem doneL_siz : ∀ (l : List S39) (s : DoneS), (∀ e ∈ l, e.f1.size ≤ 60) → (∀ t ∈ s.1, t.size ≤ 60) → (∀ t ∈ s.2.1, t.size ≤ 60) → ∀ t ∈ (doneL s l).1, t.size ≤ 60
  | [], s, _, h, _ => h
  | e :: l, s, hl, h1, h2 => by
    rw [doneL_cons]
    refine doneL_siz l _ (fun e he => hl e (List.mem_cons_of_mem _ he)) ?_ ?_
    · unfold stepD
      split
      · exact h1
      · split
        · exact h1
        · dsimp only
          split
          · intro t ht
            rcases List.mem_append.1 ht with ht | ht
            · exact h1 t ht
            · exact h2 t ht
          · exact h1
    · unfold stepD
      split
      · intro t ht; simp at ht
      · split
        · dsimp only
          split
          · intro t ht
            rcases List.mem_append.1 ht with ht | ht
            · exact h2 t ht
            · rw [List.mem_singleton.1 ht]; exact hl e List.mem_cons_self
          · exact h2
        · intro t ht; simp at ht
theorem logDone_siz (l : List S39) : ∀ t ∈ logDone l, t.size ≤ 60 := by
  unfold logDone
  split
  · rename_i h
    exact doneL_siz l _ (fun e he => logOk_size ((logValid_mem.1 h).1 e he)) (by simp) (by simp)
  · intro t ht; simp at ht
theorem storeNil : storeValid ([] : List S65) = true := by decide
theorem impl_rec_ev (l : List S39) (hl : LogSized l) : Ev (fun k => impl_RecoverStore.f k l) (recS l) := by
  unfold impl_RecoverStore.f recS
  rw [Ev_bd (impl_log_ev l hl), Ev_ite]
  by_cases h : logValid l = true
  · rw [if_pos h, if_pos h, Ev_bd (impl_done_ev l hl)]
    have hd := (logDone_len l).2
    have hz := logDone_siz l
    generalize logDone l = ts at *
    have key : ∀ n i (s : List S65), i + n = ts.length → storeValid s = true → Ev (fun k => impl_RecoverStore.l0 k s ts (ts.length : Int) (i : Int)) (recL s (ts.drop i)) := by
      intro n
      induction n with
      | zero =>
        intro i s hi hs
        refine Ev_succ.mpr ?_
        simp only [impl_RecoverStore.l0]
        rw [Ev_neg (by omega), List.drop_eq_nil_of_le (by omega)]
        exact Ev_some.mpr rfl
      | succ n ih =>
        intro i s hi hs
        refine Ev_succ.mpr ?_
        have hm : ts.getD i ByteArray.empty ∈ ts := by
          rw [List.getD_eq_getElem?_getD, List.getElem?_eq_getElem (show i < ts.length by omega)]
          exact List.getElem_mem _
        have hsz := hz _ hm
        have h40 := (storeValid_iff.1 hs).1
        simp only [impl_RecoverStore.l0, rdT_nat, w64s i (by omega)]
        rw [Ev_pos (by omega), Ev_pos (by omega), Ev_pos (by omega), Ev_bd (impl_put_ev s _ (storeValid_sized hs) (by omega) (by omega)), drop_cons ts ByteArray.empty i (by omega), recL, Ev_ite]
        by_cases hp : (putT s (ts.getD i ByteArray.empty)).2.2 = true
        · rw [if_pos hp, if_pos hp]
          exact ih (i + 1) _ (by omega) (putT_valid _ _)
        · rw [if_neg hp, if_neg hp]
          exact Ev_some.mpr rfl
    have := key ts.length 0 [] (by omega) storeNil
    simpa using this
  · rw [if_neg h, if_neg h]
    exact Ev_some.mpr rfl
theorem spec_rec_ev (l : List S39) (hl : LogSized l) : Ev (fun k => spec_RecoverStore.f k l) (recS l) := by
  unfold spec_RecoverStore.f
  rw [Ev_bd (spec_done_ev l hl)]
  by_cases h : logValid l = true
  · unfold recS
    rw [if_pos h]
    have hd := (logDone_len l).2
    have hz := logDone_siz l
    generalize logDone l = ts at *
    have key : ∀ n i (s : List S65), i + n = ts.length → storeValid s = true → Ev (fun k => spec_RecoverStore.l0 k l s ts (i : Int)) (recL s (ts.drop i)) := by
      intro n
      induction n with
      | zero =>
        intro i s hi hs
        refine Ev_succ.mpr ?_
        simp only [spec_RecoverStore.l0]
        rw [Ev_neg (by omega), List.drop_eq_nil_of_le (by omega), Ev_bd (spec_log_ev l hl), h]
        exact Ev_some.mpr rfl
      | succ n ih =>
        intro i s hi hs
        refine Ev_succ.mpr ?_
        have hm : ts.getD i ByteArray.empty ∈ ts := by
          rw [List.getD_eq_getElem?_getD, List.getElem?_eq_getElem (show i < ts.length by omega)]
          exact List.getElem_mem _
        have hsz := hz _ hm
        have h40 := (storeValid_iff.1 hs).1
        simp only [spec_RecoverStore.l0, rdT_nat, w64s i (by omega)]
        rw [Ev_pos (by omega), Ev_pos (by omega), Ev_bd (spec_put_ev s _ (storeValid_sized hs) (by omega) (by omega)), drop_cons ts ByteArray.empty i (by omega), recL, Ev_ite]
        by_cases hp : (putT s (ts.getD i ByteArray.empty)).2.2 = true
        · rw [if_pos hp, if_pos hp]
          exact ih (i + 1) _ (by omega) (putT_valid _ _)
        · rw [if_neg hp, if_neg hp]
          exact Ev_some.mpr rfl
    have := key ts.length 0 [] (by omega) storeNil
    simpa using this
  · have e : logDone l = [] := by unfold logDone; rw [if_neg h]
    unfold recS
    rw [e, if_neg h]
    refine Ev_succ.mpr ?_
    simp only [spec_RecoverStore.l0]
    rw [Ev_neg (by simp), Ev_bd (spec_log_ev l hl), (by simpa using h : logValid l = false)]
    exact Ev_some.mpr rfl
theorem recL_valid : ∀ (ts : List ByteArray) (s : List S65), storeValid s = true → storeValid (recL s ts).1 = true
  | [], s, h => h
  | t :: ts, s, h => by
    unfold recL
    split
    · exact recL_valid ts _ (putT_valid _ _)
    · exact storeNil
theorem recL_ok : ∀ (ts : List ByteArray) (s : List S65), storeValid s = true → (recL s ts).2 = true →
    (∀ t ∈ ts, textValid t = true ∧ (⟨printOf t, t⟩ : S65) ∈ (recL s ts).1) ∧ (∀ v ∈ s, v ∈ (recL s ts).1) ∧ (recL s ts).1.length ≤ s.length + ts.length
  | [], s, h, _ => ⟨fun t ht => by simp at ht, fun v hv => hv, by simp [recL]⟩
  | t :: ts, s, h, hok => by
    unfold recL at hok ⊢
    by_cases hp : (putT s t).2.2 = true
    · rw [if_pos hp] at hok ⊢
      obtain ⟨-, p2, p3, p4, p5, p6, -, -⟩ := putT_ok hp
      obtain ⟨q1, q2, q3⟩ := recL_ok ts _ p3 hok
      refine ⟨fun u hu => ?_, fun v hv => q2 v (p5 v hv), by simp only [List.length_cons]; omega⟩
      rcases List.mem_cons.1 hu with rfl | hu
      · exact ⟨p2, q2 _ p4⟩
      · exact q1 u hu
    · rw [if_neg hp] at hok
      simp at hok
theorem recS_len (l : List S39) : (recS l).1.length ≤ 40 := by
  unfold recS
  split
  · exact (storeValid_iff.1 (recL_valid _ _ storeNil)).1
  · simp
end Go.Proofs.Ytcbmkonigclceaa.Mod

/- What samePieces comes to. -/
namespace Go.Proofs.Ytcbmkonigclceaa.Mod
open Go.RowKit Go.Proofs.Ytcbmkonigclceaa.P Go.Proofs.Ytcbmkonigclceaa.EvK Go.Proofs.YtcbmkonigclceaaW.PrintWords Go.Proofs.YtcbmkonigclceaaW.PrintLast
set_option linter.unusedVariables false
set_option linter.unusedSimpArgs false
theorem samePieces_ev (a b : List S65) (ha : a.length ≤ 9223372036854775807) : Ev (fun k => laws_samePieces.f k a b) (eqb a b) := by
  unfold laws_samePieces.f
  rw [Ev_ite]
  by_cases h : (a.length : Int) = (b.length : Int)
  · rw [if_pos h]
    refine ev_eqS a b z65 (fun k i => laws_samePieces.l0 k a b i) (by omega) ?_ ?_
    · intro i hi r hr
      refine Ev_succ.mpr ?_
      simp only [laws_samePieces.l0, rdPiece, w64s i (by omega), Ev_ite]
      rw [if_pos (by omega), if_pos (by omega), if_pos (by omega)]
      generalize a.getD i z65 = x at hr ⊢
      generalize b.getD i z65 = y at hr ⊢
      by_cases he : x = y
      · rw [if_pos (eqb_iff.2 he)] at hr
        subst he
        rw [if_neg (by simp)]
        exact hr
      · rw [if_neg (fun g => he (eqb_iff.1 g))] at hr
        rw [if_pos]
        · exact Ev_some.mpr hr
        · obtain ⟨x0, x1⟩ := x
          obtain ⟨y0, y1⟩ := y
          by_cases g0 : x0 = y0 <;> by_cases g2 : x1.toList = y1.toList
          all_goals first | (have := toList_iff.1 g2; exact absurd (by rw [g0, this]) he) | simp [g0, g2]
    · refine Ev_succ.mpr ?_
      simp only [laws_samePieces.l0, Ev_ite]
      rw [if_neg (by omega)]
      exact Ev_some.mpr rfl
  · rw [if_neg h, eqb_ne (fun e => h (by rw [e]))]
    exact Ev_some.mpr rfl
end Go.Proofs.Ytcbmkonigclceaa.Mod
