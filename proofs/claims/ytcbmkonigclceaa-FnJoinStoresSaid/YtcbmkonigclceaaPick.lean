/- The reader that draws numbers: every number it gives lies in its bounds, and its place moves on by one. -/
import Derived.Test.YtcbmkonigclceaaPx0
import Derived.Test.YtcbmkonigclceaaEv
import Derived.Laws.BitsLemmas
namespace Go.Proofs.Ytcbmkonigclceaa.Mod
open Go.RowKit Go.Proofs.Ytcbmkonigclceaa.P Go.Proofs.Ytcbmkonigclceaa.EvK Go.Proofs.YtcbmkonigclceaaW.PrintWords Go.Proofs.YtcbmkonigclceaaW.PrintLast
set_option linter.all false
theorem xor64 (a b : Int) (ha : 0 ≤ a) (ha' : a < 1099511627776) (hb : 0 ≤ b) (hb' : b < 1099511627776) : ∃ c : Nat, Go.bits .xor .i64 a b = (c : Int) ∧ c < 1099511627776 := by
 obtain ⟨a, rfl⟩ := Int.eq_ofNat_of_zero_le ha
 obtain ⟨b, rfl⟩ := Int.eq_ofNat_of_zero_le hb
 have h : a ^^^ b < 2 ^ 40 := Nat.xor_lt_two_pow (by omega) (by omega)
 have h1 : (BitVec.ofInt 64 (a : Int)).toNat = a := by
  rw [BitVec.ofInt_natCast, BitVec.toNat_ofNat]; exact Nat.mod_eq_of_lt (by omega)
 have h2 : (BitVec.ofInt 64 (b : Int)).toNat = b := by
  rw [BitVec.ofInt_natCast, BitVec.toNat_ofNat]; exact Nat.mod_eq_of_lt (by omega)
 refine ⟨a ^^^ b, ?_, h⟩
 show IntKind.i64.wrap ((BitVec.ofInt 64 (a : Int) ^^^ BitVec.ofInt 64 (b : Int)).toNat : Int) = _
 rw [BitVec.toNat_xor, h1, h2, IntKind.wrap_i64]
 omega
theorem wf_u8 {z : Int} (h : (Lit.int .u8 z).wf = true) : 0 ≤ z ∧ z ≤ 255 := by
 simpa [Lit.wf, IntKind.min, IntKind.max, IntKind.signed, IntKind.bits] using h
theorem wf_i64 {z : Int} (h : (Lit.int .i64 z).wf = true) : -9223372036854775808 ≤ z ∧ z ≤ 9223372036854775807 := by
 simpa [Lit.wf, IntKind.min, IntKind.max, IntKind.signed, IntKind.bits] using h
structure RdOk (b : List Int) (p : Int) : Prop where
 bytes : ∀ x ∈ b, 0 ≤ x ∧ x ≤ 255
 len : b.length ≤ 2000
 lo : 0 ≤ p
 hi : p ≤ 1000000
theorem RdOk.next {b : List Int} {p : Int} (h : RdOk b p) (hp : p + 1 ≤ 1000000) : RdOk b (p + 1) := ⟨h.bytes, h.len, by have := h.lo; omega, hp⟩
theorem RdOk.to {b : List Int} {p q : Int} (h : RdOk b p) (h0 : p ≤ q) (hq : q ≤ 1000000) : RdOk b q := ⟨h.bytes, h.len, by have := h.lo; omega, hq⟩
theorem tmod_in (x n : Int) (hx : 0 ≤ x) (hn : 1 ≤ n) : 0 ≤ Int.tmod x n ∧ Int.tmod x n < n := by
 rw [Int.tmod_eq_emod_of_nonneg hx]
 exact ⟨Int.emod_nonneg _ (by omega), Int.emod_lt_of_pos _ (by omega)⟩
theorem rd_in {b : List Int} (hb : ∀ x ∈ b, 0 ≤ x ∧ x ≤ 255) (i : Int) : 0 ≤ rd b i ∧ rd b i ≤ 255 := by
 unfold rd
 rw [List.getD_eq_getElem?_getD]
 cases h : b[i.toNat]? with
 | none => simp
 | some x => exact hb x (List.mem_of_getElem? h)
theorem pick_ev {b : List Int} {p : Int} (h : RdOk b p) (n : Int) (hn : n ≤ 1000000) : ∃ v, Ev (fun k => spec_l20Rd_pick.f k b p n) (v, p + 1) ∧ (1 ≤ n → 0 ≤ v ∧ v < n) ∧ (n < 1 → v = 0) := by
 have hlo := h.lo
 have hhi := h.hi
 have hlen := h.len
 unfold spec_l20Rd_pick.f
 rw [w64 (x := p + 1) (by omega) (by omega)]
 have ht : Ev (fun k => spec_l20Rd_pick.j0 k n true b (p + 1)) (0, p + 1) := by
  refine Ev_succ.mpr ?_
  simp [spec_l20Rd_pick.j0, Ev_some]
 by_cases h1 : n < 1
 ·exact ⟨0, by simp only [if_pos h1]; exact ht, fun h => by omega, fun _ => rfl⟩
 simp only [if_neg h1]
 by_cases hz : (b.length : Int) = 0
 ·exact ⟨0, by rw [hz]; exact ht, fun _ => by omega, fun _ => rfl⟩
 have hb0 : ((b.length : Int) == 0) = false := by simpa using hz
 rw [hb0]
 have hp : p + 1 - 1 = p := by omega
 by_cases hlt : p < (b.length : Int)
 ·have hr := rd_in h.bytes p
  have hm := tmod_in (rd b p) n hr.1 (by omega)
  refine ⟨Int.tmod (rd b p) n, ?_, fun _ => hm, fun h => by omega⟩
  refine Ev_succ.mpr ?_
  simp only [spec_l20Rd_pick.j0, hp, Bool.false_eq_true, if_false, w64 (x := p) (by omega) (by omega), w64 (x := rd b p) (by omega) (by omega), Ev_ite]
  rw [if_pos hlt, if_pos hlo, if_neg (by omega)]
  exact Ev_some.mpr rfl
 ·have hL : 1 ≤ (b.length : Int) := by omega
  have m1 := tmod_in p b.length hlo hL
  have m2 := tmod_in (p * 7 + 3) b.length (by omega) hL
  have r1 := rd_in h.bytes (Int.tmod p b.length)
  have r2 := rd_in h.bytes (Int.tmod (p * 7 + 3) b.length)
  have d1 : Int.tdiv p b.length = p / b.length := Int.tdiv_eq_ediv_of_nonneg hlo
  have d2 : 0 ≤ p / (b.length : Int) := Int.ediv_nonneg hlo (by omega)
  have d3 : p / (b.length : Int) ≤ p := Int.ediv_le_self _ hlo
  obtain ⟨x, hx⟩ : ∃ x, x = rd b (Int.tmod p b.length) * 131 + rd b (Int.tmod (p * 7 + 3) b.length) * 1117 + p * 29 + p / (b.length : Int) * 53 := ⟨_, rfl⟩
  have hx0 : 0 ≤ x := by rw [hx]; omega
  have hx1 : x < 1099511627776 := by rw [hx]; omega
  have d4 : Int.tdiv x 64 = x / 64 := Int.tdiv_eq_ediv_of_nonneg hx0
  obtain ⟨c, hc, hcl⟩ := xor64 x (x / 64) hx0 hx1 (by omega) (by omega)
  have hm := tmod_in (c : Int) n (by omega) (by omega)
  refine ⟨Int.tmod c n, ?_, fun _ => hm, fun h => by omega⟩
  refine Ev_succ.mpr ?_
  simp only [spec_l20Rd_pick.j0, hp, Bool.false_eq_true, if_false, w64 (x := p) (by omega) (by omega), w64 (x := p * 7) (by omega) (by omega), w64 (x := p * 7 + 3) (by omega) (by omega), d1, Ev_ite]
  rw [if_neg hlt, if_neg hz, if_pos m1.1, if_pos m1.2, if_pos m2.1, if_pos m2.2, if_neg (by omega)]
  rw [w64 (x := rd b (Int.tmod p b.length)) (by omega) (by omega), w64 (x := rd b (Int.tmod (p * 7 + 3) b.length)) (by omega) (by omega)]
  rw [w64 (x := rd b (Int.tmod p b.length) * 131) (by omega) (by omega), w64 (x := rd b (Int.tmod (p * 7 + 3) b.length) * 1117) (by omega) (by omega), w64 (x := p * 29) (by omega) (by omega), w64 (x := p / (b.length : Int)) (by omega) (by omega), w64 (x := p / (b.length : Int) * 53) (by omega) (by omega)]
  rw [w64 (x := rd b (Int.tmod p b.length) * 131 + rd b (Int.tmod (p * 7 + 3) b.length) * 1117) (by omega) (by omega), w64 (x := rd b (Int.tmod p b.length) * 131 + rd b (Int.tmod (p * 7 + 3) b.length) * 1117 + p * 29) (by omega) (by omega), ← hx]
  rw [w64 (x := x) (by omega) (by omega), d4, w64 (x := x / 64) (by omega) (by omega), hc]
  exact Ev_some.mpr rfl
theorem pick_p {b : List Int} {p : Int} (h : RdOk b p) (n : Int) (hn : n ≤ 1000000) : EvP (fun k => spec_l20Rd_pick.f k b p n) (fun r => r.2 = p + 1 ∧ (1 ≤ n → 0 ≤ r.1 ∧ r.1 < n) ∧ (n < 1 → r.1 = 0)) := by
 obtain ⟨v, hv, h1, h2⟩ := pick_ev h n hn
 exact ⟨_, hv, rfl, h1, h2⟩
theorem open_ev (l : List Int) (hl : ∀ x ∈ l, 0 ≤ x ∧ x ≤ 255) : ∃ b, spec_l20Open.f l = some (b, 0) ∧ RdOk b 0 := by
 unfold spec_l20Open.f
 by_cases h : (l.length : Int) > 2000
 ·rw [if_pos h, if_pos (by omega)]
  exact ⟨_, rfl, fun x hx => hl x (List.mem_of_mem_take hx), by rw [List.length_take]; omega, by omega, by omega⟩
 ·rw [if_neg h]
  exact ⟨_, rfl, hl, by omega, by omega, by omega⟩
end Go.Proofs.Ytcbmkonigclceaa.Mod
