/- What HexText and ReadHex come to. -/
import Derived.Test.YtcbmkonigclceaaPx2
import Derived.Test.YtcbmkonigclceaaPx3
import Derived.Test.YtcbmkonigclceaaBase
import Derived.Test.YtcbmkonigclceaaTEntry
import Derived.Test.YtcbmkonigclceaaHex
namespace Go.Proofs.Ytcbmkonigclceaa.Mod
open Go.RowKit Go.Proofs.Ytcbmkonigclceaa.P Go.Proofs.Ytcbmkonigclceaa.EvK Go.Proofs.YtcbmkonigclceaaW.PrintWords Go.Proofs.YtcbmkonigclceaaW.PrintLast
set_option linter.all false
def hexT (n : Int) : ByteArray := if inB n 0 16777212 = true then hexB n.toNat else (⟨#[]⟩ : ByteArray)
theorem hexT_in {n : Int} (h : 0 ≤ n ∧ n ≤ 16777212) : hexT n = hexB n.toNat := by
 unfold hexT
 rw [if_pos (inB_iff.2 h)]
def D16 : ByteArray := ⟨#[48, 49, 50, 51, 52, 53, 54, 55, 56, 57, 97, 98, 99, 100, 101, 102]⟩
theorem D16_at : ∀ j : Fin 16, D16.extract j.val (j.val + 1) = (⟨#[hd j.val]⟩ : ByteArray) := by decide
theorem hexB_small {n : Nat} (h : n < 16) : hexB n = (⟨#[hd n]⟩ : ByteArray) := by
 unfold hexB
 rw [hexL_small h]
theorem ba_app (a b : List UInt8) : (⟨a.toArray⟩ : ByteArray) ++ (⟨b.toArray⟩ : ByteArray) = (⟨(a ++ b).toArray⟩ : ByteArray) := by
 apply ByteArray.ext
 simp [ByteArray.data_append]
theorem ba_size (a : List UInt8) : (⟨a.toArray⟩ : ByteArray).size = a.length := by simp [ByteArray.size]
theorem spec_hex_ev (n : Int) : Ev (fun k => spec_HexText.f k n) (hexT n) := by
 unfold spec_HexText.f hexT
 rw [Ev_b0 (l1In_eq _ _ _), Ev_ite]
 by_cases h : inB n 0 16777212 = true
 ·have h' := inB_iff.1 h
  obtain ⟨m, rfl⟩ : ∃ m : Nat, n = m := ⟨n.toNat, by omega⟩
  have hm : m ≤ 16777212 := by omega
  have key : ∀ d (m : Nat) (acc : List UInt8), m < 16 ^ (d + 1) → m ≤ 16777212 → acc.length ≤ 1000 - d →  d ≤ 20 → Ev (fun k => spec_HexText.l0 k (m : Int) D16 ⟨acc.toArray⟩) (if m < 16 then (⟨acc.toArray⟩ : ByteArray) else ⟨(hexL (m / 16) ++ acc).toArray⟩) := by
   intro d
   induction d with
   | zero =>
    intro m acc h1 h2 h3 h4
    rw [if_pos (by omega)]
    refine Ev_succ.mpr ?_
    simp only [spec_HexText.l0]
    rw [Ev_neg (by omega)]
    exact Ev_some.mpr rfl
   | succ d ih =>
    intro m acc h1 h2 h3 h4
    refine Ev_succ.mpr ?_
    simp only [spec_HexText.l0]
    by_cases hs : m < 16
    ·rw [if_pos hs, Ev_neg (by omega)]
     exact Ev_some.mpr rfl
    ·rw [if_neg hs, Ev_pos (by omega)]
     have e1 : Int.tdiv (m : Int) 16 = ((m / 16 : Nat) : Int) := by
      rw [Int.tdiv_eq_ediv_of_nonneg (by omega)]
      omega
     have e2 : Int.tmod ((m / 16 : Nat) : Int) 16 = ((m / 16 % 16 : Nat) : Int) := by
      rw [Int.tmod_eq_emod_of_nonneg (by omega)]
      omega
     rw [e1, w64 (x := ((m / 16 : Nat) : Int)) (by omega) (by omega), e2, w64s _ (by omega)]
     simp only [Int.toNat_natCast]
     have e3 : D16.extract (m / 16 % 16) (m / 16 % 16 + 1) = (⟨#[hd (m / 16 % 16)]⟩ : ByteArray) := D16_at ⟨m / 16 % 16, by omega⟩
     have hD : D16.size = 16 := rfl
     rw [e3, Ev_pos (by omega), Ev_pos (by omega), Ev_pos (by rw [hD]; omega), Ev_pos (by rw [show (⟨#[hd (m / 16 % 16)]⟩ : ByteArray).size = 1 from rfl, ba_size]; omega)]
     have e4 : (⟨#[hd (m / 16 % 16)]⟩ : ByteArray) ++ (⟨acc.toArray⟩ : ByteArray) = (⟨(hd (m / 16 % 16) :: acc).toArray⟩ : ByteArray) := ba_app [hd (m / 16 % 16)] acc
     rw [e4]
     have := ih (m / 16) (hd (m / 16 % 16) :: acc) (by rw [Nat.pow_succ] at h1; omega) (by omega) (by simp; omega) (by omega)
     by_cases hs2 : m / 16 < 16
     ·rw [if_pos hs2] at this
      rw [hexL_small hs2, List.singleton_append]
      rw [Nat.mod_eq_of_lt hs2] at this ⊢
      exact this
     ·rw [if_neg hs2] at this
      rw [hexL_big hs2, List.append_assoc, List.singleton_append]
      exact this
  have e2 : Int.tmod (m : Int) 16 = ((m % 16 : Nat) : Int) := by
   rw [Int.tmod_eq_emod_of_nonneg (by omega)]
   omega
  rw [if_pos h, if_pos h, e2, w64s _ (by omega)]
  simp only [Int.toNat_natCast]
  rw [Ev_pos (by omega), Ev_pos (by omega), Ev_pos (by omega)]
  have e3 : (⟨#[48, 49, 50, 51, 52, 53, 54, 55, 56, 57, 97, 98, 99, 100, 101, 102]⟩ : ByteArray).extract (m % 16) (m % 16 + 1) = (⟨[hd (m % 16)].toArray⟩ : ByteArray) := D16_at ⟨m % 16, by omega⟩
  rw [e3]
  have := key 6 m [hd (m % 16)] (by omega) hm (by simp) (by omega)
  by_cases hs : m < 16
  ·rw [if_pos hs] at this
   rw [hexB_small hs]
   rw [Nat.mod_eq_of_lt hs] at this ⊢
   exact this
  ·rw [if_neg hs] at this
   unfold hexB
   rw [hexL_big hs]
   exact this
 ·rw [if_neg h, if_neg h]
  exact Ev_some.mpr rfl
open Classical in
noncomputable def readHex (s : ByteArray) : Int := if h : ∃ n : Nat, n ≤ 16777212 ∧ s = hexB n then (h.choose : Int) else -1
theorem hexB_inj {n m : Nat} (h : hexB n = hexB m) : n = m := by
 unfold hexB at h
 have := congrArg (fun x => x.data.toList) h
 exact hexL_inj (by simpa using this)
theorem readHex_hexB {n : Nat} (h : n ≤ 16777212) : readHex (hexB n) = n := by
 have hex : ∃ m : Nat, m ≤ 16777212 ∧ hexB n = hexB m := ⟨n, h, rfl⟩
 unfold readHex
 rw [dif_pos hex]
 have := hexB_inj hex.choose_spec.2
 omega
theorem readHex_none {s : ByteArray} (h : ∀ n : Nat, n ≤ 16777212 → s ≠ hexB n) : readHex s = -1 := by
 unfold readHex
 rw [dif_neg (fun ⟨n, hn, e⟩ => h n hn e)]
theorem readHex_in (s : ByteArray) : -1 ≤ readHex s ∧ readHex s ≤ 16777212 := by
 unfold readHex
 split
 ·rename_i h
  have := h.choose_spec.1
  omega
 ·omega
def byteAt (s : ByteArray) (i : Nat) : UInt8 := s.data.toList.getD i 0
theorem bt_byte (s : ByteArray) (i : Nat) (h : i < s.size) : bt s (i : Int) = ((byteAt s i).toNat : Int) := by
 rw [bt_getD]
 unfold byteAt bytesOf
 have hl : i < s.data.toList.length := by simpa using h
 rw [List.getD_eq_getElem?_getD, List.getElem?_map, List.getElem?_eq_getElem hl, List.getD_eq_getElem?_getD, List.getElem?_eq_getElem hl]
 rfl
theorem hexV_take (l : List UInt8) (i : Nat) (h : i < l.length) : hexV (l.take (i + 1)) = hexV (l.take i) * 16 + dv (l.getD i 0) := by
 have e : l.take (i + 1) = l.take i ++ [l.getD i 0] := by
  rw [List.getD_eq_getElem?_getD, List.getElem?_eq_getElem h, Option.getD_some]
  rw [List.take_add_one, List.getElem?_eq_getElem h, Option.toList_some]
 rw [e, hexV_snoc]
theorem hexV_lt : ∀ (l : List UInt8), (∀ c ∈ l, isHx c = true) → hexV l < 16 ^ l.length := by
 intro l
 have : ∀ (n : Nat) (l : List UInt8), l.length = n → (∀ c ∈ l, isHx c = true) → hexV l < 16 ^ n := by
  intro n
  induction n with
  | zero => intro l hl _; rw [List.length_eq_zero_iff.1 hl]; simp [hexV]
  | succ n ih =>
   intro l hl hc
   have e := List.dropLast_concat_getLast (l := l) (by intro h; rw [h] at hl; simp at hl)
   rw [← e, hexV_snoc]
   have h1 := ih l.dropLast (by simp; omega) (fun c hm => hc c (List.dropLast_subset _ hm))
   have h2 := hc (l.getLast (by intro h; rw [h] at hl; simp at hl)) (List.getLast_mem _)
   have h3 : dv (l.getLast (by intro h; rw [h] at hl; simp at hl)) < 16 := by
    unfold isHx at h2
    unfold dv
    simp only [Bool.or_eq_true, Bool.and_eq_true, decide_eq_true_eq] at h2
    split <;> omega
   rw [Nat.pow_succ]
   omega
 exact this l.length l rfl
theorem readHex_val {s : ByteArray} {v : Nat} (hv : v = hexV (s.data.toList.take 7)) : readHex s = if hexT v = s ∧ s ≠ (⟨#[]⟩ : ByteArray) then (v : Int) else -1 := by
 by_cases h : hexT v = s ∧ s ≠ (⟨#[]⟩ : ByteArray)
 ·rw [if_pos h]
  by_cases hr : inB (v : Int) 0 16777212 = true
  ·have hr' := inB_iff.1 hr
   rw [← h.1, hexT_in hr', Int.toNat_natCast, readHex_hexB (by omega)]
  ·exfalso
   apply h.2
   rw [← h.1]
   unfold hexT
   rw [if_neg hr]
 ·rw [if_neg h]
  refine readHex_none (fun n hn e => h ⟨?_, ?_⟩)
  ·have hl := hexL_len 5 n (by omega)
   have e2 : s.data.toList = hexL n := by rw [e]; simp [hexB]
   rw [e2, List.take_of_length_le (by omega), hexV_hexL] at hv
   rw [hv, hexT_in (by omega), Int.toNat_natCast, e]
  ·intro e3
   have hl := hexL_pos n
   have e2 : s.data.toList = hexL n := by rw [e]; simp [hexB]
   rw [e3] at e2
   rw [← e2] at hl
   simp at hl
theorem readHex_bad {s : ByteArray} {i : Nat} (hi : i < s.size) (h : isHx (byteAt s i) = false) : readHex s = -1 := by
 refine readHex_none (fun n hn e => ?_)
 have e2 : s.data.toList = hexL n := by rw [e]; simp [hexB]
 have hl : i < s.data.toList.length := by simpa using hi
 have hm : byteAt s i ∈ hexL n := by
  unfold byteAt
  rw [List.getD_eq_getElem?_getD, List.getElem?_eq_getElem hl, Option.getD_some, ← e2]
  exact List.getElem_mem hl
 rw [hexL_hx n _ hm] at h
 simp at h
theorem dig_lo {c : UInt8} (h : 48 ≤ (c.toNat : Int) ∧ (c.toNat : Int) ≤ 57) : isHx c = true ∧ ((c.toNat : Int) - 48) % 256 = (dv c : Int) := by
 unfold isHx dv
 constructor
 ·simp only [Bool.or_eq_true, Bool.and_eq_true, decide_eq_true_eq]; omega
 ·rw [if_pos (by omega)]; omega
theorem dig_hi {c : UInt8} (h : 97 ≤ (c.toNat : Int) ∧ (c.toNat : Int) ≤ 102) : isHx c = true ∧ ((c.toNat : Int) - 97) % 256 + 10 = (dv c : Int) := by
 unfold isHx dv
 constructor
 ·simp only [Bool.or_eq_true, Bool.and_eq_true, decide_eq_true_eq]; omega
 ·rw [if_neg (by omega)]; omega
theorem dig_no {c : UInt8} (h : ¬ (48 ≤ (c.toNat : Int) ∧ (c.toNat : Int) ≤ 57)) (g : ¬ (97 ≤ (c.toNat : Int) ∧ (c.toNat : Int) ≤ 102)) : isHx c = false := by
 unfold isHx
 rw [Bool.eq_false_iff]
 simp only [ne_eq, Bool.or_eq_true, Bool.and_eq_true, decide_eq_true_eq]
 omega
theorem dv_le {c : UInt8} (h : isHx c = true) : dv c < 16 := by
 unfold isHx at h
 unfold dv
 simp only [Bool.or_eq_true, Bool.and_eq_true, decide_eq_true_eq] at h
 split <;> omega
theorem hexV_le7 (l : List UInt8) (i : Nat) (hi : i ≤ 7) (h : ∀ c ∈ l.take i, isHx c = true) : hexV (l.take i) < 268435456 := by
 have h1 := hexV_lt _ h
 have h2 : (l.take i).length ≤ 7 := by rw [List.length_take]; omega
 have h3 : 16 ^ (l.take i).length ≤ 16 ^ 7 := Nat.pow_le_pow_right (by omega) h2
 omega
theorem spec_readHex_ev (s : ByteArray) (hs : s.size ≤ 9223372036854775807) : Ev (fun k => spec_ReadHex.f k s) (readHex s) := by
 have hlen : s.data.toList.length = s.size := by simp
 unfold spec_ReadHex.f
 have hfin : ∀ i : Nat, i ≤ s.size → (i = s.size ∨ i = 7) → i ≤ 7 → Ev (fun k => spec_ReadHex.j1 k s (hexV (s.data.toList.take i) : Int) (i : Int) false) (readHex s) := by
  intro i hi h7 hi7
  refine Ev_succ.mpr ?_
  simp only [spec_ReadHex.j1]
  rw [Ev_neg (by simp), readHex_val (v := hexV (s.data.toList.take i)) (by
   rcases h7 with h7 | h7
   ·rw [List.take_of_length_le (by omega), List.take_of_length_le (by omega)]
   ·rw [h7]), Ev_ite]
  by_cases he : s = (⟨#[]⟩ : ByteArray)
  ·rw [if_pos (toList_nil.2 he), if_neg (fun g => g.2 he)]
   exact Ev_some.mpr rfl
  ·rw [if_neg (fun g => he (toList_nil.1 g)), Ev_bd (spec_hex_ev _), Ev_ite]
   by_cases h : hexT (hexV (s.data.toList.take i)) = s
   ·rw [if_pos (by rw [h]), if_pos ⟨h, he⟩]
    exact Ev_some.mpr rfl
   ·rw [if_neg (fun g => h (toList_iff.1 g)), if_neg (fun g => h g.1)]
    exact Ev_some.mpr rfl
 have key : ∀ d i, i + d = min s.size 7 → (∀ c ∈ s.data.toList.take i, isHx c = true) → Ev (fun k => spec_ReadHex.l0 k s (hexV (s.data.toList.take i) : Int) (i : Int)) (readHex s) := by
  intro d
  induction d with
  | zero =>
   intro i hi hc
   refine Ev_succ.mpr ?_
   simp only [spec_ReadHex.l0]
   rw [Ev_ite]
   by_cases hlt : (i : Int) < s.size
   ·rw [if_pos hlt, decide_eq_false (by omega)]
    exact hfin i (by omega) (by omega) (by omega)
   ·rw [if_neg hlt]
    exact hfin i (by omega) (by omega) (by omega)
  | succ d ih =>
   intro i hi hc
   have hv := hexV_le7 s.data.toList i (by omega) hc
   refine Ev_succ.mpr ?_
   simp only [spec_ReadHex.l0]
   rw [Ev_pos (by omega), decide_eq_true (by omega)]
   have nxt : isHx (byteAt s i) = true → ∀ r, Ev (fun k => spec_ReadHex.l0 k s ((hexV (s.data.toList.take i) * 16 + dv (byteAt s i) : Nat) : Int) ((i + 1 : Nat) : Int)) r ↔ r = readHex s := by
    intro hx r
    have h3 := ih (i + 1) (by omega) (fun c hm => by
     have e : s.data.toList.take (i + 1) = s.data.toList.take i ++ [byteAt s i] := by
      unfold byteAt
      rw [List.getD_eq_getElem?_getD, List.getElem?_eq_getElem (show i < s.data.toList.length by omega), Option.getD_some, List.take_add_one, List.getElem?_eq_getElem (show i < s.data.toList.length by omega), Option.toList_some]
     rw [e] at hm
     rcases List.mem_append.1 hm with hm | hm
     ·exact hc c hm
     ·rw [List.mem_singleton.1 hm]; exact hx)
    rw [hexV_take _ _ (by omega)] at h3
    constructor
    ·intro g
     exact Ev_uniq g h3
    ·intro e
     rw [e]
     exact h3
   refine Ev_succ.mpr ?_
   simp only [spec_ReadHex.j1, bt_byte s i (by omega)]
   rw [Ev_pos (by simp), Ev_pos (by omega), Ev_pos (by omega)]
   have hlo : (48 ≤ ((byteAt s i).toNat : Int) ∧ ((byteAt s i).toNat : Int) ≤ 57) → Ev (fun k => spec_ReadHex.j2 k s (hexV (s.data.toList.take i) : Int) (i : Int) true) (readHex s) := by
    intro hd
    obtain ⟨hx, he⟩ := dig_lo hd
    have := dv_le hx
    refine Ev_succ.mpr ?_
    simp only [spec_ReadHex.j2, bt_byte s i (by omega), w64s i (by omega)]
    rw [Ev_pos (by simp), Ev_pos (by omega), Ev_pos (by omega), he, w64 (x := 16 * (hexV (s.data.toList.take i) : Int)) (by omega) (by omega), w64 (by omega) (by omega), show 16 * (hexV (s.data.toList.take i) : Int) + (dv (byteAt s i) : Int) = ((hexV (s.data.toList.take i) * 16 + dv (byteAt s i) : Nat) : Int) by omega]
    exact (nxt hx _).mpr rfl
   have hhi : ¬ (48 ≤ ((byteAt s i).toNat : Int) ∧ ((byteAt s i).toNat : Int) ≤ 57) → Ev (fun k => spec_ReadHex.j2 k s (hexV (s.data.toList.take i) : Int) (i : Int) false) (readHex s) := by
    intro hd
    refine Ev_succ.mpr ?_
    simp only [spec_ReadHex.j2, bt_byte s i (by omega), w64s i (by omega)]
    rw [Ev_neg (by simp), Ev_pos (by omega), Ev_pos (by omega)]
    by_cases hh : 97 ≤ ((byteAt s i).toNat : Int) ∧ ((byteAt s i).toNat : Int) ≤ 102
    ·obtain ⟨hx, he⟩ := dig_hi hh
     have := dv_le hx
     have hb : 0 ≤ (((byteAt s i).toNat : Int) - 97) % 256 ∧ (((byteAt s i).toNat : Int) - 97) % 256 < 256 := by omega
     rw [Ev_pos (by omega), Ev_pos (by omega), w64 (x := 16 * (hexV (s.data.toList.take i) : Int)) (by omega) (by omega), w64 (x := 16 * (hexV (s.data.toList.take i) : Int) + _) (by omega) (by omega), w64 (by omega) (by omega), show 16 * (hexV (s.data.toList.take i) : Int) + (((byteAt s i).toNat : Int) - 97) % 256 + 10 = ((hexV (s.data.toList.take i) * 16 + dv (byteAt s i) : Nat) : Int) by omega]
     exact (nxt hx _).mpr rfl
    ·rw [readHex_bad (i := i) (by omega) (dig_no hd hh), Ev_ite]
     split
     ·rw [Ev_neg (by omega)]
      exact Ev_some.mpr rfl
     ·exact Ev_some.mpr rfl
   rw [Ev_ite]
   by_cases hd : 48 ≤ ((byteAt s i).toNat : Int) ∧ ((byteAt s i).toNat : Int) ≤ 57
   ·rw [if_pos (by omega), decide_eq_true hd.2]
    exact hlo hd
   ·split
    ·rw [decide_eq_false (by omega)]
     exact hhi hd
    ·exact hhi hd
 have := key (min s.size 7) 0 (by omega) (by simp)
 rw [List.take_zero] at this
 exact this
end Go.Proofs.Ytcbmkonigclceaa.Mod
