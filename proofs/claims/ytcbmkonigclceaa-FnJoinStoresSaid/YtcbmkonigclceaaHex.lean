/- What Go's library computes for the program's texts: digits in base 16, cutting and joining; and plain laws on it. Plain Lean; no program in it. -/
import Derived.Lib.IndexMore
import Derived.Lib.Join
import Derived.Lib.Split
import Derived.Lib.CutLaws
namespace Go.Proofs.Ytcbmkonigclceaa
open Go
set_option linter.unusedVariables false
set_option linter.unusedSimpArgs false
/-- The digit of a number below 16. -/
def hd (n : Nat) : UInt8 := if n < 10 then UInt8.ofNat (48 + n) else UInt8.ofNat (87 + n)
/-- The digits of a number in base 16. -/
def hexL (n : Nat) : List UInt8 := if n < 16 then [hd n] else hexL (n / 16) ++ [hd (n % 16)]
termination_by n
decreasing_by omega
def dv (c : UInt8) : Nat := if c.toNat < 58 then c.toNat - 48 else c.toNat - 87
def isHx (c : UInt8) : Bool := (48 ≤ c.toNat && c.toNat ≤ 57) || (97 ≤ c.toNat && c.toNat ≤ 102)
def hexV (l : List UInt8) : Nat := l.foldl (fun a c => a * 16 + dv c) 0
theorem hd_toNat (n : Nat) (h : n < 16) : (hd n).toNat = if n < 10 then 48 + n else 87 + n := by
  unfold hd
  split <;> (rw [UInt8.toNat_ofNat']; omega)
theorem dv_hd (n : Nat) (h : n < 16) : dv (hd n) = n := by
  unfold dv
  rw [hd_toNat n h]
  split <;> split <;> omega
theorem isHx_hd (n : Nat) (h : n < 16) : isHx (hd n) = true := by
  unfold isHx
  rw [hd_toNat n h]
  simp only [Bool.or_eq_true, Bool.and_eq_true, decide_eq_true_eq]
  split <;> omega
theorem hexL_small {n : Nat} (h : n < 16) : hexL n = [hd n] := by rw [hexL, if_pos h]
theorem hexL_big {n : Nat} (h : ¬ n < 16) : hexL n = hexL (n / 16) ++ [hd (n % 16)] := by rw [hexL, if_neg h]
theorem hexV_snoc (l : List UInt8) (c : UInt8) : hexV (l ++ [c]) = hexV l * 16 + dv c := by simp [hexV]
theorem hexV_hexL : ∀ n, hexV (hexL n) = n := by
  intro n
  induction n using Nat.strongRecOn with
  | _ n ih =>
    by_cases h : n < 16
    · rw [hexL_small h]
      simp [hexV, dv_hd n h]
    · rw [hexL_big h, hexV_snoc, ih (n / 16) (by omega), dv_hd _ (by omega)]
      omega
theorem hexL_hx : ∀ n, ∀ c ∈ hexL n, isHx c = true := by
  intro n
  induction n using Nat.strongRecOn with
  | _ n ih =>
    intro c hc
    by_cases h : n < 16
    · rw [hexL_small h] at hc
      rw [List.mem_singleton.1 hc]
      exact isHx_hd n h
    · rw [hexL_big h] at hc
      rcases List.mem_append.1 hc with hc | hc
      · exact ih (n / 16) (by omega) c hc
      · rw [List.mem_singleton.1 hc]
        exact isHx_hd _ (by omega)
theorem hexL_pos : ∀ n, 0 < (hexL n).length := by
  intro n
  by_cases h : n < 16
  · rw [hexL_small h]; simp
  · rw [hexL_big h]; simp
theorem hexL_len : ∀ k n, n < 16 ^ (k + 1) → (hexL n).length ≤ k + 1 := by
  intro k
  induction k with
  | zero => intro n h; rw [hexL_small (by omega)]; simp
  | succ k ih =>
    intro n h
    by_cases h2 : n < 16
    · rw [hexL_small h2]; simp
    · rw [hexL_big h2, List.length_append]
      have := ih (n / 16) (by rw [Nat.pow_succ] at h; omega)
      simp; omega
theorem hexL_inj {n m : Nat} (h : hexL n = hexL m) : n = m := by rw [← hexV_hexL n, h, hexV_hexL]
def hexB (n : Nat) : ByteArray := ⟨(hexL n).toArray⟩
def cutB (s sep : ByteArray) : ByteArray × ByteArray × Bool := (⟨(Lib.cut s.data.toList sep.data.toList).1.toArray⟩, ⟨(Lib.cut s.data.toList sep.data.toList).2.1.toArray⟩, (Lib.cut s.data.toList sep.data.toList).2.2)
def joinB (l : List ByteArray) (sep : ByteArray) : ByteArray := ⟨(Lib.join (l.map (·.data.toList)) sep.data.toList).toArray⟩
def splitB (s sep : ByteArray) (n : Nat) : List ByteArray := Lib.splitB sep 0 (min n (s.size + 1) - 1) s
theorem index_none (c : UInt8) : ∀ l : List UInt8, c ∉ l → Lib.index l [c] = -1
  | [], _ => rfl
  | b :: l, h => by
    have h1 : ¬ c = b := fun e => h (by rw [e]; exact List.mem_cons_self)
    have h2 := index_none c l (fun e => h (List.mem_cons_of_mem _ e))
    unfold Lib.index
    rw [h2]
    have e : List.isPrefixOf [c] (b :: l) = false := by simp [List.isPrefixOf, h1]
    rw [e]
    simp
theorem index_at (c : UInt8) : ∀ a b : List UInt8, c ∉ a → Lib.index (a ++ c :: b) [c] = a.length
  | [], b, _ => by
    rw [List.nil_append]
    unfold Lib.index
    simp [List.isPrefixOf]
  | d :: a, b, h => by
    have h1 : ¬ c = d := fun e => h (by rw [e]; exact List.mem_cons_self)
    have h2 := index_at c a b (fun e => h (List.mem_cons_of_mem _ e))
    rw [List.cons_append]
    unfold Lib.index
    rw [h2]
    have e : List.isPrefixOf [c] (d :: (a ++ c :: b)) = false := by simp [List.isPrefixOf, h1]
    rw [e, if_neg (by simp), if_neg (by simp)]
    simp
theorem cut_at (c : UInt8) (a b : List UInt8) (h : c ∉ a) : Lib.cut (a ++ c :: b) [c] = (a, b, true) := by
  unfold Lib.cut
  rw [index_at c a b h, if_pos (by omega)]
  simp
theorem cut_none (c : UInt8) (l : List UInt8) (h : c ∉ l) : Lib.cut l [c] = (l, [], false) := by
  unfold Lib.cut
  rw [index_none c l h, if_neg (by omega)]
end Go.Proofs.Ytcbmkonigclceaa
