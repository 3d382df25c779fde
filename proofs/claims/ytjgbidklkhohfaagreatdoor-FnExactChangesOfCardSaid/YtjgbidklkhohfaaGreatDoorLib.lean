/- strings.Cut and strings.SplitN at a separator of one byte, strings.Join, and strconv.FormatInt at base 16: contracts. -/
import Derived.Test.YtjgbidklkhohfaaGreatDoorShelf
import Derived.Test.YtjgbidklkhohfaaGreatDoorHex
import Derived.Test.YtjgbidklkhohfaaGreatDoorLibG
import Derived.Test.YtjgbidklkhohfaaGreatDoorVMore
import Derived.Shelf.Strings.SplitCore
import Derived.Shelf.RegionOpenPlain
import Derived.Lib.Walk
import Derived.BigCall
import Derived.BigGuard
namespace Go.Proofs.YtjgbidklkhohfaaGreatDoor
open Go Go.Shelf Go.RowKit Go.Lib Go.Proofs.YtjgbidklkhohfaaGreatDoorW.PrintWords
set_option linter.unusedVariables false
set_option linter.unusedSimpArgs false
theorem index_one_byte (s : ByteArray) (c : UInt8) : Lib.index s.data.toList [c] = Lib.indexByte s.data.toList c := by
  generalize s.data.toList = l
  induction l with
  | nil => rfl
  | cons b l ih =>
    unfold Lib.index Lib.indexByte
    rw [ih]
    by_cases h : b = c
    · subst h; simp [List.isPrefixOf]
    · have h' : (c == b) = false := by simp; exact fun e => h e.symm
      have h'' : (b == c) = false := by simp [h]
      simp [List.isPrefixOf, h', h'']
theorem one_byte {s : ByteArray} (h : s.size = 1) : ∃ c : UInt8, s = ⟨#[c]⟩ := by
  obtain ⟨⟨l⟩⟩ := s
  match l, h with
  | [c], _ => exact ⟨c, rfl⟩
theorem index_call (s : ByteArray) (c : UInt8) (w : World) :
    Calls Tryz.prog 104 #[.string s, .string ⟨#[c]⟩] w fun e w' => e = .returned (.int .i64 (Lib.indexB s ⟨#[c]⟩)) ∧ w' = w := by
  have h := Tryz.stringslite_Index_one s c w
  rw [show Lib.indexB s ⟨#[c]⟩ = Lib.indexByte s.data.toList c from index_one_byte s c]
  exact h
set_option maxHeartbeats 2000000 in
set_option maxRecDepth 100000 in
theorem liteCut (s sep : ByteArray) (w : World) (hs : s.size < 4294967281) (hI : ∀ w : World, Calls Tryz.prog 104 #[.string s, .string sep] w fun e w' => e = .returned (.int .i64 (Lib.indexB s sep)) ∧ w' = w) :
    Calls Tryz.prog 84 #[.string s, .string sep] w fun e w' => e = .returned (.tuple #[.string ⟨(Lib.cut s.data.toList sep.data.toList).1.toArray⟩, .string ⟨(Lib.cut s.data.toList sep.data.toList).2.1.toArray⟩, .bool (Lib.cut s.data.toList sep.data.toList).2.2]) ∧ ∃ n, w' = w.drewN n := by
  have mixed : Tryz.prog.follows .mixedOrders = true := by kernel_rfl
  rcases Lib.indexB_cases s sep with hix | ⟨i, hix, hroom⟩
  · obtain ⟨e1, e2, e3⟩ := Lib.cutB_miss s sep hix
    rw [e1, e2, e3]
    go_enter Tryz.func84, Tryz.ntmps84
    go_wp2_with (go_at_call 104; refine (hI _).mono ?_; rintro e w' ⟨rfl, rfl⟩; rw [hix])
    go_ret3
    exact ⟨rfl, 0, rfl⟩
  · obtain ⟨e1, e2, e3⟩ := Lib.cutB_hit s sep i hix
    rw [e1, e2, e3]
    have c1 : (0 : Int) ≤ ↑i := by omega
    have c2 : (↑i : Int) ≤ ↑s.size := by omega
    have c3 : (0 : Int) ≤ ↑i + ↑sep.size := by omega
    have c4 : (↑i + ↑sep.size : Int) ≤ ↑s.size := by omega
    go_enter Tryz.func84, Tryz.ntmps84
    go_wp2_with (go_at_call 104; refine (hI _).mono ?_; rintro e w' ⟨rfl, rfl⟩; rw [hix])
    go_region_o
    go_wp2
    go_ret3
    exact ⟨rfl, 1, rfl⟩
theorem drewN_below {w : World} (n : Nat) : Below w.heap.size w (w.drewN n) := by
  induction n with
  | zero => exact Below.refl _ _
  | succ n ih => rw [← World.drew_drewN]; exact ih.drew
set_option maxHeartbeats 2000000 in
set_option maxRecDepth 100000 in
theorem lib_Cut (a0 a1 r1 r2 : ByteArray) (r3 : Bool) (w : World) (h : (if a0.size < 4294967281 ∧ a1.size = 1 then some (cutB a0 a1) else none) = some (r1, r2, r3)) :
    Calls Tryz.prog 65 #[.string a0, .string a1] w fun e w' => e = .returned (.tuple #[.string r1, .string r2, .bool r3]) ∧ Below w.heap.size w w' := by
  by_cases hc : a0.size < 4294967281 ∧ a1.size = 1
  case neg => rw [if_neg hc] at h; cases h
  rw [if_pos hc] at h
  have h := Option.some.inj h
  unfold cutB at h
  simp only [Prod.mk.injEq] at h
  obtain ⟨e1, e2, e3⟩ := h
  have k := fun w => liteCut a0 a1 w hc.1 (fun w => by
    obtain ⟨c, rfl⟩ := one_byte hc.2
    exact index_call a0 c w)
  rw [e1, e2, e3] at k
  clear e1 e2 e3 hc
  go_enter Tryz.func65, Tryz.ntmps65
  go_wp2_with (go_at_call 84; refine (k _).mono ?_; rintro e w' ⟨rfl, n, rfl⟩)
  go_ret3
  exact ⟨rfl, drewN_below n⟩
theorem lib_Join (A0 : Option Addr) (c0 : Nat) (l0 : List ByteArray) (a1 r : ByteArray) (w : World) (hr0 : Kd.C Kd.string w A0 l0.length l0) (hc0 : l0.length ≤ c0) (h : (if l0.length ≤ 140737488355328 ∧ (joinB l0 a1).size ≤ 140737488355328 then some (joinB l0 a1) else none) = some r) :
    Calls Tryz.prog 78 #[.slice A0 l0.length c0, .string a1] w fun e w' => e = .returned (.string r) ∧ Below w.heap.size w w' := by
  by_cases hc : l0.length ≤ 140737488355328 ∧ (joinB l0 a1).size ≤ 140737488355328
  case neg => rw [if_neg hc] at h; cases h
  rw [if_pos hc] at h
  obtain rfl := Option.some.inj h
  cases l0 with
  | nil =>
    refine (Tryz.strings_Join_none A0 c0 a1 w).mono ?_
    rintro e w' ⟨rfl, rfl⟩
    exact ⟨rfl, Below.refl _ _⟩
  | cons x l =>
    obtain ⟨ad, rfl, hrow⟩ := hr0.2.2 (by simp)
    obtain ⟨bk, o, p⟩ := ad
    have hcell : ∀ (j : Nat) y, (x :: l)[j]? = some y → w.cell? ((⟨bk, o, p⟩ : Addr).add j) = some (.string y) := by
      intro j y hj
      obtain ⟨c, hlen, hk, hcs⟩ := hrow j y hj
      have e : c = [.string y] := hk
      have := hcs 0 (.string y) (by rw [e]; rfl)
      have e1 : Kd.string.sz = 1 := rfl
      rw [e1, Nat.mul_one, Nat.add_zero] at this
      exact this
    have h0 : w.cell? (⟨bk, o, p⟩ : Addr) = some (.string x) := by
      have := hcell 0 x rfl
      unfold Addr.add at this
      rw [if_pos rfl] at this
      exact this
    have hp : p = none := by
      cases p with
      | none => rfl
      | some q =>
        exfalso
        unfold World.cell? at h0
        split at h0
        · simp at h0
        · cases h0
    subst hp
    have hbk := World.block_lt_of_cell? w _ h0
    have hcells : ∀ (j : Nat) y, (x :: l)[j]? = some y → w.cell? ⟨bk, o + j, none⟩ = some (.string y) := by
      intro j y hj
      have := hcell j y hj
      unfold Addr.add at this
      split at this
      · rename_i e; rw [e]; exact this
      · exact this
    refine (Tryz.strings_Join bk o c0 (x :: l) a1 w hcells hbk hc.1 hc0 (by have := hc.2; unfold joinB at this; simpa [ByteArray.size] using this)).mono ?_
    rintro e w' ⟨rfl, hb⟩
    exact ⟨rfl, hb⟩
theorem reps_strs (xs : List ByteArray) (w : World) (base : Nat) (ok : Nat → Prop) : Reps (Kd.M Kd.string w base ok) 1 xs (xs.map Value.string) := by
  refine ⟨by simp, fun j p hp => ?_⟩
  have hl := (List.getElem?_eq_some_iff.1 hp).1
  have : ((xs.map Value.string).drop (j * 1)).take 1 = [Value.string p] := by
    rw [Nat.mul_one, List.take_one, List.head?_drop, List.getElem?_map, hp]
    rfl
  rw [this]
  exact rfl
theorem heap_new (w : World) (o : Obj) : (w.alloc o).heap[w.heap.size]? = some o := by
  show (w.heap.push o)[w.heap.size]? = some o
  simp
theorem lib_SplitN (a0 a1 : ByteArray) (a2 : Int) (r : List ByteArray) (w : World) (h : (if a0.size < 4294967281 ∧ a1.size = 1 ∧ 1 ≤ a2 ∧ a2 ≤ 9223372036854775807 then some (splitB a0 a1 a2.toNat) else none) = some r) :
    Calls Tryz.prog 51 #[.string a0, .string a1, .int .i64 a2] w fun e w' => ∃ v0_ : Value, e = .returned (v0_) ∧ Kd.R Kd.string 9 w' w.heap.size (fun _ => True) v0_ r ∧ Below w.heap.size w w' := by
  by_cases hc : a0.size < 4294967281 ∧ a1.size = 1 ∧ 1 ≤ a2 ∧ a2 ≤ 9223372036854775807
  case neg => rw [if_neg hc] at h; cases h
  rw [if_pos hc] at h
  obtain rfl := Option.some.inj h
  obtain ⟨h1, h2, h3, h4⟩ := hc
  obtain ⟨c, rfl⟩ := one_byte h2
  obtain ⟨n, rfl⟩ : ∃ n : Nat, a2 = n := ⟨a2.toNat, by omega⟩
  have hI : ∀ (x : ByteArray) (cs : Array Value), x.size ≤ a0.size → Calls Tryz.prog 96 #[.string x, .string ⟨#[c]⟩] (w.alloc (.cells cs 9)) fun e w' => e = .returned (.int .i64 (Lib.indexB x ⟨#[c]⟩)) ∧ w' = w.alloc (.cells cs 9) := by
    intro x cs _
    rw [show Lib.indexB x ⟨#[c]⟩ = Lib.indexByte x.data.toList c from index_one_byte x c]
    exact Tryz.strings_Index_one x c _
  have hC : Calls Tryz.prog 95 #[.string a0, .string ⟨#[c]⟩] w fun e w' => e = .returned (.int .i64 (Lib.countB a0 ⟨#[c]⟩)) ∧ w' = w := by
    refine (Tryz.strings_Count_one a0 c w).mono fun e w' ⟨he, hw⟩ => ⟨?_, hw⟩
    rw [he]
    show _ = Ending.returned (Value.int .i64 ((Lib.count a0.data.toList [c] : Nat) : Int))
    rw [Lib.count_one]
    rfl
  have k := Any.strings_genSplit_core Tryz.lays221 (by kernel_rfl) a0 ⟨#[c]⟩ 0 (n : Int) (min n (a0.size + 1)) w h1 (Nat.le_refl 1) (Nat.zero_le _) hI hC (by omega) (by omega) (by rw [if_neg (by omega)]; omega)
  have k' : Calls Tryz.prog 76 #[.string a0, .string ⟨#[c]⟩, .int .i64 0, .int .i64 n] w fun e w' => ∃ v0_ : Value, e = .returned (v0_) ∧ Kd.R Kd.string 9 w' w.heap.size (fun _ => True) v0_ (splitB a0 ⟨#[c]⟩ n) ∧ Below w.heap.size w w' := by
    refine Calls.mono k ?_
    rintro e w' ⟨rfl, rfl⟩
    have hle : (splitB a0 ⟨#[c]⟩ n).length ≤ min n (a0.size + 1) := by
      have := Lib.splitB_length_le (⟨#[c]⟩ : ByteArray) 0 (min n (a0.size + 1) - 1) a0
      unfold splitB
      omega
    refine ⟨_, rfl, ⟨fun _ _ => trivial, (splitB a0 ⟨#[c]⟩ n).map Value.string, ⟨by rw [List.length_map]; exact (Nat.mul_one _).symm, Or.inr ⟨_, _, _, rfl, Nat.le_refl _, heap_new _ _, hle, by unfold maxLen; omega, (Lib.cellsOf_size hle).trans (Nat.mul_one _).symm, ?_⟩⟩, reps_strs _ _ _ _⟩, (Below.refl _ w).alloc (Nat.le_refl _) _⟩
    have e1 : Kd.string.sz = 1 := rfl
    unfold Lib.cellsOf
    rw [e1, Nat.mul_one]
    show List.take (splitB a0 ⟨#[c]⟩ n).length ((splitB a0 ⟨#[c]⟩ n).map Value.string ++ _) = _
    rw [List.take_append_of_le_length (by simp), List.take_of_length_le (by simp)]
  clear k hI hC
  go_enter Tryz.func51, Tryz.ntmps51
  go_wp2_with (go_at_call 76; refine k'.mono ?_; rintro e w' ⟨v0, rfl, hr, hb⟩)
  go_ret
  exact ⟨_, rfl, hr, hb⟩
end Go.Proofs.YtjgbidklkhohfaaGreatDoor
