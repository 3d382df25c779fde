/- strconv.FormatInt at base 16: a contract. -/
import Derived.Test.YtjgbidklkhohfaaGreatDoorHex
import Derived.Test.YtjgbidklkhohfaaGreatDoorLibG
import Derived.Test.YtjgbidklkhohfaaGreatDoorVMore
import Derived.Shelf.RegionOpenPlain
import Derived.Lib.Walk
import Derived.Lib.ItoaWalk
import Derived.Lib.ItoaNum
import Derived.Laws.Bits64b
import Derived.BigCall
import Derived.BigGuard
import Derived.Test.YtjgbidklkhohfaaGreatDoorProg
namespace Go.Proofs.YtjgbidklkhohfaaGreatDoor
open Go Go.RowKit Go.Lib Go.Proofs.YtjgbidklkhohfaaGreatDoorW.PrintWords
set_option linter.unusedVariables false
set_option linter.unusedSimpArgs false
set_option maxHeartbeats 2000000 in
set_option maxRecDepth 100000 in
theorem tz64_16 (w : World) (hG : GT w) : Calls Tryz.prog 134 #[.int .u64 16] w fun e w' => e = .returned (.int .i64 4) ∧ w' = w := by
  have hcell : w.cell? ⟨5, 15, none⟩ = some (.int .u8 4) := hG
  have key : IntKind.u64.wrap (bits BinOp.and IntKind.u64 (16 : Int) (IntKind.u64.wrap (-(16 : Int))) * 285870213051353865) / 288230376151711744 = (15 : Int) := by decide +kernel
  go_enter Tryz.func134, Tryz.ntmps134
  go_wp2_with (simp only [key])
  go_ret
  exact ⟨rfl, rfl⟩
set_option maxHeartbeats 2000000 in
set_option maxRecDepth 100000 in
theorem tz_16 (w : World) (hG : GT w) : Calls Tryz.prog 132 #[.int .u64 16] w fun e w' => e = .returned (.int .i64 4) ∧ w' = w := by
  go_enter Tryz.func132, Tryz.ntmps132
  go_wp2_with (go_at_call 134; refine (tz64_16 _ hG).mono ?_; rintro e w' ⟨rfl, rfl⟩)
  go_ret
  exact ⟨rfl, rfl⟩
set_option maxHeartbeats 2000000 in
set_option maxRecDepth 100000 in
theorem pow2_16 (w : World) : Calls Tryz.prog 131 #[.int .i64 16] w fun e w' => e = .returned (.bool true) ∧ w' = w := by
  have key : (bits BinOp.and IntKind.i64 (16 : Int) (15 : Int)) = 0 := by decide +kernel
  go_enter Tryz.func131, Tryz.ntmps131
  go_wp2_with (simp only [key])
  go_ret
  exact ⟨rfl, rfl⟩
theorem dig36 : ∀ j : Fin 16, Lib.digits36.data[j.val]? = some (hd j.val) := by decide +kernel
theorem idx36 {P : Program} (t : TypeId) (ht : P.underlying t = some .string) (k : IntKind) (z : Int) (n : Nat) (hz : z = (n : Int)) (hn : n < 16) (w : World) :
    (Instr.index t (.string Lib.digits36) (.int k z)).run P w = .ok (.int .u8 ((hd n).toNat : Int)) w := by
  subst hz
  have hs : Lib.digits36.size = 36 := Lib.digits36_size
  rw [run_index_string w t Lib.digits36 k _ ht, dif_pos ⟨by omega, by rw [hs]; omega⟩]
  have e : ((n : Int)).toNat = n := by omega
  simp only [e]
  have h2 : Lib.digits36[n]'(by rw [hs]; omega) = hd n := by
    have h3 := dig36 ⟨n, hn⟩
    rw [Array.getElem?_eq_getElem (by show n < Lib.digits36.size; rw [hs]; omega)] at h3
    exact Option.some.inj h3
  rw [h2]
theorem and15 (v : Nat) (h : v < 18446744073709551616) : bits .and .u64 (v : Int) 15 = ((v % 16 : Nat) : Int) := by
  rw [show (15 : Int) = ((15 : Nat) : Int) from rfl, bits_and_u64_nat v 15 h (by omega)]
  congr 1
  exact Nat.and_two_pow_sub_one_eq_mod v 4
set_option maxHeartbeats 4000000 in
set_option maxRecDepth 100000 in
theorem fmtBits (u : Nat) (hu : u < 9223372036854775808) (w : World) (hG : GT w) :
    Calls Tryz.prog 127 #[.slice none 0 0, .int .u64 u, .int .i64 16, .bool false, .bool false] w fun e w' => e = .returned (.tuple #[.slice none 0 0, .string (hexB u)]) ∧ Below w.heap.size w w' := by
  have HG := Aside0.mk hG
  clear hG
  go_enter Tryz.func127, Tryz.ntmps127
  go_name_bytes_deep 38 PN hPN
  clear hPN
  go_name_bytes_deep 30 DG hDG
  have eDG : DG = Lib.digits36 := by rw [← hDG]; decide +kernel
  subst eDG
  clear hDG
  go_wp2_with (first
    | (go_at_call 131; refine (pow2_16 _).mono ?_; rintro e w' ⟨rfl, rfl⟩)
    | (go_at_call 132; refine (tz_16 _ (GT_on ((Below.refl _ w).alloc (Nat.le_refl _) _) HG.out)).mono ?_; rintro e w' ⟨rfl, rfl⟩))
  have hz : Tryz.zeroCells130.size = 65 := by kernel_rfl
  go_loopg [1, 13] 16 (fun gk v1 v13 w' => ∃ (v i : Nat) (cs : List UInt8) (cur : Array Value), v1 = .int .u64 v ∧ v13 = .int .i64 i ∧ Aside0 (v < 16 ^ (gk + 1) ∧ v < 18446744073709551616 ∧ gk ≤ 16 ∧ i + cs.length = 65 ∧ gk + 1 ≤ i) ∧ Aside0 (hexL u = hexL v ++ cs) ∧ Aside0 (w'.heap[w.heap.size]? = some (.cells cur 130 (0, 0))) ∧ Aside0 (cur.size = 65 ∧ cur.toList.drop i = cs.map (fun c => Value.int .u8 (c.toNat : Int))) ∧ Aside0 (Below w.heap.size w w'))
  case atStart => exact ⟨u, 65, [], Tryz.zeroCells130, rfl, rfl, ⟨by omega, by omega, by omega, rfl, by omega⟩, ⟨by simp⟩, ⟨blk_new _ _⟩, ⟨hz, by rw [List.drop_eq_nil_of_le (by simp [hz])]; rfl⟩, ⟨(Below.refl _ w).alloc (Nat.le_refl _) _⟩⟩
  case round =>
    obtain ⟨v, i, cs, cur, rfl, rfl, H1, H2, H3, H4, HB⟩ := hrel
    clear HG hz
    by_cases hge : 16 ≤ v
    · cases gk with
      | zero => exact absurd H1.out.1 (by omega)
      | succ k1 =>
        obtain ⟨i1, rfl⟩ : ∃ i1, i = i1 + 1 := ⟨i - 1, by have := H1.out; omega⟩
        have hb : decide ((v : Int) ≥ 16) = true := decide_eq_true (by omega)
        have c1 : (0 : Int) ≤ (i1 : Int) := by omega
        have c2 : (i1 : Int) < 65 := by have := H1.out; omega
        have ha : bits .and .u64 (v : Int) 15 = (v : Int) % 16 := (and15 v H1.out.2.1).trans (by omega)
        have hX : ∀ w, (Instr.index 9 (.string Lib.digits36) (.int .u64 ((v : Int) % 16))).run Tryz.prog w = .ok (.int .u8 ((hd (v % 16)).toNat : Int)) w := idx36 9 Tryz.underlying9 .u64 _ (v % 16) (by omega) (by omega)
        rename World => W
        obtain ⟨old, hold⟩ : ∃ old, cur[i1]? = some old := ⟨_, Array.getElem?_eq_getElem (by have := H4.out.1; have := H1.out; omega)⟩
        have hc : W.cell? ⟨w.heap.size, i1, none⟩ = some old := (blk_cell H3.out i1).trans hold
        have hf : W.frozen? ⟨w.heap.size, i1, none⟩ = false := blk_frozen H3.out i1
        go_wp2
        go_roundg k1
        case measure => have := H1.out; omega
        case rel =>
          have g1 := H1.out
          have g4 := H4.out
          refine ⟨v / 16, i1, hd (v % 16) :: cs, cur.setIfInBounds i1 (.int .u8 ((hd (v % 16)).toNat : Int)), ?_, ?_, ⟨by rw [Nat.pow_succ] at g1; omega, by omega, by omega, by simp only [List.length_cons]; omega, by omega⟩, ⟨?_⟩, ⟨blk_set H3.out i1 _⟩, ⟨by rw [Array.size_setIfInBounds]; exact g4.1, ?_⟩, ⟨below_set HB.out (Nat.le_refl _)⟩⟩
          · first | rfl | (congr 1; omega)
          · first | rfl | (congr 1; omega)
          · rw [H2.out, hexL_big (by omega), List.append_assoc, List.singleton_append]
          · rw [List.map_cons, ← g4.2, Array.toList_setIfInBounds, List.drop_set]
            have hl : i1 < cur.toList.length := by rw [Array.length_toList]; omega
            rw [if_neg (by omega), Nat.sub_self, List.drop_eq_getElem_cons hl, List.set_cons_zero]
    · obtain ⟨i1, rfl⟩ : ∃ i1, i = i1 + 1 := ⟨i - 1, by have := H1.out; omega⟩
      have hb : decide ((v : Int) ≥ 16) = false := decide_eq_false (by omega)
      have c1 : (0 : Int) ≤ (i1 : Int) := by omega
      have c2 : (i1 : Int) < 65 := by have := H1.out; omega
      have c3 : (i1 : Int) ≤ 65 := by omega
      have hX : ∀ w, (Instr.index 9 (.string Lib.digits36) (.int .u64 (v : Int))).run Tryz.prog w = .ok (.int .u8 ((hd v).toNat : Int)) w := idx36 9 Tryz.underlying9 .u64 _ v (by omega) (by omega)
      rename World => W
      obtain ⟨old, hold⟩ : ∃ old, cur[i1]? = some old := ⟨_, Array.getElem?_eq_getElem (by have := H4.out.1; have := H1.out; omega)⟩
      have hc : W.cell? ⟨w.heap.size, i1, none⟩ = some old := (blk_cell H3.out i1).trans hold
      have hf : W.frozen? ⟨w.heap.size, i1, none⟩ = false := blk_frozen H3.out i1
      have g1 := H1.out
      have g4 := H4.out
      have hcur : ∀ j, j < 65 - i1 → (W.setCell ⟨w.heap.size, i1, none⟩ (Value.int IntKind.u8 ↑(hd v).toNat)).cell? ⟨w.heap.size, i1 + j, none⟩ = some (.int .u8 (((hd v :: cs).map (fun c => (c.toNat : Int))).getD j 0)) := by
        intro j hj
        rw [blk_cell (blk_set H3.out i1 _)]
        have hl : i1 < cur.toList.length := by rw [Array.length_toList]; omega
        have e1 : (cur.setIfInBounds i1 (Value.int IntKind.u8 ↑(hd v).toNat)).toList.drop i1 = (hd v :: cs).map (fun c => Value.int .u8 (c.toNat : Int)) := by
          rw [List.map_cons, ← g4.2, Array.toList_setIfInBounds, List.drop_set, if_neg (by omega), Nat.sub_self, List.drop_eq_getElem_cons hl, List.set_cons_zero]
        rw [← Array.getElem?_toList, ← List.getElem?_drop, e1, List.getElem?_map]
        have hl2 : j < (hd v :: cs).length := by simp only [List.length_cons]; omega
        rw [List.getElem?_eq_getElem hl2, List.getD_eq_getElem?_getD, List.getElem?_map, List.getElem?_eq_getElem hl2]
        rfl
      have eadd : ∀ j, (⟨w.heap.size, i1, none⟩ : Addr).add j = ⟨w.heap.size, i1 + j, none⟩ := by
        intro j
        unfold Addr.add
        split <;> simp_all
      have hR : ReadsInt (W.setCell ⟨w.heap.size, i1, none⟩ (Value.int IntKind.u8 ↑(hd v).toNat)) .u8 (some ⟨w.heap.size, i1, none⟩) (65 - i1) ((hd v :: cs).map (fun c => (c.toNat : Int))) :=
        ⟨by simp only [List.length_map, List.length_cons]; omega, by omega, fun _ => ⟨_, rfl, fun j hj => (congrArg _ (eadd j)).trans (hcur j hj)⟩⟩
      have hstr : strOfNums ((hd v :: cs).map (fun c => (c.toNat : Int))) = hexB u := by
        unfold strOfNums hexB
        rw [List.map_map]
        congr 2
        rw [H2.out, hexL_small (by omega), List.map_congr_left (g := id), List.map_id, List.singleton_append]
        intro c _
        simp
      have hK := string_of_reads (P := Tryz.prog) (src := 67) (dst := 9) (c := 65 - i1) Tryz.underlying67 Tryz.underlying5 Tryz.underlying9 hR
      rw [hstr] at hK
      go_wp2
      go_ret2
      exact ⟨rfl, below_set HB.out (Nat.le_refl _)⟩

set_option maxHeartbeats 2000000 in
set_option maxRecDepth 100000 in
theorem fmtI (u : Nat) (hu : u < 9223372036854775808) (w : World) (hG : GT w) :
    Calls Tryz.prog 118 #[.int .i64 u, .int .i64 16] w fun e w' => e = .returned (.string (hexB u)) ∧ Below w.heap.size w w' := by
  have HG := Aside0.mk hG
  have hn : decide ((u : Int) < 0) = false := decide_eq_false (by omega)
  have hn2 : IntKind.u64.wrap (u : Int) = (u : Int) := by
    show (u : Int) % 18446744073709551616 = u
    omega
  have k := fun W (h : Below w.heap.size w W) => fmtBits u hu W (GT_on h hG)
  clear hG
  go_enter Tryz.func118, Tryz.ntmps118
  go_wp2_with (first | simp only [hn2] | (go_at_call 127; refine (k _ (by first | exact Below.refl _ w | exact (Below.refl _ w).alloc (Nat.le_refl _) _)).mono ?_; rintro e w' ⟨rfl, hb⟩))
  go_ret
  exact ⟨rfl, hb⟩
set_option maxHeartbeats 2000000 in
set_option maxRecDepth 100000 in
theorem lib_FormatInt (a0 a1 : Int) (r : ByteArray) (w : World) (hG : GT w) (h : (if 0 ≤ a0 ∧ a0 ≤ 9223372036854775807 ∧ a1 = 16 then some (hexB a0.toNat) else none) = some r) :
    Calls Tryz.prog 106 #[.int .i64 a0, .int .i64 a1] w fun e w' => e = .returned (.string r) ∧ Below w.heap.size w w' := by
  split at h
  case isFalse => cases h
  case isTrue hc =>
    obtain ⟨u, rfl⟩ : ∃ u : Nat, a0 = u := ⟨a0.toNat, by omega⟩
    obtain ⟨h0, h1, rfl⟩ := hc
    obtain rfl := Option.some.inj h
    have k := fun W (h : Below w.heap.size w W) => fmtI u (by omega) W (GT_on h hG)
    clear hG
    go_enter Tryz.func106, Tryz.ntmps106
    go_wp2_with (go_at_call 118; refine (k _ (by first | exact Below.refl _ w | exact (Below.refl _ w).alloc (Nat.le_refl _) _)).mono ?_; rintro e w' ⟨rfl, hb⟩)
    go_ret
    exact ⟨rfl, hb⟩
end Go.Proofs.YtjgbidklkhohfaaGreatDoor
