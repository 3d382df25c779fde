-- The functions of the seat as plain Lean functions, made by the kit's print.py for all laws at once. Not trusted: Lean checks it.
import Derived.Test.YtcbmkonigclceaaProg
import Derived.Test.YtcbmkonigclceaaStrOrd
import Derived.Test.YtcbmkonigclceaaKd
import Derived.Test.YtcbmkonigclceaaSq
import Derived.Test.YtcbmkonigclceaaInsKit
import Derived.Test.YtcbmkonigclceaaSq3
import Derived.Below
import Derived.Deep.Draws
import Derived.Deep.AppendLies
import Derived.Maps.AppendAt
import Derived.OwnWalk
import Derived.Laws.BytesArg
import Derived.Laws.MakeOwn
import Derived.Laws.OwnMore
import Derived.Deep.OwnRows
import Derived.Tactics
import Derived.Lib.ConvBytes
import Derived.Laws.Slices
import Derived.WalkKit
import Derived.KernelRfl
import Derived.RowKit3
import Derived.Deep.LoopGhost
import Derived.Deep.QuietTactic
import Derived.BigQuiet
import Derived.WideLaws
import Derived.Deep.DeepCutAuto
import Derived.Deep.CutBlock
import Derived.Deep.RegionHeld3
import Derived.Laws.Rows
import Derived.Lib.AppendStr
import Derived.ArgAppend
import Derived.Laws.IdiomCopy
import Derived.OrdersHeld
import Derived.Laws.BitsLemmas
import Derived.RowKit
import Derived.Test.YtcbmkonigclceaaVMore
namespace Go.Proofs.Ytcbmkonigclceaa.P
open Go.RowKit Go.Proofs.YtcbmkonigclceaaW.PrintWords Go.Proofs.YtcbmkonigclceaaW.PrintLast Go.Proofs.YtcbmkonigclceaaW.PrintMore
attribute [local go_sem] max2_int min2_int max_two min_two max_three min_three max_four min_four   -- for this text's walks alone
set_option linter.unusedVariables false
set_option linter.unusedSimpArgs false
def errW : Option Int → Value
 | none => .nilIface
 | some c => .iface 0 (.int .i64 c)
theorem errW_none : errW none = .nilIface := rfl
theorem errW_some (c : Int) : errW (some c) = .iface 0 (.int .i64 c) := rfl

theorem info3 : (Try.prog.info? 3).map (fun i => (i.zero, i.size, i.bytes)) = some (some (.int .i64 0), 1, 8) := by kernel_rfl
theorem info5 : (Try.prog.info? 5).map (fun i => (i.zero, i.size, i.bytes)) = some (some (.int .u8 0), 1, 1) := by kernel_rfl
theorem info9 : (Try.prog.info? 9).map (fun i => (i.zero, i.size, i.bytes)) = some (some (.string ⟨#[]⟩), 1, 16) := by kernel_rfl
theorem info39 : (Try.prog.info? 39).map (fun i => (i.zero, i.size, i.bytes)) = some (some (.agg #[(.int .i64 0), (.string ⟨#[]⟩)]), 2, 24) := by kernel_rfl
theorem info65 : (Try.prog.info? 65).map (fun i => (i.zero, i.size, i.bytes)) = some (some (.agg #[(.int .i64 0), (.string ⟨#[]⟩)]), 2, 24) := by kernel_rfl
theorem info109 : (Try.prog.info? 109).map (fun i => (i.zero, i.size, i.bytes)) = some (some (.agg #[(.string ⟨#[]⟩), (.int .i64 0)]), 2, 24) := by kernel_rfl
-- the values' own types
/-! #### struct type 70 -/
structure S70 where
 f0 : Int
 f1 : ByteArray
def z70 : S70 := ⟨(0 : Int), (⟨#[]⟩ : ByteArray)⟩
def k70 : Kd S70 := Kd.iso (Kd.pair (Kd.int .i64) Kd.string) (fun x : S70 => (x.f0, x.f1))
theorem k70_heap : Kd.Heap k70 := Kd.heap_iso _ (Kd.heap_pair (Kd.heap_int .i64) Kd.heap_string)
theorem k70_open {w : World} {x : S70} {cs : List Value} (h : k70.K w x cs) : cs = [.int .i64 x.f0, .string x.f1] := by
 obtain ⟨_, _, rfl, rfl, rfl⟩ := h
 exact rfl
theorem k70_openM {w : World} {base : Nat} {ok : Nat → Prop} {x : S70} {cs : List Value} (h : k70.M w base ok x cs) : cs = [.int .i64 x.f0, .string x.f1] := by
 obtain ⟨_, _, rfl, rfl, rfl⟩ := h
 exact rfl
theorem k70_mk (w : World) (x : S70)  : k70.K w x [.int .i64 x.f0, .string x.f1] := ⟨[.int .i64 x.f0], [.string x.f1], rfl, rfl, rfl⟩
theorem k70_mkM (w : World) (base : Nat) (ok : Nat → Prop) (x : S70)  : k70.M w base ok x [.int .i64 x.f0, .string x.f1] := ⟨[.int .i64 x.f0], [.string x.f1], rfl, rfl, rfl⟩
theorem k70_mkF (W : World) (ok : Nat → Prop) (x : S70) : Kd.FK k70 W ok x [.int .i64 x.f0, .string x.f1] := fun W2 _ => k70_mk W2 x
def rd_T70 (xs : List S70) (i : Int) : S70 := xs.getD i.toNat z70
theorem at_T70 {w : World} {A : Option Addr} {n : Nat} {xs : List S70} (h : Kd.C k70 w A n xs) (i : Int) (h0 : 0 ≤ i) (h1 : i < n) : ∃ ad , A = some ad ∧ w.cell? (ad.add (i.toNat * 2)) = some (.int .i64 (rd_T70 xs i).f0) ∧ w.cell? ⟨(ad.add (i.toNat * 2)).block, (ad.add (i.toNat * 2)).off + 1, none⟩ = some (.string (rd_T70 xs i).f1) := by
 obtain ⟨ad, c, e, _, hK, hc0⟩ := Kd.C_get h z70 i h0 h1
 have hc : ∀ j u, c[j]? = some u → w.cell? (ad.add (i.toNat * 2 + j)) = some u := hc0
 obtain rfl := k70_open hK
 exact ⟨ad, e, hc 0 _ rfl, by rw [← add_field _ _ 1 (by omega)]; exact hc 1 _ rfl⟩

/-! #### struct type 39 -/
structure S39 where
 f0 : Int
 f1 : ByteArray
def z39 : S39 := ⟨(0 : Int), (⟨#[]⟩ : ByteArray)⟩
def k39 : Kd S39 := Kd.iso (Kd.pair (Kd.int .i64) Kd.string) (fun x : S39 => (x.f0, x.f1))
theorem k39_heap : Kd.Heap k39 := Kd.heap_iso _ (Kd.heap_pair (Kd.heap_int .i64) Kd.heap_string)
theorem k39_open {w : World} {x : S39} {cs : List Value} (h : k39.K w x cs) : cs = [.int .i64 x.f0, .string x.f1] := by
 obtain ⟨_, _, rfl, rfl, rfl⟩ := h
 exact rfl
theorem k39_openM {w : World} {base : Nat} {ok : Nat → Prop} {x : S39} {cs : List Value} (h : k39.M w base ok x cs) : cs = [.int .i64 x.f0, .string x.f1] := by
 obtain ⟨_, _, rfl, rfl, rfl⟩ := h
 exact rfl
theorem k39_mk (w : World) (x : S39)  : k39.K w x [.int .i64 x.f0, .string x.f1] := ⟨[.int .i64 x.f0], [.string x.f1], rfl, rfl, rfl⟩
theorem k39_mkM (w : World) (base : Nat) (ok : Nat → Prop) (x : S39)  : k39.M w base ok x [.int .i64 x.f0, .string x.f1] := ⟨[.int .i64 x.f0], [.string x.f1], rfl, rfl, rfl⟩
theorem k39_mkF (W : World) (ok : Nat → Prop) (x : S39) : Kd.FK k39 W ok x [.int .i64 x.f0, .string x.f1] := fun W2 _ => k39_mk W2 x
def rd_T39 (xs : List S39) (i : Int) : S39 := xs.getD i.toNat z39
theorem at_T39 {w : World} {A : Option Addr} {n : Nat} {xs : List S39} (h : Kd.C k39 w A n xs) (i : Int) (h0 : 0 ≤ i) (h1 : i < n) : ∃ ad , A = some ad ∧ w.cell? (ad.add (i.toNat * 2)) = some (.int .i64 (rd_T39 xs i).f0) ∧ w.cell? ⟨(ad.add (i.toNat * 2)).block, (ad.add (i.toNat * 2)).off + 1, none⟩ = some (.string (rd_T39 xs i).f1) := by
 obtain ⟨ad, c, e, _, hK, hc0⟩ := Kd.C_get h z39 i h0 h1
 have hc : ∀ j u, c[j]? = some u → w.cell? (ad.add (i.toNat * 2 + j)) = some u := hc0
 obtain rfl := k39_open hK
 exact ⟨ad, e, hc 0 _ rfl, by rw [← add_field _ _ 1 (by omega)]; exact hc 1 _ rfl⟩

/-! #### struct type 65 -/
structure S65 where
 f0 : Int
 f1 : ByteArray
def z65 : S65 := ⟨(0 : Int), (⟨#[]⟩ : ByteArray)⟩
def k65 : Kd S65 := Kd.iso (Kd.pair (Kd.int .i64) Kd.string) (fun x : S65 => (x.f0, x.f1))
theorem k65_heap : Kd.Heap k65 := Kd.heap_iso _ (Kd.heap_pair (Kd.heap_int .i64) Kd.heap_string)
theorem k65_open {w : World} {x : S65} {cs : List Value} (h : k65.K w x cs) : cs = [.int .i64 x.f0, .string x.f1] := by
 obtain ⟨_, _, rfl, rfl, rfl⟩ := h
 exact rfl
theorem k65_openM {w : World} {base : Nat} {ok : Nat → Prop} {x : S65} {cs : List Value} (h : k65.M w base ok x cs) : cs = [.int .i64 x.f0, .string x.f1] := by
 obtain ⟨_, _, rfl, rfl, rfl⟩ := h
 exact rfl
theorem k65_mk (w : World) (x : S65)  : k65.K w x [.int .i64 x.f0, .string x.f1] := ⟨[.int .i64 x.f0], [.string x.f1], rfl, rfl, rfl⟩
theorem k65_mkM (w : World) (base : Nat) (ok : Nat → Prop) (x : S65)  : k65.M w base ok x [.int .i64 x.f0, .string x.f1] := ⟨[.int .i64 x.f0], [.string x.f1], rfl, rfl, rfl⟩
theorem k65_mkF (W : World) (ok : Nat → Prop) (x : S65) : Kd.FK k65 W ok x [.int .i64 x.f0, .string x.f1] := fun W2 _ => k65_mk W2 x
def rd_T65 (xs : List S65) (i : Int) : S65 := xs.getD i.toNat z65
theorem at_T65 {w : World} {A : Option Addr} {n : Nat} {xs : List S65} (h : Kd.C k65 w A n xs) (i : Int) (h0 : 0 ≤ i) (h1 : i < n) : ∃ ad , A = some ad ∧ w.cell? (ad.add (i.toNat * 2)) = some (.int .i64 (rd_T65 xs i).f0) ∧ w.cell? ⟨(ad.add (i.toNat * 2)).block, (ad.add (i.toNat * 2)).off + 1, none⟩ = some (.string (rd_T65 xs i).f1) := by
 obtain ⟨ad, c, e, _, hK, hc0⟩ := Kd.C_get h z65 i h0 h1
 have hc : ∀ j u, c[j]? = some u → w.cell? (ad.add (i.toNat * 2 + j)) = some u := hc0
 obtain rfl := k65_open hK
 exact ⟨ad, e, hc 0 _ rfl, by rw [← add_field _ _ 1 (by omega)]; exact hc 1 _ rfl⟩

/-! #### struct type 109 -/
structure S109 where
 f0 : ByteArray
 f1 : Int
def z109 : S109 := ⟨(⟨#[]⟩ : ByteArray), (0 : Int)⟩
def k109 : Kd S109 := Kd.iso (Kd.pair Kd.string (Kd.int .i64)) (fun x : S109 => (x.f0, x.f1))
theorem k109_heap : Kd.Heap k109 := Kd.heap_iso _ (Kd.heap_pair Kd.heap_string (Kd.heap_int .i64))
theorem k109_open {w : World} {x : S109} {cs : List Value} (h : k109.K w x cs) : cs = [.string x.f0, .int .i64 x.f1] := by
 obtain ⟨_, _, rfl, rfl, rfl⟩ := h
 exact rfl
theorem k109_openM {w : World} {base : Nat} {ok : Nat → Prop} {x : S109} {cs : List Value} (h : k109.M w base ok x cs) : cs = [.string x.f0, .int .i64 x.f1] := by
 obtain ⟨_, _, rfl, rfl, rfl⟩ := h
 exact rfl
theorem k109_mk (w : World) (x : S109)  : k109.K w x [.string x.f0, .int .i64 x.f1] := ⟨[.string x.f0], [.int .i64 x.f1], rfl, rfl, rfl⟩
theorem k109_mkM (w : World) (base : Nat) (ok : Nat → Prop) (x : S109)  : k109.M w base ok x [.string x.f0, .int .i64 x.f1] := ⟨[.string x.f0], [.int .i64 x.f1], rfl, rfl, rfl⟩
theorem k109_mkF (W : World) (ok : Nat → Prop) (x : S109) : Kd.FK k109 W ok x [.string x.f0, .int .i64 x.f1] := fun W2 _ => k109_mk W2 x
def rd_T109 (xs : List S109) (i : Int) : S109 := xs.getD i.toNat z109
theorem at_T109 {w : World} {A : Option Addr} {n : Nat} {xs : List S109} (h : Kd.C k109 w A n xs) (i : Int) (h0 : 0 ≤ i) (h1 : i < n) : ∃ ad , A = some ad ∧ w.cell? (ad.add (i.toNat * 2)) = some (.string (rd_T109 xs i).f0) ∧ w.cell? ⟨(ad.add (i.toNat * 2)).block, (ad.add (i.toNat * 2)).off + 1, none⟩ = some (.int .i64 (rd_T109 xs i).f1) := by
 obtain ⟨ad, c, e, _, hK, hc0⟩ := Kd.C_get h z109 i h0 h1
 have hc : ∀ j u, c[j]? = some u → w.cell? (ad.add (i.toNat * 2 + j)) = some u := hc0
 obtain rfl := k109_open hK
 exact ⟨ad, e, hc 0 _ rfl, by rw [← add_field _ _ 1 (by omega)]; exact hc 1 _ rfl⟩
theorem eqA65 (d : Nat) (w : World) (x0 y0 : Int) (x1 y1 : ByteArray) :
  (Op.equalIn (d + 2) 65 (.agg #[.int .i64 x0, .string x1]) (.agg #[.int .i64 y0, .string y1])).run Try.prog w = .ok (x0 == y0 && (x1.toList == y1.toList)) w := by
 refine eqA_of Try.underlying65 (by kernel_rfl) ?_
 refine eqf_cons (by rfl) (by go_simp; rfl) (by go_simp; rfl) (by go_simp) ?_
 exact eqf_last (by rfl) (by go_simp; rfl) (by go_simp; rfl) (by go_simp)
/-! ### spec_l1In: function 72 -/
def spec_l1In.f (a0 : Int) (a1 : Int) (a2 : Int) : Option (Bool) := if a0 ≥ a1 then (some (decide (a0 ≤ a2))) else (some false)
set_option maxHeartbeats 8000000 in
set_option maxRecDepth 100000 in
theorem spec_l1In.calls (a0 : Int) (a1 : Int) (a2 : Int) (r : Bool) (w : World) (h : spec_l1In.f a0 a1 a2 = some r) :
  Calls Try.prog 72 #[.int .i64 a0, .int .i64 a1, .int .i64 a2] w fun e w' => e = .returned (.bool r) ∧ Drawn0 w w' := by
 have H : (if a0 ≥ a1 then (some (decide (a0 ≤ a2))) else (some false)) = some r := h
 clear h
 by_cases c4 : a0 ≥ a1
 ·rw [if_pos c4] at H
  have c4b0 : decide (a1 ≤ a0) = true := decide_eq_true c4
  clear c4
  obtain rfl := Option.some.inj H
  go_enter Try.func72, Try.ntmps72
  go_wp2
  go_ret
  exact ⟨rs_, dw_⟩
 ·rw [if_neg c4] at H
  have c4b0 : decide (a1 ≤ a0) = false := decide_eq_false c4
  clear c4
  obtain rfl := Option.some.inj H
  go_enter Try.func72, Try.ntmps72
  go_wp2
  go_ret
  exact ⟨rs_, dw_⟩
/-! ### spec_TextValid: function 85 -/
def spec_TextValid.l0 : Nat → ByteArray → Int → Option (Bool)
 | 0, _, _ => none
 | k + 1, x0, x3 => if x3 < (x0.size : Int) then (if 0 ≤ x3 then (if (bt x0 x3) < 32 then (some false) else (if (bt x0 x3) > 126 then (some false) else (spec_TextValid.l0 k x0 (wrap64 (x3 + 1))))) else (none)) else (some (decide ((x0.size : Int) ≤ 60)))
def spec_TextValid.f (k : Nat) (a0 : ByteArray) : Option (Bool) := spec_TextValid.l0 k a0 0
set_option maxHeartbeats 8000000 in
set_option maxRecDepth 100000 in
theorem spec_TextValid.calls (k : Nat) (a0 : ByteArray) (r : Bool) (w : World) (h : spec_TextValid.f k a0 = some r) :
  Calls Try.prog 85 #[.string a0] w fun e w' => e = .returned (.bool r) ∧ Drawn0 w w' := by
 have H : (spec_TextValid.l0 k a0 0) = some r := h
 clear h
 have H' := Aside0.mk H
 clear H
 go_enter Try.func85, Try.ntmps85
 go_wp2
 go_loopg [3] k (fun kq v3 w' => ∃ (x3_1 : Int), v3 = .int .i64 x3_1 ∧ Aside0 (spec_TextValid.l0 kq a0 x3_1 = some r) ∧ Aside0 (kq ≤ k) ∧ Drawn0 w w')
 case atStart => exact ⟨(0), rs_, H', ⟨Nat.le_refl _⟩, dw_⟩
 case round =>
  clear H'
  obtain ⟨x3_1, rfl, HA, HK1, ⟨m1, rfl⟩⟩ := hrel
  cases gk with
  | zero => exact absurd HA.out (by simp [spec_TextValid.l0])
  | succ k1 =>
   have H := HA.out
   clear HA
   simp only [spec_TextValid.l0] at H
   by_cases c2 : x3_1 < (a0.size : Int)
   ·rw [if_pos c2] at H
    have c2b0 : decide (x3_1 < (a0.size : Int)) = true := decide_eq_true c2
    clear c2
    by_cases c3 : 0 ≤ x3_1; rotate_left
    ·rw [if_neg c3] at H; exact absurd H (by simp)
    rw [if_pos c3] at H
    have c3b0 : decide (0 ≤ x3_1) = true := decide_eq_true c3
    clear c3
    by_cases c5 : (bt a0 x3_1) < 32
    ·rw [if_pos c5] at H
     have c5b0 : decide ((bt a0 x3_1) < 32) = true := decide_eq_true c5
     clear c5
     obtain rfl := Option.some.inj H
     have p4 : 0 ≤ (x3_1 : Int) := dt_
     have q4 : x3_1 < (a0.size : Int) := dt_
     have hx4 := bt_at a0 x3_1
     replace p4 := eq_true p4
     replace q4 := eq_true q4
     go_wp2
     go_ret
     exact ⟨rs_, dw_⟩
    ·rw [if_neg c5] at H
     have c5b0 : decide ((bt a0 x3_1) < 32) = false := decide_eq_false c5
     clear c5
     by_cases c7 : (bt a0 x3_1) > 126
     ·rw [if_pos c7] at H
      have c7b0 : decide (126 < (bt a0 x3_1)) = true := decide_eq_true c7
      clear c7
      obtain rfl := Option.some.inj H
      have p4 : 0 ≤ (x3_1 : Int) := dt_
      have q4 : x3_1 < (a0.size : Int) := dt_
      have hx4 := bt_at a0 x3_1
      replace p4 := eq_true p4
      replace q4 := eq_true q4
      have p6 : 0 ≤ (x3_1 : Int) := dt_
      have q6 : x3_1 < (a0.size : Int) := dt_
      have hx6 := bt_at a0 x3_1
      replace p6 := eq_true p6
      replace q6 := eq_true q6
      go_wp2
      go_ret
      exact ⟨rs_, dw_⟩
     ·rw [if_neg c7] at H
      have c7b0 : decide (126 < (bt a0 x3_1)) = false := decide_eq_false c7
      clear c7
      have H' := Aside0.mk H
      clear H
      have p4 : 0 ≤ (x3_1 : Int) := dt_
      have q4 : x3_1 < (a0.size : Int) := dt_
      have hx4 := bt_at a0 x3_1
      replace p4 := eq_true p4
      replace q4 := eq_true q4
      have p6 : 0 ≤ (x3_1 : Int) := dt_
      have q6 : x3_1 < (a0.size : Int) := dt_
      have hx6 := bt_at a0 x3_1
      replace p6 := eq_true p6
      replace q6 := eq_true q6
      go_wp2
      go_roundg k1
      case measure => have := HK1.out; omega
      case rel => exact ⟨(wrap64 (x3_1 + 1)), rs_, H', ⟨by have := HK1.out; omega⟩, dw_⟩
   ·rw [if_neg c2] at H
    have c2b0 : decide (x3_1 < (a0.size : Int)) = false := decide_eq_false c2
    clear c2
    obtain rfl := Option.some.inj H
    go_wp2
    go_ret
    exact ⟨rs_, dw_⟩
/-! ### impl_TextValid: function 68 -/
def impl_TextValid.l0 : Nat → ByteArray → Int → Option (Bool)
 | 0, _, _ => none
 | k + 1, x0, x3 => if x3 < (x0.size : Int) then (if 0 ≤ x3 then (if (bt x0 x3) < 32 then (some false) else (if (bt x0 x3) > 126 then (some false) else (impl_TextValid.l0 k x0 (wrap64 (x3 + 1))))) else (none)) else (some true)
def impl_TextValid.f (k : Nat) (a0 : ByteArray) : Option (Bool) := if (a0.size : Int) > 60 then (some false) else (impl_TextValid.l0 k a0 0)
set_option maxHeartbeats 8000000 in
set_option maxRecDepth 100000 in
theorem impl_TextValid.calls (k : Nat) (a0 : ByteArray) (r : Bool) (w : World) (h : impl_TextValid.f k a0 = some r) :
  Calls Try.prog 68 #[.string a0] w fun e w' => e = .returned (.bool r) ∧ Drawn0 w w' := by
 have H : (if (a0.size : Int) > 60 then (some false) else (impl_TextValid.l0 k a0 0)) = some r := h
 clear h
 by_cases c2 : (a0.size : Int) > 60
 ·rw [if_pos c2] at H
  have c2b0 : decide (60 < (a0.size : Int)) = true := decide_eq_true c2
  have c2b1 : decide (60 < a0.size) = true := decide_eq_true (by omega)
  clear c2
  obtain rfl := Option.some.inj H
  go_enter Try.func68, Try.ntmps68
  go_wp2
  go_ret
  exact ⟨rs_, dw_⟩
 ·rw [if_neg c2] at H
  have c2b0 : decide (60 < (a0.size : Int)) = false := decide_eq_false c2
  have c2b1 : decide (60 < a0.size) = false := decide_eq_false (by omega)
  clear c2
  have H' := Aside0.mk H
  clear H
  go_enter Try.func68, Try.ntmps68
  go_wp2
  go_loopg [3] k (fun kq v3 w' => ∃ (x3_1 : Int), v3 = .int .i64 x3_1 ∧ Aside0 (impl_TextValid.l0 kq a0 x3_1 = some r) ∧ Aside0 (kq ≤ k) ∧ Drawn0 w w')
  case atStart => exact ⟨(0), rs_, H', ⟨Nat.le_refl _⟩, dw_⟩
  case round =>
   clear H'
   try clear c2
   try clear c2b0
   try clear c2b1
   try clear p2
   obtain ⟨x3_1, rfl, HA, HK1, ⟨m1, rfl⟩⟩ := hrel
   cases gk with
   | zero => exact absurd HA.out (by simp [impl_TextValid.l0])
   | succ k1 =>
    have H := HA.out
    clear HA
    simp only [impl_TextValid.l0] at H
    by_cases c3 : x3_1 < (a0.size : Int)
    ·rw [if_pos c3] at H
     have c3b0 : decide (x3_1 < (a0.size : Int)) = true := decide_eq_true c3
     clear c3
     by_cases c4 : 0 ≤ x3_1; rotate_left
     ·rw [if_neg c4] at H; exact absurd H (by simp)
     rw [if_pos c4] at H
     have c4b0 : decide (0 ≤ x3_1) = true := decide_eq_true c4
     clear c4
     by_cases c6 : (bt a0 x3_1) < 32
     ·rw [if_pos c6] at H
      have c6b0 : decide ((bt a0 x3_1) < 32) = true := decide_eq_true c6
      clear c6
      obtain rfl := Option.some.inj H
      have p5 : 0 ≤ (x3_1 : Int) := dt_
      have q5 : x3_1 < (a0.size : Int) := dt_
      have hx5 := bt_at a0 x3_1
      replace p5 := eq_true p5
      replace q5 := eq_true q5
      go_wp2
      go_ret
      exact ⟨rs_, dw_⟩
     ·rw [if_neg c6] at H
      have c6b0 : decide ((bt a0 x3_1) < 32) = false := decide_eq_false c6
      clear c6
      by_cases c8 : (bt a0 x3_1) > 126
      ·rw [if_pos c8] at H
       have c8b0 : decide (126 < (bt a0 x3_1)) = true := decide_eq_true c8
       clear c8
       obtain rfl := Option.some.inj H
       have p5 : 0 ≤ (x3_1 : Int) := dt_
       have q5 : x3_1 < (a0.size : Int) := dt_
       have hx5 := bt_at a0 x3_1
       replace p5 := eq_true p5
       replace q5 := eq_true q5
       have p7 : 0 ≤ (x3_1 : Int) := dt_
       have q7 : x3_1 < (a0.size : Int) := dt_
       have hx7 := bt_at a0 x3_1
       replace p7 := eq_true p7
       replace q7 := eq_true q7
       go_wp2
       go_ret
       exact ⟨rs_, dw_⟩
      ·rw [if_neg c8] at H
       have c8b0 : decide (126 < (bt a0 x3_1)) = false := decide_eq_false c8
       clear c8
       have H' := Aside0.mk H
       clear H
       have p5 : 0 ≤ (x3_1 : Int) := dt_
       have q5 : x3_1 < (a0.size : Int) := dt_
       have hx5 := bt_at a0 x3_1
       replace p5 := eq_true p5
       replace q5 := eq_true q5
       have p7 : 0 ≤ (x3_1 : Int) := dt_
       have q7 : x3_1 < (a0.size : Int) := dt_
       have hx7 := bt_at a0 x3_1
       replace p7 := eq_true p7
       replace q7 := eq_true q7
       go_wp2
       go_roundg k1
       case measure => have := HK1.out; omega
       case rel => exact ⟨(wrap64 (x3_1 + 1)), rs_, H', ⟨by have := HK1.out; omega⟩, dw_⟩
    ·rw [if_neg c3] at H
     have c3b0 : decide (x3_1 < (a0.size : Int)) = false := decide_eq_false c3
     clear c3
     obtain rfl := Option.some.inj H
     go_wp2
     go_ret
     exact ⟨rs_, dw_⟩
/-- A state of type 91 at block g of W; what its slices lead to came in by w0. -/
def IsS91 (w0 W : World) (g : Nat) (f0 : List Int) (f1 : Int) : Prop := ∃ A0 c0, W.heap[g]? = some (.cells #[.slice A0 f0.length c0, .int .i64 f1] 91 (0, 0)) ∧ w0.heap.size ≤ g ∧ Kd.C (Kd.int .u8) w0 A0 f0.length f0
theorem IsS91.grown {w0 W : World} {g : Nat} {f0 : List Int} {f1 : Int} {W1 : World} {row : Option Nat} (h : IsS91 w0 W g f0 f1) (hw : W.grownBy W1 row) (hne : some g ≠ row) : IsS91 w0 W1 g f0 f1 := by
 obtain ⟨A0, c0, hb, hg, hr0⟩ := h
 exact ⟨A0, c0, blk_grown hb hw hne, hg, hr0⟩
theorem IsS91.own_neN {w0 W : World} {g : Nat} {f0 : List Int} {f1 : Int} {α : Type} {d : Kd α} {e : Nat} {base : Nat} {ok : Nat → Prop} {v : Value} {xs : List α} (h : IsS91 w0 W g f0 f1) (ho : Kd.N d e W base ok v xs) (ht : e ≠ 91) : some g ≠ v.ownBlock := by
 obtain ⟨A0, c0, hb, hg, hr0⟩ := h
 exact Kd.N_ne ho hb ht
theorem IsS91.fresh {w0 W : World} {g : Nat} {f0 : List Int} {f1 : Int} (h : IsS91 w0 W g f0 f1) : ∀ k, W.heap.size ≤ k → k ≠ g := by
 obtain ⟨A0, c0, hb, hg, hr0⟩ := h
 exact Kd.freshB hb
theorem IsS91.kept {w0 W : World} {g : Nat} {f0 : List Int} {f1 : Int} {W1 : World} {S : Nat → Prop} (h : IsS91 w0 W g f0 f1) (hk : Kept W W1 S) (hne : ¬ S g) : IsS91 w0 W1 g f0 f1 := by
 obtain ⟨A0, c0, hb, hg, hr0⟩ := h
 exact ⟨A0, c0, blk_kept hb hk hne, hg, hr0⟩
theorem IsS91.below {w0 W : World} {g : Nat} {f0 : List Int} {f1 : Int} {W1 : World} (h : IsS91 w0 W g f0 f1) (hw : Below W.heap.size W W1) : IsS91 w0 W1 g f0 f1 := h.grown (grown_of_below hw none) (by simp)
theorem IsS91.alloc {w0 W : World} {g : Nat} {f0 : List Int} {f1 : Int} (h : IsS91 w0 W g f0 f1) (o : Obj) : IsS91 w0 (W.alloc o) g f0 f1 := h.below (below_alloc (Below.refl _ _) o)
theorem IsS91.drewN {w0 W : World} {g : Nat} {f0 : List Int} {f1 : Int} (h : IsS91 w0 W g f0 f1) (m : Nat) : IsS91 w0 (W.drewN m) g f0 f1 := h
theorem IsS91.drew {w0 W : World} {g : Nat} {f0 : List Int} {f1 : Int} (h : IsS91 w0 W g f0 f1) : IsS91 w0 W.drew g f0 f1 := h
theorem IsS91.at_ {w0 W : World} {g : Nat} {f0 : List Int} {f1 : Int} {w' : World} {m : Nat} (hq : W.drewN m = w') (h : IsS91 w0 W g f0 f1) : IsS91 w0 w' g f0 f1 := by subst hq; exact IsS91.drewN h m
theorem IsS91.apart {w0 W : World} {g : Nat} {f0 : List Int} {f1 : Int} {α : Type} {d : Kd α} {e : Nat} {base : Nat} {ok : Nat → Prop} {v : Value} {xs : List α} (h : IsS91 w0 W g f0 f1) (ho : d.R e W base ok v xs) (ht : ∀ q, q ∈ e :: d.E → q ≠ 91) : d.R e W base (fun k => ok k ∧ k ≠ g) v xs := by
 obtain ⟨A0, c0, hb, hg, hr0⟩ := h
 exact Kd.R_types ho hb ht
theorem IsS91.own_ne {w0 W : World} {g : Nat} {f0 : List Int} {f1 : Int} {α : Type} {d : Kd α} {e : Nat} {base : Nat} {ok : Nat → Prop} {v : Value} {xs : List α} (h : IsS91 w0 W g f0 f1) (ho : d.R e W base ok v xs) (ht : e ≠ 91) : some g ≠ v.ownBlock := by
 obtain ⟨A0, c0, hb, hg, hr0⟩ := h
 exact Kd.R_ne ho hb ht
theorem IsS91.apartQ {w0 W : World} {g : Nat} {f0 : List Int} {f1 : Int} {α : Type} {d : Kd α} {e : Nat} {base : Nat} {ok : Nat → Prop} {v : Value} {xs : List α} (h : IsS91 w0 W g f0 f1) (ho : d.Q e W base ok v xs) (ht : ∀ q, q ∈ e :: d.E → q ≠ 91) : d.Q e W base (fun k => ok k ∧ k ≠ g) v xs := by
 obtain ⟨A0, c0, hb, hg, hr0⟩ := h
 exact Kd.Q_types ho hb ht
theorem IsS91.own_neQ {w0 W : World} {g : Nat} {f0 : List Int} {f1 : Int} {α : Type} {d : Kd α} {e : Nat} {base : Nat} {ok : Nat → Prop} {v : Value} {xs : List α} (h : IsS91 w0 W g f0 f1) (ho : d.Q e W base ok v xs) (ht : e ≠ 91) : some g ≠ v.ownBlock := by
 obtain ⟨A0, c0, hb, hg, hr0⟩ := h
 exact Kd.Q_ne ho hb ht
theorem IsS91.apartS {w0 W : World} {g : Nat} {f0 : List Int} {f1 : Int} {α : Type} {d : Kd α} {e : Nat} {base : Nat} {ok : Nat → Prop} {v : Value} {xs : List α} (h : IsS91 w0 W g f0 f1) (ho : d.S e W base ok v xs) (ht : ∀ q, q ∈ e :: d.E → q ≠ 91) : d.S e W base (fun k => ok k ∧ k ≠ g) v xs := by
 obtain ⟨A0, c0, hb, hg, hr0⟩ := h
 exact Kd.S_types ho hb ht
theorem IsS91.own_neS {w0 W : World} {g : Nat} {f0 : List Int} {f1 : Int} {α : Type} {d : Kd α} {e : Nat} {base : Nat} {ok : Nat → Prop} {v : Value} {xs : List α} (h : IsS91 w0 W g f0 f1) (ho : d.S e W base ok v xs) (ht : e ≠ 91) : some g ≠ v.ownBlock := by
 obtain ⟨A0, c0, hb, hg, hr0⟩ := h
 exact Kd.S_ne ho hb ht
theorem IsS91.lt {w0 W : World} {g : Nat} {f0 : List Int} {f1 : Int} (h : IsS91 w0 W g f0 f1) : g < W.heap.size := by
 obtain ⟨A0, c0, hb, hg, hr0⟩ := h
 exact blk_lt hb
theorem IsS91.ge {w0 W : World} {g : Nat} {f0 : List Int} {f1 : Int} (h : IsS91 w0 W g f0 f1) : w0.heap.size ≤ g := by
 obtain ⟨A0, c0, hb, hg, hr0⟩ := h
 exact hg
theorem IsS91.ne_blk {w0 W : World} {g : Nat} {f0 : List Int} {f1 : Int} {a : Nat} {cs : Array Value} {t : TypeId} {fr : Nat × Nat} (h : IsS91 w0 W g f0 f1) (hb2 : W.heap[a]? = some (.cells cs t fr)) (ht : t ≠ 91) : g ≠ a := by
 obtain ⟨A0, c0, hb, hg, hr0⟩ := h
 rintro rfl
 rw [hb] at hb2
 injection hb2 with hb2
 injection hb2 with _ ht2
 exact ht ht2.symm
theorem IsS91.far {w0 W : World} {g : Nat} {f0 : List Int} {f1 : Int} {p : Addr} (h : IsS91 w0 W g f0 f1) (hne : g ≠ p.block) (u : Value) : IsS91 w0 (W.setCell p u) g f0 f1 := by
 obtain ⟨A0, c0, hb, hg, hr0⟩ := h
 exact ⟨A0, c0, blk_far hb hne u, hg, hr0⟩
theorem cellS91_0 {W : World} {g : Nat} {A0 : Option Addr} {c0 : Nat} {f0 : List Int} {f1 : Int} (h : W.heap[g]? = some (.cells #[.slice A0 f0.length c0, .int .i64 f1] 91 (0, 0))) : W.cell? ⟨g, 0, none⟩ = some (.slice A0 f0.length c0) := (blk_cell h 0).trans rfl
theorem cellS91_1 {W : World} {g : Nat} {A0 : Option Addr} {c0 : Nat} {f0 : List Int} {f1 : Int} (h : W.heap[g]? = some (.cells #[.slice A0 f0.length c0, .int .i64 f1] 91 (0, 0))) : W.cell? ⟨g, 1, none⟩ = some (.int .i64 f1) := (blk_cell h 1).trans rfl
theorem IsS91.set_1 {w0 W : World} {g : Nat} {f0 : List Int} {f1 : Int} (h : IsS91 w0 W g f0 f1) (x : Int) : IsS91 w0 (W.setCell ⟨g, 1, none⟩ (.int .i64 x)) g f0 x := by
 obtain ⟨A0, c0, hb, hg, hr0⟩ := h
 exact ⟨A0, c0, by simpa using blk_set hb 1 (.int .i64 x), hg, hr0⟩
theorem IsS91.new (w0 W : World) (A0 : Option Addr) (c0 : Nat) (f0 : List Int) (f1 : Int) (hB : Below w0.heap.size w0 W) (hr0 : Kd.C (Kd.int .u8) w0 A0 f0.length f0) : IsS91 w0 (W.alloc (.cells #[.slice A0 f0.length c0, .int .i64 f1] 91)) W.heap.size f0 f1 := ⟨A0, c0, by simpa using heap_alloc_new W _, hB.size, hr0⟩

/-! ### spec_l20Rd_pick: function 70 -/
def spec_l20Rd_pick.j0 : Nat → Int → Bool → List Int → Int → Option (Int × Int)
 | 0, _, _, _, _ => none
 | k + 1, x1, x24, x1000, x1001 => if x24 = true then (some (0, x1001)) else (if (wrap64 (x1001 - 1)) < (x1000.length : Int) then (if 0 ≤ (wrap64 (x1001 - 1)) then (if x1 = 0 then (none) else (some (Int.tmod (wrap64 (rd x1000 (wrap64 (x1001 - 1)))) x1, x1001))) else (none)) else (if (x1000.length : Int) = 0 then (none) else (if 0 ≤ (Int.tmod (wrap64 (x1001 - 1)) (x1000.length : Int)) then (if (Int.tmod (wrap64 (x1001 - 1)) (x1000.length : Int)) < (x1000.length : Int) then (if 0 ≤ (Int.tmod (wrap64 ((wrap64 ((wrap64 (x1001 - 1)) * 7)) + 3)) (x1000.length : Int)) then (if (Int.tmod (wrap64 ((wrap64 ((wrap64 (x1001 - 1)) * 7)) + 3)) (x1000.length : Int)) < (x1000.length : Int) then (if x1 = 0 then (none) else (some (Int.tmod (Go.bits .xor .i64 (wrap64 ((wrap64 ((wrap64 ((wrap64 ((wrap64 (rd x1000 (Int.tmod (wrap64 (x1001 - 1)) (x1000.length : Int)))) * 131)) + (wrap64 ((wrap64 (rd x1000 (Int.tmod (wrap64 ((wrap64 ((wrap64 (x1001 - 1)) * 7)) + 3)) (x1000.length : Int)))) * 1117)))) + (wrap64 ((wrap64 (x1001 - 1)) * 29)))) + (wrap64 ((wrap64 (Int.tdiv (wrap64 (x1001 - 1)) (x1000.length : Int))) * 53)))) (wrap64 (Int.tdiv (wrap64 ((wrap64 ((wrap64 ((wrap64 ((wrap64 (rd x1000 (Int.tmod (wrap64 (x1001 - 1)) (x1000.length : Int)))) * 131)) + (wrap64 ((wrap64 (rd x1000 (Int.tmod (wrap64 ((wrap64 ((wrap64 (x1001 - 1)) * 7)) + 3)) (x1000.length : Int)))) * 1117)))) + (wrap64 ((wrap64 (x1001 - 1)) * 29)))) + (wrap64 ((wrap64 (Int.tdiv (wrap64 (x1001 - 1)) (x1000.length : Int))) * 53)))) 64))) x1, x1001))) else (none)) else (none)) else (none)) else (none))))
def spec_l20Rd_pick.f (k : Nat) (s0_0 : List Int) (s0_1 : Int) (a1 : Int) : Option (Int × Int) := if a1 < 1 then (spec_l20Rd_pick.j0 k a1 true s0_0 (wrap64 (s0_1 + 1))) else (spec_l20Rd_pick.j0 k a1 ((s0_0.length : Int) == 0) s0_0 (wrap64 (s0_1 + 1)))
set_option maxHeartbeats 8000000 in
set_option maxRecDepth 100000 in
theorem spec_l20Rd_pick.calls (k : Nat) (g : Nat) (s0_0 : List Int) (s0_1 : Int) (a1 : Int) (r1 : Int) (r2 : Int) (w0 w : World) (hI : IsS91 w0 w g s0_0 s0_1) (hB : Below w0.heap.size w0 w) (h : spec_l20Rd_pick.f k s0_0 s0_1 a1 = some (r1, r2)) :
  Calls Try.prog 70 #[.pointer (some ⟨g, 0, none⟩), .int .i64 a1] w fun e w' => e = .returned (.int .i64 r1) ∧ IsS91 w0 w' g s0_0 r2 ∧ Below w0.heap.size w0 w' ∧ KeepBut w w' g none := by
 have HI0 := Aside0.mk hI
 have HK := Aside0.mk (KeepBut.refl w g none)
 have HL := Aside0.mk hB.size
 clear hI
 have HW0 := Aside0.mk hB.size
 have HB := Aside0.mk hB
 clear hB
 have H : (if a1 < 1 then (spec_l20Rd_pick.j0 k a1 true s0_0 (wrap64 (s0_1 + 1))) else (spec_l20Rd_pick.j0 k a1 ((s0_0.length : Int) == 0) s0_0 (wrap64 (s0_1 + 1)))) = some (r1, r2) := h
 clear h
 have HC3 := Aside0.mk H
 clear H
 obtain ⟨ASz4_0, cSz4_0, HGz4, hgz4, HSz4_0⟩ := HI0.out
 have hcz4_0 := cellS91_0 HGz4
 have hcz4_1 := cellS91_1 HGz4
 have hfz4_1 := blk_frozen HGz4 1
 clear HGz4 hgz4
 go_enter Try.func70, Try.ntmps70
 go_upto_region 2 with (fail)
 repeat (go_quiet (fail); go_upto_region 2 with (fail))
 go_cut [24] (fun v24 wc => ∃ (kq : Nat) (x24_2 : Bool), v24 = .bool x24_2 ∧ Aside0 (spec_l20Rd_pick.j0 kq a1 x24_2 s0_0 (wrap64 (s0_1 + 1)) = some (r1, r2)) ∧ Aside0 (kq ≤ k) ∧ Aside0 (IsS91 w0 wc g s0_0 (wrap64 (s0_1 + 1))) ∧ Aside0 (KeepBut w wc g none) ∧ Aside0 (Below w0.heap.size w0 wc))
 case first =>
  have H := HC3.out
  clear HC3
  by_cases c5 : a1 < 1
  ·rw [if_pos c5] at H
   have c5b0 : decide (a1 < 1) = true := decide_eq_true c5
   clear c5
   (first | rw [c5b0] | (simp only [i64_w, i32_w]; rw [c5b0]) | skip)
   have H' := Aside0.mk H
   clear H
   go_wp2
   repeat (go_quiet (fail); try go_wp2)
   go_meet
   case rel => exact ⟨_, (true), rs_, H', ⟨by first | omega | exact Nat.le_refl _⟩, ⟨by repeat (first | (with_reducible first | exact HI0.out | apply IsS91.alloc | apply IsS91.drewN | apply IsS91.drew | apply IsS91.set_1) | exact HI0.out)⟩, ⟨by repeat (first | (with_reducible first | exact HK.out | apply KeepBut.set_ | apply keep_drewN | apply keep_drew | apply keep_alloc) | exact HK.out)⟩, ⟨by repeat (first | (with_reducible first | exact HB.out | apply below_alloc | apply pw_below_drewN | apply below_drew1 | refine below_set ?_ (IsS91.ge HI0.out)) | exact HB.out)⟩⟩
  ·rw [if_neg c5] at H
   have c5b0 : decide (a1 < 1) = false := decide_eq_false c5
   clear c5
   (first | rw [c5b0] | (simp only [i64_w, i32_w]; rw [c5b0]) | skip)
   have H' := Aside0.mk H
   clear H
   obtain ⟨ASz6_0, cSz6_0, HGz6, hgz6, HSz6_0⟩ := HI0.out
   have hcz6_0 := cellS91_0 HGz6
   have hcz6_1 := cellS91_1 HGz6
   have hfz6_1 := blk_frozen HGz6 1
   clear HGz6 hgz6
   go_wp2
   repeat (go_quiet (fail); try go_wp2)
   go_meet
   case rel => exact ⟨_, (((s0_0.length : Int) == 0)), rs_, H', ⟨by first | omega | exact Nat.le_refl _⟩, ⟨by repeat (first | (with_reducible first | exact HI0.out | apply IsS91.alloc | apply IsS91.drewN | apply IsS91.drew | apply IsS91.set_1) | exact HI0.out)⟩, ⟨by repeat (first | (with_reducible first | exact HK.out | apply KeepBut.set_ | apply keep_drewN | apply keep_drew | apply keep_alloc) | exact HK.out)⟩, ⟨by repeat (first | (with_reducible first | exact HB.out | apply below_alloc | apply pw_below_drewN | apply below_drew1 | refine below_set ?_ (IsS91.ge HI0.out)) | exact HB.out)⟩⟩
 case rest =>
  clear HC3
  try clear p2
  try clear c5
  try clear c5b0
  try clear p6
  try clear hcz4_0
  try clear hcz4_1
  try clear hcz6_0
  try clear hcz6_1
  try clear hfz4_1
  try clear hfz6_1
  obtain ⟨kq, x24_2, rfl, HA, HJ2, HI0, HK, HB⟩ := hcut
  cases kq with
  | zero => exact absurd HA.out (by simp [spec_l20Rd_pick.j0])
  | succ kj2 =>
   have H := HA.out
   clear HA
   simp only [spec_l20Rd_pick.j0] at H
   by_cases c7 : x24_2 = true
   ·subst c7
    have H1 : (some (0, (wrap64 (s0_1 + 1)))) = some (r1, r2) := by rw [if_pos rfl] at H; exact H
    clear H
    have H := H1
    clear H1
    simp only [Option.some.injEq, Prod.mk.injEq] at H
    obtain ⟨rfl, rfl⟩ := H
    go_wp2
    repeat (go_quiet (fail); try go_wp2)
    go_ret
    exact ⟨er_, by repeat (first | (with_reducible first | exact HI0.out | apply IsS91.alloc | apply IsS91.drewN | apply IsS91.drew | apply IsS91.set_1) | exact HI0.out), hs_ (IsS91.ge HI0.out), by repeat (first | (with_reducible first | exact HK.out | apply KeepBut.set_ | apply keep_drewN | apply keep_drew | apply keep_alloc) | exact HK.out)⟩
   ·replace c7 := Bool.eq_false_iff.mpr c7
    subst c7
    have H1 : (if (wrap64 ((wrap64 (s0_1 + 1)) - 1)) < (s0_0.length : Int) then (if 0 ≤ (wrap64 ((wrap64 (s0_1 + 1)) - 1)) then (if a1 = 0 then (none) else (some (Int.tmod (wrap64 (rd s0_0 (wrap64 ((wrap64 (s0_1 + 1)) - 1)))) a1, (wrap64 (s0_1 + 1))))) else (none)) else (if (s0_0.length : Int) = 0 then (none) else (if 0 ≤ (Int.tmod (wrap64 ((wrap64 (s0_1 + 1)) - 1)) (s0_0.length : Int)) then (if (Int.tmod (wrap64 ((wrap64 (s0_1 + 1)) - 1)) (s0_0.length : Int)) < (s0_0.length : Int) then (if 0 ≤ (Int.tmod (wrap64 ((wrap64 ((wrap64 ((wrap64 (s0_1 + 1)) - 1)) * 7)) + 3)) (s0_0.length : Int)) then (if (Int.tmod (wrap64 ((wrap64 ((wrap64 ((wrap64 (s0_1 + 1)) - 1)) * 7)) + 3)) (s0_0.length : Int)) < (s0_0.length : Int) then (if a1 = 0 then (none) else (some (Int.tmod (Go.bits .xor .i64 (wrap64 ((wrap64 ((wrap64 ((wrap64 ((wrap64 (rd s0_0 (Int.tmod (wrap64 ((wrap64 (s0_1 + 1)) - 1)) (s0_0.length : Int)))) * 131)) + (wrap64 ((wrap64 (rd s0_0 (Int.tmod (wrap64 ((wrap64 ((wrap64 ((wrap64 (s0_1 + 1)) - 1)) * 7)) + 3)) (s0_0.length : Int)))) * 1117)))) + (wrap64 ((wrap64 ((wrap64 (s0_1 + 1)) - 1)) * 29)))) + (wrap64 ((wrap64 (Int.tdiv (wrap64 ((wrap64 (s0_1 + 1)) - 1)) (s0_0.length : Int))) * 53)))) (wrap64 (Int.tdiv (wrap64 ((wrap64 ((wrap64 ((wrap64 ((wrap64 (rd s0_0 (Int.tmod (wrap64 ((wrap64 (s0_1 + 1)) - 1)) (s0_0.length : Int)))) * 131)) + (wrap64 ((wrap64 (rd s0_0 (Int.tmod (wrap64 ((wrap64 ((wrap64 ((wrap64 (s0_1 + 1)) - 1)) * 7)) + 3)) (s0_0.length : Int)))) * 1117)))) + (wrap64 ((wrap64 ((wrap64 (s0_1 + 1)) - 1)) * 29)))) + (wrap64 ((wrap64 (Int.tdiv (wrap64 ((wrap64 (s0_1 + 1)) - 1)) (s0_0.length : Int))) * 53)))) 64))) a1, (wrap64 (s0_1 + 1))))) else (none)) else (none)) else (none)) else (none)))) = some (r1, r2) := by rw [if_neg (show ¬ (false = true) by decide)] at H; exact H
    clear H
    have H := H1
    clear H1
    by_cases c8 : (wrap64 ((wrap64 (s0_1 + 1)) - 1)) < (s0_0.length : Int)
    ·rw [if_pos c8] at H
     have c8b0 : decide ((wrap64 ((wrap64 (s0_1 + 1)) - 1)) < (s0_0.length : Int)) = true := decide_eq_true c8
     clear c8
     obtain ⟨ji9, hji9⟩ : ∃ j_ : Int, (wrap64 ((wrap64 (s0_1 + 1)) - 1)) = j_ := ⟨_, rfl⟩
     replace H : (if 0 ≤ (ji9) then (if a1 = 0 then (none) else (some (Int.tmod (wrap64 (rd s0_0 (ji9))) a1, (wrap64 (s0_1 + 1))))) else (none)) = some (r1, r2) := by first | (rw [hji9] at H; exact H) | (simp only [hji9] at H ⊢; exact H)
     (try rw [hji9] at c8b0)
     have hji9w : (IntKind.i64.wrap ((wrap64 (s0_1 + 1)) - 1)) = ji9 := (i64_w _).trans hji9
     by_cases c10 : 0 ≤ (ji9); rotate_left
     ·rw [if_neg c10] at H; exact absurd H (by simp)
     rw [if_pos c10] at H
     have c10b0 : decide (0 ≤ (ji9)) = true := decide_eq_true c10
     clear c10
     by_cases c11 : a1 = 0
     ·rw [if_pos c11] at H
      exact absurd H (by simp)
     ·rw [if_neg c11] at H
      have c11b0 : (a1 == 0) = false := beq_eq_false_iff_ne.mpr c11
      have c11b1 : (a1 != 0) = true := bne_iff_ne.mpr c11
      simp only [Option.some.injEq, Prod.mk.injEq] at H
      obtain ⟨rfl, rfl⟩ := H
      obtain ⟨ASz12_0, cSz12_0, HGz12, hgz12, HSz12_0⟩ := HI0.out
      have hcz12_0 := cellS91_0 HGz12
      have hcz12_1 := cellS91_1 HGz12
      have hfz12_1 := blk_frozen HGz12 1
      clear HGz12 hgz12
      have p274 : 0 ≤ ((ji9) : Int) := dt_
      have q274 : (ji9) < (s0_0.length : Int) := dt_
      obtain ⟨ad274, e274, hx274_0⟩ := Kd.at_int HSz12_0 (ji9) p274 q274
      cases e274
      replace hx274_0 := pw_cell_below HB.out hx274_0
      replace p274 := eq_true p274
      replace q274 := eq_true q274
      go_wp2
      repeat (go_quiet (fail); try go_wp2)
      go_ret
      exact ⟨by first | rfl | (simp [errW_none, errW_some] <;> rfl) | (simp only [← hji9]; first | rfl | (simp [errW_none, errW_some] <;> rfl)) | (simp [*, errW_none, errW_some] <;> rfl), by repeat (first | (with_reducible first | exact HI0.out | apply IsS91.alloc | apply IsS91.drewN | apply IsS91.drew | apply IsS91.set_1) | exact HI0.out), hs_ (IsS91.ge HI0.out), by repeat (first | (with_reducible first | exact HK.out | apply KeepBut.set_ | apply keep_drewN | apply keep_drew | apply keep_alloc) | exact HK.out)⟩
    ·rw [if_neg c8] at H
     have c8b0 : decide ((wrap64 ((wrap64 (s0_1 + 1)) - 1)) < (s0_0.length : Int)) = false := decide_eq_false c8
     clear c8
     by_cases c13 : (s0_0.length : Int) = 0
     ·rw [if_pos c13] at H
      exact absurd H (by simp)
     ·rw [if_neg c13] at H
      have c13b0 : ((s0_0.length : Int) == 0) = false := beq_eq_false_iff_ne.mpr c13
      have c13b1 : ((s0_0.length : Int) != 0) = true := bne_iff_ne.mpr c13
      have c13b2 : ¬ (s0_0 = []) := fun h_ => c13 (by rw [h_]; rfl)
      obtain ⟨ji14, hji14⟩ : ∃ j_ : Int, (Int.tmod (wrap64 ((wrap64 (s0_1 + 1)) - 1)) (s0_0.length : Int)) = j_ := ⟨_, rfl⟩
      replace H : (if 0 ≤ (ji14) then (if (ji14) < (s0_0.length : Int) then (if 0 ≤ (Int.tmod (wrap64 ((wrap64 ((wrap64 ((wrap64 (s0_1 + 1)) - 1)) * 7)) + 3)) (s0_0.length : Int)) then (if (Int.tmod (wrap64 ((wrap64 ((wrap64 ((wrap64 (s0_1 + 1)) - 1)) * 7)) + 3)) (s0_0.length : Int)) < (s0_0.length : Int) then (if a1 = 0 then (none) else (some (Int.tmod (Go.bits .xor .i64 (wrap64 ((wrap64 ((wrap64 ((wrap64 ((wrap64 (rd s0_0 (ji14))) * 131)) + (wrap64 ((wrap64 (rd s0_0 (Int.tmod (wrap64 ((wrap64 ((wrap64 ((wrap64 (s0_1 + 1)) - 1)) * 7)) + 3)) (s0_0.length : Int)))) * 1117)))) + (wrap64 ((wrap64 ((wrap64 (s0_1 + 1)) - 1)) * 29)))) + (wrap64 ((wrap64 (Int.tdiv (wrap64 ((wrap64 (s0_1 + 1)) - 1)) (s0_0.length : Int))) * 53)))) (wrap64 (Int.tdiv (wrap64 ((wrap64 ((wrap64 ((wrap64 ((wrap64 (rd s0_0 (ji14))) * 131)) + (wrap64 ((wrap64 (rd s0_0 (Int.tmod (wrap64 ((wrap64 ((wrap64 ((wrap64 (s0_1 + 1)) - 1)) * 7)) + 3)) (s0_0.length : Int)))) * 1117)))) + (wrap64 ((wrap64 ((wrap64 (s0_1 + 1)) - 1)) * 29)))) + (wrap64 ((wrap64 (Int.tdiv (wrap64 ((wrap64 (s0_1 + 1)) - 1)) (s0_0.length : Int))) * 53)))) 64))) a1, (wrap64 (s0_1 + 1))))) else (none)) else (none)) else (none)) else (none)) = some (r1, r2) := by first | (rw [hji14] at H; exact H) | (simp only [hji14] at H ⊢; exact H)
      by_cases c15 : 0 ≤ (ji14); rotate_left
      ·rw [if_neg c15] at H; exact absurd H (by simp)
      rw [if_pos c15] at H
      have c15b0 : decide (0 ≤ (ji14)) = true := decide_eq_true c15
      clear c15
      by_cases c16 : (ji14) < (s0_0.length : Int); rotate_left
      ·rw [if_neg c16] at H; exact absurd H (by simp)
      rw [if_pos c16] at H
      have c16b0 : decide ((ji14) < (s0_0.length : Int)) = true := decide_eq_true c16
      clear c16
      obtain ⟨ji17, hji17⟩ : ∃ j_ : Int, (Int.tmod (wrap64 ((wrap64 ((wrap64 ((wrap64 (s0_1 + 1)) - 1)) * 7)) + 3)) (s0_0.length : Int)) = j_ := ⟨_, rfl⟩
      replace H : (if 0 ≤ (ji17) then (if (ji17) < (s0_0.length : Int) then (if a1 = 0 then (none) else (some (Int.tmod (Go.bits .xor .i64 (wrap64 ((wrap64 ((wrap64 ((wrap64 ((wrap64 (rd s0_0 (ji14))) * 131)) + (wrap64 ((wrap64 (rd s0_0 (ji17))) * 1117)))) + (wrap64 ((wrap64 ((wrap64 (s0_1 + 1)) - 1)) * 29)))) + (wrap64 ((wrap64 (Int.tdiv (wrap64 ((wrap64 (s0_1 + 1)) - 1)) (s0_0.length : Int))) * 53)))) (wrap64 (Int.tdiv (wrap64 ((wrap64 ((wrap64 ((wrap64 ((wrap64 (rd s0_0 (ji14))) * 131)) + (wrap64 ((wrap64 (rd s0_0 (ji17))) * 1117)))) + (wrap64 ((wrap64 ((wrap64 (s0_1 + 1)) - 1)) * 29)))) + (wrap64 ((wrap64 (Int.tdiv (wrap64 ((wrap64 (s0_1 + 1)) - 1)) (s0_0.length : Int))) * 53)))) 64))) a1, (wrap64 (s0_1 + 1))))) else (none)) else (none)) = some (r1, r2) := by first | (rw [hji17] at H; exact H) | (simp only [hji17] at H ⊢; exact H)
      by_cases c18 : 0 ≤ (ji17); rotate_left
      ·rw [if_neg c18] at H; exact absurd H (by simp)
      rw [if_pos c18] at H
      have c18b0 : decide (0 ≤ (ji17)) = true := decide_eq_true c18
      clear c18
      by_cases c19 : (ji17) < (s0_0.length : Int); rotate_left
      ·rw [if_neg c19] at H; exact absurd H (by simp)
      rw [if_pos c19] at H
      have c19b0 : decide ((ji17) < (s0_0.length : Int)) = true := decide_eq_true c19
      clear c19
      by_cases c20 : a1 = 0
      ·rw [if_pos c20] at H
       exact absurd H (by simp)
      ·rw [if_neg c20] at H
       have c20b0 : (a1 == 0) = false := beq_eq_false_iff_ne.mpr c20
       have c20b1 : (a1 != 0) = true := bne_iff_ne.mpr c20
       simp only [Option.some.injEq, Prod.mk.injEq] at H
       obtain ⟨rfl, rfl⟩ := H
       obtain ⟨ASz21_0, cSz21_0, HGz21, hgz21, HSz21_0⟩ := HI0.out
       have hcz21_0 := cellS91_0 HGz21
       have hcz21_1 := cellS91_1 HGz21
       have hfz21_1 := blk_frozen HGz21 1
       clear HGz21 hgz21
       have p275 : 0 ≤ ((ji14) : Int) := dt_
       have q275 : (ji14) < (s0_0.length : Int) := dt_
       obtain ⟨ad275, e275, hx275_0⟩ := Kd.at_int HSz21_0 (ji14) p275 q275
       cases e275
       replace hx275_0 := pw_cell_below HB.out hx275_0
       replace p275 := eq_true p275
       replace q275 := eq_true q275
       have p276 : 0 ≤ ((ji17) : Int) := dt_
       have q276 : (ji17) < (s0_0.length : Int) := dt_
       obtain ⟨ad276, e276, hx276_0⟩ := Kd.at_int HSz21_0 (ji17) p276 q276
       obtain rfl : ad275 = ad276 := (by injection e276)
       replace hx276_0 := pw_cell_below HB.out hx276_0
       replace p276 := eq_true p276
       replace q276 := eq_true q276
       go_wp2
       repeat (go_quiet (fail); try go_wp2)
       go_ret
       exact ⟨by first | rfl | (simp [errW_none, errW_some] <;> rfl) | (simp only [← hji14, ← hji17]; first | rfl | (simp [errW_none, errW_some] <;> rfl)) | (simp [*, errW_none, errW_some] <;> rfl), by repeat (first | (with_reducible first | exact HI0.out | apply IsS91.alloc | apply IsS91.drewN | apply IsS91.drew | apply IsS91.set_1) | exact HI0.out), hs_ (IsS91.ge HI0.out), by repeat (first | (with_reducible first | exact HK.out | apply KeepBut.set_ | apply keep_drewN | apply keep_drew | apply keep_alloc) | exact HK.out)⟩
/-! ### spec_l20Rd_odd: function 74 -/
def spec_l20Rd_odd.f (k : Nat) (s0_0 : List Int) (s0_1 : Int) (a1 : Int) : Option (Bool × Int) := if a1 > 0 then ((spec_l20Rd_pick.f k s0_0 s0_1 a1).bind fun bt277 => (some ((bt277.1 == (wrap64 (a1 - 1))), bt277.2))) else (some (false, s0_1))
set_option maxHeartbeats 8000000 in
set_option maxRecDepth 100000 in
theorem spec_l20Rd_odd.calls (k : Nat) (g : Nat) (s0_0 : List Int) (s0_1 : Int) (a1 : Int) (r1 : Bool) (r2 : Int) (w0 w : World) (hI : IsS91 w0 w g s0_0 s0_1) (hB : Below w0.heap.size w0 w) (h : spec_l20Rd_odd.f k s0_0 s0_1 a1 = some (r1, r2)) :
  Calls Try.prog 74 #[.pointer (some ⟨g, 0, none⟩), .int .i64 a1] w fun e w' => e = .returned (.bool r1) ∧ IsS91 w0 w' g s0_0 r2 ∧ Below w0.heap.size w0 w' ∧ KeepBut w w' g none := by
 have HI0 := Aside0.mk hI
 have HK := Aside0.mk (KeepBut.refl w g none)
 have HL := Aside0.mk hB.size
 clear hI
 have HW0 := Aside0.mk hB.size
 have HB := Aside0.mk hB
 clear hB
 have H : (if a1 > 0 then ((spec_l20Rd_pick.f k s0_0 s0_1 a1).bind fun bt277 => (some ((bt277.1 == (wrap64 (a1 - 1))), bt277.2))) else (some (false, s0_1))) = some (r1, r2) := h
 clear h
 by_cases c3 : a1 > 0
 ·rw [if_pos c3] at H
  have c3b0 : decide (0 < a1) = true := decide_eq_true c3
  clear c3
  replace H := Option.bind_eq_some_iff.mp H
  obtain ⟨⟨t277, t278⟩, A40, H⟩ := H
  replace H : (some ((t277 == (wrap64 (a1 - 1))), t278)) = some (r1, r2) := H
  have A4 := Aside0.mk A40
  clear A40
  simp only [Option.some.injEq, Prod.mk.injEq] at H
  obtain ⟨rfl, rfl⟩ := H
  go_enter Try.func74, Try.ntmps74
  go_wp2_with (first | (go_at_call 70; (with_reducible refine (spec_l20Rd_pick.calls k g s0_0 s0_1 a1 t277 t278 w0 _ ?side1 ?side2 A4.out).mono ?_); (case side1 => repeat (first | (with_reducible first | exact HI0.out | apply IsS91.alloc | apply IsS91.drewN | apply IsS91.drew | apply IsS91.set_1) | exact HI0.out)); (case side2 => exact hs_ (IsS91.ge HI0.out)); rintro e w5 ⟨rfl, hi, hb, hk⟩; replace HK := Aside0.mk (KeepBut.trans hK0_ hk (.inl rfl)); replace HB := Aside0.mk (hb); replace HI0 := Aside0.mk (hi); (try clear hb); (try clear hk); (try clear hi)))
  go_ret
  exact ⟨er_, by repeat (first | (with_reducible first | exact HI0.out | apply IsS91.alloc | apply IsS91.drewN | apply IsS91.drew | apply IsS91.set_1) | exact HI0.out), hs_ (IsS91.ge HI0.out), by repeat (first | (with_reducible first | exact HK.out | apply KeepBut.set_ | apply keep_drewN | apply keep_drew | apply keep_alloc) | exact HK.out)⟩
 ·rw [if_neg c3] at H
  have c3b0 : decide (0 < a1) = false := decide_eq_false c3
  clear c3
  simp only [Option.some.injEq, Prod.mk.injEq] at H
  obtain ⟨rfl, rfl⟩ := H
  go_enter Try.func74, Try.ntmps74
  go_wp2
  go_ret
  exact ⟨er_, by repeat (first | (with_reducible first | exact HI0.out | apply IsS91.alloc | apply IsS91.drewN | apply IsS91.drew | apply IsS91.set_1) | exact HI0.out), hs_ (IsS91.ge HI0.out), by repeat (first | (with_reducible first | exact HK.out | apply KeepBut.set_ | apply keep_drewN | apply keep_drew | apply keep_alloc) | exact HK.out)⟩
/-! ### spec_l20Open: function 67 -/
def spec_l20Open.f (l0 : List Int) : Option (List Int × Int) := if (l0.length : Int) > 2000 then (if 2000 ≤ (l0.length : Int) then (some (l0.take 2000, 0)) else (none)) else (some (l0, 0))
set_option maxHeartbeats 8000000 in
set_option maxRecDepth 100000 in
theorem spec_l20Open.calls (A0 : Option Addr) (c0 : Nat) (l0 : List Int) (r1 : List Int) (r2 : Int) (w0 w : World) (hB : Below w0.heap.size w0 w) (hr0 : Kd.C (Kd.int .u8) w0 A0 l0.length l0) (hc0 : l0.length ≤ c0) (h : spec_l20Open.f l0 = some (r1, r2)) :
  Calls Try.prog 67 #[.slice A0 l0.length c0] w fun e w' => ∃ g_ : Nat, e = .returned (.pointer (some ⟨g_, 0, none⟩)) ∧ IsS91 w0 w' g_ r1 r2 ∧ Below w0.heap.size w0 w' ∧ Below w.heap.size w w' := by
 have hu91 := Try.underlying91
 have HR0 := Aside0.mk hr0
 have HC0 := Aside0.mk hc0
 clear hr0 hc0
 have HBW := Aside0.mk (Below.refl w.heap.size w)
 have HW0 := Aside0.mk hB.size
 have HB := Aside0.mk hB
 clear hB
 have H : (if (l0.length : Int) > 2000 then (if 2000 ≤ (l0.length : Int) then (some (l0.take 2000, 0)) else (none)) else (some (l0, 0))) = some (r1, r2) := h
 clear h
 by_cases c2 : (l0.length : Int) > 2000
 ·rw [if_pos c2] at H
  have c2b0 : decide (2000 < (l0.length : Int)) = true := decide_eq_true c2
  have c2b1 : decide (2000 < l0.length) = true := decide_eq_true (by omega)
  clear c2
  by_cases c3 : 2000 ≤ (l0.length : Int); rotate_left
  ·rw [if_neg c3] at H; exact absurd H (by simp)
  rw [if_pos c3] at H
  have c3b0 := eq_true c3
  have c3b1 : decide (2000 ≤ (l0.length : Int)) = true := decide_eq_true c3
  clear c3
  simp only [Option.some.injEq, Prod.mk.injEq] at H
  obtain ⟨rfl, rfl⟩ := H
  obtain ⟨i04, hi04, _, hsz4, _⟩ := info_parts info5
  obtain ⟨hcut4, hA4, hC4⟩ := print_take_of (P := Try.prog) (Value.int .u8) 0 34 5 .i64 Try.underlying34 hi04 hsz4 A0 c0 l0 2000 (by omega) (dt_) HC0.out
  have HR343 := Aside0.mk (Kd.C_of_reads (h1 := fun _ => rfl) (hA4 _ (Kd.reads_of_C HR0.out)))
  have HC343 := Aside0.mk hC4
  clear hA4 hC4 hi04 hsz4
  go_enter Try.func67, Try.ntmps67
  go_wp2_with (first | ((with_reducible refine gate_dst (N := 10) rfl ?_); refine box_event ?hg (N := 10) ?hd (cs := #[.slice A0 (l0.take 2000).length c0, .int .i64 0]) (t := 91) ?hr ?_; (case hd => rfl); (case hg => rfl); (case hr => first | (go_simp; done) | (go_simp; rfl)); intro gb344 hg w5 hbox hb; have n0_ := Aside0.mk (below_step HBW.out hb); have n1_ := Aside0.mk (below_step hb_ hb); have n2_ := Aside0.mk (hbox); have n3_ := Aside0.mk ((by rw [hg]; exact (below_size (by repeat (first | (with_reducible first | exact HBW.out | apply below_alloc | apply pw_below_drewN | apply below_drew1) | exact HBW.out))) : w.heap.size ≤ gb344)); have n4_ := Aside0.mk ((Nat.le_trans HW0.out (by rw [hg]; exact (below_size (by repeat (first | (with_reducible first | exact HBW.out | apply below_alloc | apply pw_below_drewN | apply below_drew1) | exact HBW.out))) : w.heap.size ≤ gb344) : w0.heap.size ≤ gb344)); clear HBW; clear HB; have HBW := n0_; have HB := n1_; have BK344 := n2_; have GW344 := n3_; have GE344 := n4_; clear n0_ n1_ n2_ n3_ n4_; clear hb hbox hg))
  go_ret
  exact ⟨_, rfl, (show IsS91 w0 _ gb344 (l0.take 2000) 0 from ⟨_, _, by (with_reducible repeat (first | refine blk_drewN ?_ _ | refine blk_drew ?_ | refine blk_alloc ?_ _)); exact BK344.out, GE344.out, HR343.out⟩), hs_ GE344.out, by repeat (first | (with_reducible first | exact HBW.out | apply below_alloc | apply pw_below_drewN | apply below_drew1 | refine below_set ?_ GW344.out) | exact HBW.out)⟩
 ·rw [if_neg c2] at H
  have c2b0 : decide (2000 < (l0.length : Int)) = false := decide_eq_false c2
  have c2b1 : decide (2000 < l0.length) = false := decide_eq_false (by omega)
  clear c2
  simp only [Option.some.injEq, Prod.mk.injEq] at H
  obtain ⟨rfl, rfl⟩ := H
  go_enter Try.func67, Try.ntmps67
  go_wp2_with (first | ((with_reducible refine gate_dst (N := 10) rfl ?_); refine box_event ?hg (N := 10) ?hd (cs := #[.slice A0 l0.length c0, .int .i64 0]) (t := 91) ?hr ?_; (case hd => rfl); (case hg => rfl); (case hr => first | (go_simp; done) | (go_simp; rfl)); intro gb345 hg w6 hbox hb; have n0_ := Aside0.mk (below_step HBW.out hb); have n1_ := Aside0.mk (below_step hb_ hb); have n2_ := Aside0.mk (hbox); have n3_ := Aside0.mk ((by rw [hg]; exact (below_size (by repeat (first | (with_reducible first | exact HBW.out | apply below_alloc | apply pw_below_drewN | apply below_drew1) | exact HBW.out))) : w.heap.size ≤ gb345)); have n4_ := Aside0.mk ((Nat.le_trans HW0.out (by rw [hg]; exact (below_size (by repeat (first | (with_reducible first | exact HBW.out | apply below_alloc | apply pw_below_drewN | apply below_drew1) | exact HBW.out))) : w.heap.size ≤ gb345) : w0.heap.size ≤ gb345)); clear HBW; clear HB; have HBW := n0_; have HB := n1_; have BK345 := n2_; have GW345 := n3_; have GE345 := n4_; clear n0_ n1_ n2_ n3_ n4_; clear hb hbox hg))
  go_ret
  exact ⟨_, rfl, (show IsS91 w0 _ gb345 l0 0 from ⟨_, _, by (with_reducible repeat (first | refine blk_drewN ?_ _ | refine blk_drew ?_ | refine blk_alloc ?_ _)); exact BK345.out, GE345.out, HR0.out⟩), hs_ GE345.out, by repeat (first | (with_reducible first | exact HBW.out | apply below_alloc | apply pw_below_drewN | apply below_drew1 | refine below_set ?_ GW345.out) | exact HBW.out)⟩
/-! ### impl_isDigit: function 86 -/
def impl_isDigit.f (a0 : Int) : Option (Bool) := if a0 ≥ 48 then (some (decide (a0 ≤ 57))) else (some false)
set_option maxHeartbeats 8000000 in
set_option maxRecDepth 100000 in
theorem impl_isDigit.calls (a0 : Int) (r : Bool) (w : World) (h : impl_isDigit.f a0 = some r) :
  Calls Try.prog 86 #[.int .u8 a0] w fun e w' => e = .returned (.bool r) ∧ Drawn0 w w' := by
 have H : (if a0 ≥ 48 then (some (decide (a0 ≤ 57))) else (some false)) = some r := h
 clear h
 by_cases c2 : a0 ≥ 48
 ·rw [if_pos c2] at H
  have c2b0 : decide (48 ≤ a0) = true := decide_eq_true c2
  clear c2
  obtain rfl := Option.some.inj H
  go_enter Try.func86, Try.ntmps86
  go_wp2
  go_ret
  exact ⟨rs_, dw_⟩
 ·rw [if_neg c2] at H
  have c2b0 : decide (48 ≤ a0) = false := decide_eq_false c2
  clear c2
  obtain rfl := Option.some.inj H
  go_enter Try.func86, Try.ntmps86
  go_wp2
  go_ret
  exact ⟨rs_, dw_⟩
/-! ### impl_isSmall: function 87 -/
def impl_isSmall.f (a0 : Int) : Option (Bool) := if a0 ≥ 97 then (some (decide (a0 ≤ 122))) else (some false)
set_option maxHeartbeats 8000000 in
set_option maxRecDepth 100000 in
theorem impl_isSmall.calls (a0 : Int) (r : Bool) (w : World) (h : impl_isSmall.f a0 = some r) :
  Calls Try.prog 87 #[.int .u8 a0] w fun e w' => e = .returned (.bool r) ∧ Drawn0 w w' := by
 have H : (if a0 ≥ 97 then (some (decide (a0 ≤ 122))) else (some false)) = some r := h
 clear h
 by_cases c2 : a0 ≥ 97
 ·rw [if_pos c2] at H
  have c2b0 : decide (97 ≤ a0) = true := decide_eq_true c2
  clear c2
  obtain rfl := Option.some.inj H
  go_enter Try.func87, Try.ntmps87
  go_wp2
  go_ret
  exact ⟨rs_, dw_⟩
 ·rw [if_neg c2] at H
  have c2b0 : decide (97 ≤ a0) = false := decide_eq_false c2
  clear c2
  obtain rfl := Option.some.inj H
  go_enter Try.func87, Try.ntmps87
  go_wp2
  go_ret
  exact ⟨rs_, dw_⟩
/-! ### impl_WordValid: function 69 -/
mutual
def impl_WordValid.j0 : Nat → ByteArray → Bool → Option (Bool)
 | 0, _, _ => none
 | k + 1, x0, x16 => if x16 = true then (some false) else (impl_WordValid.l0 k x0 0)
def impl_WordValid.l0 : Nat → ByteArray → Int → Option (Bool)
 | 0, _, _ => none
 | k + 1, x0, x3 => if x3 < (x0.size : Int) then (if 0 ≤ x3 then ((impl_isSmall.f (bt x0 x3)).bind fun t356 => (if t356 = true then (impl_WordValid.l0 k x0 (wrap64 (x3 + 1))) else ((impl_isDigit.f (bt x0 x3)).bind fun t357 => (if t357 = true then (impl_WordValid.l0 k x0 (wrap64 (x3 + 1))) else (some false))))) else (none)) else (some true)
end
def impl_WordValid.f (k : Nat) (a0 : ByteArray) : Option (Bool) := if (a0.size : Int) < 1 then (impl_WordValid.j0 k a0 true) else (if (a0.size : Int) > 8 then (impl_WordValid.j0 k a0 true) else (if 0 < (a0.size : Int) then ((impl_isDigit.f (bt a0 0)).bind fun t355 => (impl_WordValid.j0 k a0 t355)) else (none)))
set_option maxHeartbeats 8000000 in
set_option maxRecDepth 100000 in
theorem impl_WordValid.calls (k : Nat) (a0 : ByteArray) (r : Bool) (w : World) (h : impl_WordValid.f k a0 = some r) :
  Calls Try.prog 69 #[.string a0] w fun e w' => e = .returned (.bool r) ∧ Drawn0 w w' := by
 have H : (if (a0.size : Int) < 1 then (impl_WordValid.j0 k a0 true) else (if (a0.size : Int) > 8 then (impl_WordValid.j0 k a0 true) else (if 0 < (a0.size : Int) then ((impl_isDigit.f (bt a0 0)).bind fun t355 => (impl_WordValid.j0 k a0 t355)) else (none)))) = some r := h
 clear h
 have HC2 := Aside0.mk H
 clear H
 go_enter Try.func69, Try.ntmps69
 go_upto_region 1 with (fail)
 go_cut [16] (fun v16 wc => ∃ (kq : Nat) (x16_1 : Bool), v16 = .bool x16_1 ∧ Aside0 (impl_WordValid.j0 kq a0 x16_1 = some r) ∧ Aside0 (kq ≤ k) ∧ Drawn0 w wc)
 case first =>
  have H := HC2.out
  clear HC2
  by_cases c3 : (a0.size : Int) < 1
  ·rw [if_pos c3] at H
   have c3b0 : decide ((a0.size : Int) < 1) = true := decide_eq_true c3
   have c3b1 : decide (a0.size < 1) = true := decide_eq_true (by omega)
   clear c3
   (first | rw [c3b0] | (simp only [i64_w, i32_w]; rw [c3b0]) | skip)
   have H' := Aside0.mk H
   clear H
   go_wp2
   go_meet
   case rel => exact ⟨_, (true), rs_, H', ⟨by first | omega | exact Nat.le_refl _⟩, dw_⟩
  ·rw [if_neg c3] at H
   have c3b0 : decide ((a0.size : Int) < 1) = false := decide_eq_false c3
   have c3b1 : decide (a0.size < 1) = false := decide_eq_false (by omega)
   clear c3
   (first | rw [c3b0] | (simp only [i64_w, i32_w]; rw [c3b0]) | skip)
   by_cases c4 : (a0.size : Int) > 8
   ·rw [if_pos c4] at H
    have c4b0 : decide (8 < (a0.size : Int)) = true := decide_eq_true c4
    have c4b1 : decide (8 < a0.size) = true := decide_eq_true (by omega)
    clear c4
    have H' := Aside0.mk H
    clear H
    go_wp2
    go_meet
    case rel => exact ⟨_, (true), rs_, H', ⟨by first | omega | exact Nat.le_refl _⟩, dw_⟩
   ·rw [if_neg c4] at H
    have c4b0 : decide (8 < (a0.size : Int)) = false := decide_eq_false c4
    have c4b1 : decide (8 < a0.size) = false := decide_eq_false (by omega)
    clear c4
    by_cases c5 : 0 < (a0.size : Int); rotate_left
    ·rw [if_neg c5] at H; exact absurd H (by simp)
    rw [if_pos c5] at H
    have c5b0 : decide (0 < (a0.size : Int)) = true := decide_eq_true c5
    have c5b1 : decide (0 < a0.size) = true := decide_eq_true (by omega)
    clear c5
    replace H := Option.bind_eq_some_iff.mp H
    obtain ⟨t355, A70, H⟩ := H
    replace H : (impl_WordValid.j0 k a0 t355) = some r := H
    have A7 := Aside0.mk A70
    clear A70
    have H' := Aside0.mk H
    clear H
    have p6 : 0 ≤ (0 : Int) := (by omega)
    have q6 : 0 < a0.size := (by have : (0 : Int) < (a0.size : Int) := dt_; omega)
    have hx6 : ∀ h : 0 < a0.size, ((a0[0]'h).toNat : Int) = bt a0 0 := bt_at a0 0
    clear p6
    have qi6 : (0 < (a0.size : Int)) = True := eq_true (dt_)
    replace q6 := eq_true q6
    go_wp2_with (first | (go_at_call 86; (with_reducible refine (impl_isDigit.calls (bt a0 0) t355 _ A7.out).mono ?_); rintro e w' ⟨rfl, ⟨nd, rfl⟩⟩))
    go_meet
    case rel => exact ⟨_, (t355), rs_, H', ⟨by first | omega | exact Nat.le_refl _⟩, dw_⟩
 case rest =>
  clear HC2
  try clear p2
  try clear c3
  try clear c3b0
  try clear c3b1
  try clear c4
  try clear c4b0
  try clear c4b1
  try clear c5
  try clear c5b0
  try clear c5b1
  try clear c6
  try clear p6
  try clear q6
  try clear hx6
  try clear qi6
  try clear p6
  try clear q6
  obtain ⟨kq, x16_1, rfl, HA, HJ1, ⟨mc1, rfl⟩⟩ := hcut
  cases kq with
  | zero => exact absurd HA.out (by simp [impl_WordValid.j0])
  | succ kj1 =>
   have H := HA.out
   clear HA
   simp only [impl_WordValid.j0] at H
   by_cases c8 : x16_1 = true
   ·subst c8
    have H1 : (some false) = some r := by rw [if_pos rfl] at H; exact H
    clear H
    have H := H1
    clear H1
    obtain rfl := Option.some.inj H
    go_wp2
    go_ret
    exact ⟨rs_, dw_⟩
   ·replace c8 := Bool.eq_false_iff.mpr c8
    subst c8
    have H1 : (impl_WordValid.l0 kj1 a0 0) = some r := by rw [if_neg (show ¬ (false = true) by decide)] at H; exact H
    clear H
    have H := H1
    clear H1
    have H' := Aside0.mk H
    clear H
    go_wp2
    go_loopg [3] kj1 (fun kq v3 w' => ∃ (x3_2 : Int), v3 = .int .i64 x3_2 ∧ Aside0 (impl_WordValid.l0 kq a0 x3_2 = some r) ∧ Aside0 (kq ≤ kj1) ∧ Drawn0 w w')
    case atStart => exact ⟨(0), rs_, H', ⟨Nat.le_refl _⟩, dw_⟩
    case round =>
     clear H'
     try clear c1
     try clear p2
     try clear c3
     try clear c3b0
     try clear c3b1
     try clear c4
     try clear c4b0
     try clear c4b1
     try clear c5
     try clear c5b0
     try clear c5b1
     try clear c6
     try clear p6
     try clear q6
     try clear hx6
     try clear qi6
     try clear c8
     try clear p2
     try clear p6
     try clear q6
     obtain ⟨x3_2, rfl, HA, HK2, ⟨m2, rfl⟩⟩ := hrel
     cases gk with
     | zero => exact absurd HA.out (by simp [impl_WordValid.l0])
     | succ k2 =>
      have H := HA.out
      clear HA
      simp only [impl_WordValid.l0] at H
      by_cases c9 : x3_2 < (a0.size : Int)
      ·rw [if_pos c9] at H
       have c9b0 : decide (x3_2 < (a0.size : Int)) = true := decide_eq_true c9
       clear c9
       by_cases c10 : 0 ≤ x3_2; rotate_left
       ·rw [if_neg c10] at H; exact absurd H (by simp)
       rw [if_pos c10] at H
       have c10b0 : decide (0 ≤ x3_2) = true := decide_eq_true c10
       clear c10
       replace H := Option.bind_eq_some_iff.mp H
       obtain ⟨t356, A120, H⟩ := H
       replace H : (if t356 = true then (impl_WordValid.l0 k2 a0 (wrap64 (x3_2 + 1))) else ((impl_isDigit.f (bt a0 x3_2)).bind fun t357 => (if t357 = true then (impl_WordValid.l0 k2 a0 (wrap64 (x3_2 + 1))) else (some false)))) = some r := H
       have A12 := Aside0.mk A120
       clear A120
       by_cases c13 : t356 = true
       ·subst c13
        have H1 : (impl_WordValid.l0 k2 a0 (wrap64 (x3_2 + 1))) = some r := by rw [if_pos rfl] at H; exact H
        clear H
        have H := H1
        clear H1
        have H' := Aside0.mk H
        clear H
        have p11 : 0 ≤ (x3_2 : Int) := dt_
        have q11 : x3_2 < (a0.size : Int) := dt_
        have hx11 := bt_at a0 x3_2
        replace p11 := eq_true p11
        replace q11 := eq_true q11
        go_wp2_with (first | ((with_reducible refine gate_callee (f := 87) rfl ?_); refine gl_ (some 26) Try.func87 #[.int .u8 (bt a0 x3_2)] ?_; (with_reducible refine (impl_isSmall.calls (bt a0 x3_2) true _ A12.out).mono ?_); rintro e w' ⟨rfl, ⟨nd, rfl⟩⟩; refine ⟨_, rfl, ?_⟩))
        go_roundg k2
        case measure => have := HJ1.out; have := HK2.out; omega
        case rel => exact ⟨(wrap64 (x3_2 + 1)), rs_, H', ⟨by have := HJ1.out; have := HK2.out; omega⟩, dw_⟩
       ·replace c13 := Bool.eq_false_iff.mpr c13
        subst c13
        have H1 : ((impl_isDigit.f (bt a0 x3_2)).bind fun t357 => (if t357 = true then (impl_WordValid.l0 k2 a0 (wrap64 (x3_2 + 1))) else (some false))) = some r := by rw [if_neg (show ¬ (false = true) by decide)] at H; exact H
        clear H
        have H := H1
        clear H1
        replace H := Option.bind_eq_some_iff.mp H
        obtain ⟨t357, A150, H⟩ := H
        replace H : (if t357 = true then (impl_WordValid.l0 k2 a0 (wrap64 (x3_2 + 1))) else (some false)) = some r := H
        have A15 := Aside0.mk A150
        clear A150
        by_cases c16 : t357 = true
        ·subst c16
         have H1 : (impl_WordValid.l0 k2 a0 (wrap64 (x3_2 + 1))) = some r := by rw [if_pos rfl] at H; exact H
         clear H
         have H := H1
         clear H1
         have H' := Aside0.mk H
         clear H
         have p11 : 0 ≤ (x3_2 : Int) := dt_
         have q11 : x3_2 < (a0.size : Int) := dt_
         have hx11 := bt_at a0 x3_2
         replace p11 := eq_true p11
         replace q11 := eq_true q11
         go_wp2_with (first | ((with_reducible refine gate_callee (f := 87) rfl ?_); refine gl_ (some 26) Try.func87 #[.int .u8 (bt a0 x3_2)] ?_; (with_reducible refine (impl_isSmall.calls (bt a0 x3_2) false _ A12.out).mono ?_); rintro e w' ⟨rfl, ⟨nd, rfl⟩⟩; refine ⟨_, rfl, ?_⟩; have p14 : 0 ≤ (x3_2 : Int) := dt_; have q14 : x3_2 < (a0.size : Int) := dt_; have hx14 := bt_at a0 x3_2; replace p14 := eq_true p14; replace q14 := eq_true q14) | (go_at_call 86; (with_reducible refine (impl_isDigit.calls (bt a0 x3_2) true _ A15.out).mono ?_); rintro e w' ⟨rfl, ⟨nd, rfl⟩⟩))
         go_roundg k2
         case measure => have := HJ1.out; have := HK2.out; omega
         case rel => exact ⟨(wrap64 (x3_2 + 1)), rs_, H', ⟨by have := HJ1.out; have := HK2.out; omega⟩, dw_⟩
        ·replace c16 := Bool.eq_false_iff.mpr c16
         subst c16
         have H1 : (some false) = some r := by rw [if_neg (show ¬ (false = true) by decide)] at H; exact H
         clear H
         have H := H1
         clear H1
         obtain rfl := Option.some.inj H
         have p11 : 0 ≤ (x3_2 : Int) := dt_
         have q11 : x3_2 < (a0.size : Int) := dt_
         have hx11 := bt_at a0 x3_2
         replace p11 := eq_true p11
         replace q11 := eq_true q11
         go_wp2_with (first | ((with_reducible refine gate_callee (f := 87) rfl ?_); refine gl_ (some 26) Try.func87 #[.int .u8 (bt a0 x3_2)] ?_; (with_reducible refine (impl_isSmall.calls (bt a0 x3_2) false _ A12.out).mono ?_); rintro e w' ⟨rfl, ⟨nd, rfl⟩⟩; refine ⟨_, rfl, ?_⟩; have p14 : 0 ≤ (x3_2 : Int) := dt_; have q14 : x3_2 < (a0.size : Int) := dt_; have hx14 := bt_at a0 x3_2; replace p14 := eq_true p14; replace q14 := eq_true q14) | (go_at_call 86; (with_reducible refine (impl_isDigit.calls (bt a0 x3_2) false _ A15.out).mono ?_); rintro e w' ⟨rfl, ⟨nd, rfl⟩⟩))
         go_ret
         exact ⟨rs_, dw_⟩
      ·rw [if_neg c9] at H
       have c9b0 : decide (x3_2 < (a0.size : Int)) = false := decide_eq_false c9
       clear c9
       obtain rfl := Option.some.inj H
       go_wp2
       go_ret
       exact ⟨rs_, dw_⟩
/-! ### laws_alive: function 30 -/
def laws_alive.f (k : Nat)  : Option (Bool) := (impl_WordValid.f k (⟨#[97, 49]⟩ : ByteArray)).bind fun t358 => (if t358 = true then ((impl_WordValid.f k (⟨#[49, 97]⟩ : ByteArray)).bind fun t359 => (some (!t359))) else (some false))
set_option maxHeartbeats 8000000 in
set_option maxRecDepth 100000 in
theorem laws_alive.calls (k : Nat)  (r : Bool) (w : World) (h : laws_alive.f k  = some r) :
  Calls Try.prog 30 #[] w fun e w' => e = .returned (.bool r) ∧ Drawn0 w w' := by
 have H : ((impl_WordValid.f k (⟨#[97, 49]⟩ : ByteArray)).bind fun t358 => (if t358 = true then ((impl_WordValid.f k (⟨#[49, 97]⟩ : ByteArray)).bind fun t359 => (some (!t359))) else (some false))) = some r := h
 clear h
 replace H := Option.bind_eq_some_iff.mp H
 obtain ⟨t358, A10, H⟩ := H
 replace H : (if t358 = true then ((impl_WordValid.f k (⟨#[49, 97]⟩ : ByteArray)).bind fun t359 => (some (!t359))) else (some false)) = some r := H
 have A1 := Aside0.mk A10
 clear A10
 by_cases c2 : t358 = true
 ·subst c2
  have H1 : ((impl_WordValid.f k (⟨#[49, 97]⟩ : ByteArray)).bind fun t359 => (some (!t359))) = some r := by rw [if_pos rfl] at H; exact H
  clear H
  have H := H1
  clear H1
  replace H := Option.bind_eq_some_iff.mp H
  obtain ⟨t359, A30, H⟩ := H
  replace H : (some (!t359)) = some r := H
  have A3 := Aside0.mk A30
  clear A30
  obtain rfl := Option.some.inj H
  go_enter Try.func30, Try.ntmps30
  go_wp2_with (first | ((with_reducible refine gate_callee (f := 69) rfl ?_); refine gl_ (some 1) Try.func69 #[.string (⟨#[97, 49]⟩ : ByteArray)] ?_; (with_reducible refine (impl_WordValid.calls k (⟨#[97, 49]⟩ : ByteArray) true _ A1.out).mono ?_); rintro e w' ⟨rfl, ⟨nd, rfl⟩⟩; refine ⟨_, rfl, ?_⟩) | (go_at_call 69; (with_reducible refine (impl_WordValid.calls k (⟨#[49, 97]⟩ : ByteArray) t359 _ A3.out).mono ?_); rintro e w' ⟨rfl, ⟨nd, rfl⟩⟩))
  go_ret
  exact ⟨rs_, dw_⟩
 ·replace c2 := Bool.eq_false_iff.mpr c2
  subst c2
  have H1 : (some false) = some r := by rw [if_neg (show ¬ (false = true) by decide)] at H; exact H
  clear H
  have H := H1
  clear H1
  obtain rfl := Option.some.inj H
  go_enter Try.func30, Try.ntmps30
  go_wp2_with (first | ((with_reducible refine gate_callee (f := 69) rfl ?_); refine gl_ (some 1) Try.func69 #[.string (⟨#[97, 49]⟩ : ByteArray)] ?_; (with_reducible refine (impl_WordValid.calls k (⟨#[97, 49]⟩ : ByteArray) false _ A1.out).mono ?_); rintro e w' ⟨rfl, ⟨nd, rfl⟩⟩; refine ⟨_, rfl, ?_⟩))
  go_ret
  exact ⟨rs_, dw_⟩
/-! ### spec_PrintOf: function 84 -/
def spec_PrintOf.l0 : Nat → ByteArray → Int → Int → Option (Int)
 | 0, _, _, _ => none
 | k + 1, x0, x3, x4 => if x4 < (x0.size : Int) then (if 0 ≤ x4 then (spec_PrintOf.l0 k x0 (Int.tmod (wrap64 ((wrap64 (257 * x3)) + (wrap64 (bt x0 x4)))) 16777213) (wrap64 (x4 + 1))) else (none)) else (some x3)
def spec_PrintOf.f (k : Nat) (a0 : ByteArray) : Option (Int) := (spec_TextValid.f k a0).bind fun t663 => (if t663 = true then (spec_PrintOf.l0 k a0 1 0) else (some (-1)))
set_option maxHeartbeats 8000000 in
set_option maxRecDepth 100000 in
theorem spec_PrintOf.calls (k : Nat) (a0 : ByteArray) (r : Int) (w : World) (h : spec_PrintOf.f k a0 = some r) :
  Calls Try.prog 84 #[.string a0] w fun e w' => e = .returned (.int .i64 r) ∧ Drawn0 w w' := by
 have H : ((spec_TextValid.f k a0).bind fun t663 => (if t663 = true then (spec_PrintOf.l0 k a0 1 0) else (some (-1)))) = some r := h
 clear h
 replace H := Option.bind_eq_some_iff.mp H
 obtain ⟨t663, A20, H⟩ := H
 replace H : (if t663 = true then (spec_PrintOf.l0 k a0 1 0) else (some (-1))) = some r := H
 have A2 := Aside0.mk A20
 clear A20
 by_cases c3 : t663 = true
 ·subst c3
  have H1 : (spec_PrintOf.l0 k a0 1 0) = some r := by rw [if_pos rfl] at H; exact H
  clear H
  have H := H1
  clear H1
  have H' := Aside0.mk H
  clear H
  go_enter Try.func84, Try.ntmps84
  go_wp2_with (first | ((with_reducible refine gate_callee (f := 85) rfl ?_); refine gl_ (some 6) Try.func85 #[.string a0] ?_; (with_reducible refine (spec_TextValid.calls k a0 true _ A2.out).mono ?_); rintro e w' ⟨rfl, ⟨nd, rfl⟩⟩; refine ⟨_, rfl, ?_⟩))
  go_loopg [3, 4] k (fun kq v3 v4 w' => ∃ (x3_1 : Int) (x4_1 : Int), v3 = .int .i64 x3_1 ∧ v4 = .int .i64 x4_1 ∧ Aside0 (spec_PrintOf.l0 kq a0 x3_1 x4_1 = some r) ∧ Aside0 (kq ≤ k) ∧ Drawn0 w w')
  case atStart => exact ⟨(1), (0), rs_, rs_, H', ⟨Nat.le_refl _⟩, dw_⟩
  case round =>
   clear H'
   try clear p2
   try clear c3
   obtain ⟨x3_1, x4_1, rfl, rfl, HA, HK1, ⟨m1, rfl⟩⟩ := hrel
   cases gk with
   | zero => exact absurd HA.out (by simp [spec_PrintOf.l0])
   | succ k1 =>
    have H := HA.out
    clear HA
    simp only [spec_PrintOf.l0] at H
    by_cases c4 : x4_1 < (a0.size : Int)
    ·rw [if_pos c4] at H
     have c4b0 : decide (x4_1 < (a0.size : Int)) = true := decide_eq_true c4
     clear c4
     by_cases c5 : 0 ≤ x4_1; rotate_left
     ·rw [if_neg c5] at H; exact absurd H (by simp)
     rw [if_pos c5] at H
     have c5b0 : decide (0 ≤ x4_1) = true := decide_eq_true c5
     clear c5
     have H' := Aside0.mk H
     clear H
     have p6 : 0 ≤ (x4_1 : Int) := dt_
     have q6 : x4_1 < (a0.size : Int) := dt_
     have hx6 := bt_at a0 x4_1
     replace p6 := eq_true p6
     replace q6 := eq_true q6
     go_wp2
     go_roundg k1
     case measure => have := HK1.out; omega
     case rel => exact ⟨(Int.tmod (wrap64 ((wrap64 (257 * x3_1)) + (wrap64 (bt a0 x4_1)))) 16777213), (wrap64 (x4_1 + 1)), rs_, rs_, H', ⟨by have := HK1.out; omega⟩, dw_⟩
    ·rw [if_neg c4] at H
     have c4b0 : decide (x4_1 < (a0.size : Int)) = false := decide_eq_false c4
     clear c4
     obtain rfl := Option.some.inj H
     go_wp2
     go_ret
     exact ⟨rs_, dw_⟩
 ·replace c3 := Bool.eq_false_iff.mpr c3
  subst c3
  have H1 : (some (-1)) = some r := by rw [if_neg (show ¬ (false = true) by decide)] at H; exact H
  clear H
  have H := H1
  clear H1
  obtain rfl := Option.some.inj H
  go_enter Try.func84, Try.ntmps84
  go_wp2_with (first | ((with_reducible refine gate_callee (f := 85) rfl ?_); refine gl_ (some 6) Try.func85 #[.string a0] ?_; (with_reducible refine (spec_TextValid.calls k a0 false _ A2.out).mono ?_); rintro e w' ⟨rfl, ⟨nd, rfl⟩⟩; refine ⟨_, rfl, ?_⟩))
  go_ret
  exact ⟨rs_, dw_⟩
/-! ### spec_StoreValid: function 83 -/
def spec_StoreValid.l0 : Nat → List (S65) → Int → Option (Bool)
 | 0, _, _ => none
 | k + 1, x0, x3 => if x3 < (x0.length : Int) then (if 0 ≤ x3 then ((spec_TextValid.f k ((rd_T65 x0 x3).f1)).bind fun t665 => (if t665 = true then ((spec_PrintOf.f k ((rd_T65 x0 x3).f1)).bind fun t667 => (if t667 = ((rd_T65 x0 x3).f0) then (if x3 > 0 then (if 0 ≤ (wrap64 (x3 - 1)) then (if (wrap64 (x3 - 1)) < (x0.length : Int) then (if ((rd_T65 x0 x3).f0) ≤ ((rd_T65 x0 (wrap64 (x3 - 1))).f0) then (some false) else (spec_StoreValid.l0 k x0 (wrap64 (x3 + 1)))) else (none)) else (none)) else (spec_StoreValid.l0 k x0 (wrap64 (x3 + 1)))) else (some false))) else (some false))) else (none)) else (some (decide ((x0.length : Int) ≤ 40)))
def spec_StoreValid.f (k : Nat) (l0 : List (S65)) : Option (Bool) := spec_StoreValid.l0 k l0 0
def spec_StoreValid.T4 : Bool × List (List Nat × List Nat) := (true, [([], []), ([], []), ([0, 1], [0, 1]), ([2], [2]), ([3], [3]), ([4], [4]), ([5], [5]), ([6, 5], [6]), ([7], [7]), ([7], [7]), ([8, 9, 7], [7, 8, 9]), ([10, 7], [7, 10]), ([11, 7], [7, 11]), ([12, 7, 7], [7, 12]), ([7], [7]), ([7], [7]), ([14, 15, 7], [7, 14, 15]), ([16, 7], [7, 16]), ([17, 7], [7, 17]), ([13, 18, 7], [7, 13, 18]), ([7, 19], [7, 19]), ([20, 13], [20]), ([21], [21]), ([22, 21], [21, 22]), ([23, 21, 21], [21, 23]), ([24], [24]), ([24], [24]), ([25, 26, 24], [24, 25, 26]), ([27, 24], [24, 27]), ([28, 24], [24, 28]), ([24], [24]), ([24], [24]), ([31, 24], [24, 31]), ([30, 32, 24], [24, 30, 32]), ([33, 24], [24, 33]), ([34, 24], [24, 34]), ([29, 35, 24], [24, 29, 35]), ([24, 36, 21], [21, 24, 36]), ([21, 37], [21, 37])])
def spec_StoreValid.B4 : List Nat := [0, 0, 3, 7, 15, 31, 63, 127, 255, 255, 1023, 2047, 4095, 8191, 255, 255, 49407, 114943, 246015, 524287, 1048575, 2097151, 4194303, 8388607, 16777215, 33554431, 33554431, 134217727, 268435455, 536870911, 33554431, 33554431, 2181038079, 7549747199, 16139681791, 33319550975, 68719476735, 137438953471, 274877906943]
theorem spec_StoreValid.tab4 : rtab .any (opsOf Try.f83 4) = spec_StoreValid.T4 := by kernel_rfl
theorem spec_StoreValid.bits4 : waitsOk spec_StoreValid.T4.2 spec_StoreValid.B4 = true := by kernel_rfl
set_option maxHeartbeats 8000000 in
set_option maxRecDepth 100000 in
theorem spec_StoreValid.calls (k : Nat) (A0 : Option Addr) (c0 : Nat) (l0 : List (S65)) (r : Bool) (w : World) (hr0 : Kd.C k65 w A0 l0.length l0) (hc0 : l0.length ≤ c0) (h : spec_StoreValid.f k l0 = some r) :
  Calls Try.prog 83 #[.slice A0 l0.length c0] w fun e w' => e = .returned (.bool r) ∧ Below w.heap.size w w' := by
 have HR0 := Aside0.mk hr0
 have HC0 := Aside0.mk hc0
 clear hr0 hc0
 have HB := Aside0.mk (Below.refl w.heap.size w)
 have H : (spec_StoreValid.l0 k l0 0) = some r := h
 clear h
 have H' := Aside0.mk H
 clear H
 go_enter Try.func83, Try.ntmps83
 go_wp2
 go_loopg [3] k (fun kq v3 w' => ∃ (x3_1 : Int), v3 = .int .i64 x3_1 ∧ Aside0 (spec_StoreValid.l0 kq l0 x3_1 = some r) ∧ Aside0 (kq ≤ k) ∧ Aside0 (Below w.heap.size w w'))
 case atStart => exact ⟨(0), rs_, H', ⟨Nat.le_refl _⟩, ⟨hb_⟩⟩
 case round =>
  clear H'
  obtain ⟨x3_1, rfl, HA, HK1, HB⟩ := hrel
  cases gk with
  | zero => exact absurd HA.out (by simp [spec_StoreValid.l0])
  | succ k1 =>
   have H := HA.out
   clear HA
   simp only [spec_StoreValid.l0] at H
   by_cases c2 : x3_1 < (l0.length : Int)
   ·rw [if_pos c2] at H
    have c2b0 : decide (x3_1 < (l0.length : Int)) = true := decide_eq_true c2
    clear c2
    by_cases c3 : 0 ≤ x3_1; rotate_left
    ·rw [if_neg c3] at H; exact absurd H (by simp)
    rw [if_pos c3] at H
    have c3b0 : decide (0 ≤ x3_1) = true := decide_eq_true c3
    clear c3
    replace H := Option.bind_eq_some_iff.mp H
    obtain ⟨t665, A40, H⟩ := H
    replace H : (if t665 = true then ((spec_PrintOf.f k1 ((rd_T65 l0 x3_1).f1)).bind fun t667 => (if t667 = ((rd_T65 l0 x3_1).f0) then (if x3_1 > 0 then (if 0 ≤ (wrap64 (x3_1 - 1)) then (if (wrap64 (x3_1 - 1)) < (l0.length : Int) then (if ((rd_T65 l0 x3_1).f0) ≤ ((rd_T65 l0 (wrap64 (x3_1 - 1))).f0) then (some false) else (spec_StoreValid.l0 k1 l0 (wrap64 (x3_1 + 1)))) else (none)) else (none)) else (spec_StoreValid.l0 k1 l0 (wrap64 (x3_1 + 1)))) else (some false))) else (some false)) = some r := H
    have A4 := Aside0.mk A40
    clear A40
    by_cases c5 : t665 = true
    ·subst c5
     have H1 : ((spec_PrintOf.f k1 ((rd_T65 l0 x3_1).f1)).bind fun t667 => (if t667 = ((rd_T65 l0 x3_1).f0) then (if x3_1 > 0 then (if 0 ≤ (wrap64 (x3_1 - 1)) then (if (wrap64 (x3_1 - 1)) < (l0.length : Int) then (if ((rd_T65 l0 x3_1).f0) ≤ ((rd_T65 l0 (wrap64 (x3_1 - 1))).f0) then (some false) else (spec_StoreValid.l0 k1 l0 (wrap64 (x3_1 + 1)))) else (none)) else (none)) else (spec_StoreValid.l0 k1 l0 (wrap64 (x3_1 + 1)))) else (some false))) = some r := by rw [if_pos rfl] at H; exact H
     clear H
     have H := H1
     clear H1
     replace H := Option.bind_eq_some_iff.mp H
     obtain ⟨t667, A60, H⟩ := H
     replace H : (if t667 = ((rd_T65 l0 x3_1).f0) then (if x3_1 > 0 then (if 0 ≤ (wrap64 (x3_1 - 1)) then (if (wrap64 (x3_1 - 1)) < (l0.length : Int) then (if ((rd_T65 l0 x3_1).f0) ≤ ((rd_T65 l0 (wrap64 (x3_1 - 1))).f0) then (some false) else (spec_StoreValid.l0 k1 l0 (wrap64 (x3_1 + 1)))) else (none)) else (none)) else (spec_StoreValid.l0 k1 l0 (wrap64 (x3_1 + 1)))) else (some false)) = some r := H
     have A6 := Aside0.mk A60
     clear A60
     by_cases c7 : t667 = ((rd_T65 l0 x3_1).f0)
     ·rw [if_pos c7] at H
      have c7b0 : (t667 == ((rd_T65 l0 x3_1).f0)) = true := beq_iff_eq.mpr c7
      have c7b1 : (t667 != ((rd_T65 l0 x3_1).f0)) = false := bne_eq_false_iff_eq.mpr c7
      clear c7
      by_cases c8 : x3_1 > 0
      ·rw [if_pos c8] at H
       have c8b0 : decide (0 < x3_1) = true := decide_eq_true c8
       clear c8
       obtain ⟨ji9, hji9⟩ : ∃ j_ : Int, (wrap64 (x3_1 - 1)) = j_ := ⟨_, rfl⟩
       replace H : (if 0 ≤ (ji9) then (if (ji9) < (l0.length : Int) then (if ((rd_T65 l0 x3_1).f0) ≤ ((rd_T65 l0 (ji9)).f0) then (some false) else (spec_StoreValid.l0 k1 l0 (wrap64 (x3_1 + 1)))) else (none)) else (none)) = some r := by first | (rw [hji9] at H; exact H) | (simp only [hji9] at H ⊢; exact H)
       (try rw [hji9] at A4)
       (try rw [hji9] at A6)
       have hji9w : (IntKind.i64.wrap (x3_1 - 1)) = ji9 := (i64_w _).trans hji9
       by_cases c10 : 0 ≤ (ji9); rotate_left
       ·rw [if_neg c10] at H; exact absurd H (by simp)
       rw [if_pos c10] at H
       have c10b0 : decide (0 ≤ (ji9)) = true := decide_eq_true c10
       clear c10
       by_cases c11 : (ji9) < (l0.length : Int); rotate_left
       ·rw [if_neg c11] at H; exact absurd H (by simp)
       rw [if_pos c11] at H
       have c11b0 : decide ((ji9) < (l0.length : Int)) = true := decide_eq_true c11
       clear c11
       by_cases c12 : ((rd_T65 l0 x3_1).f0) ≤ ((rd_T65 l0 (ji9)).f0)
       ·rw [if_pos c12] at H
        have c12b0 : decide (((rd_T65 l0 x3_1).f0) ≤ ((rd_T65 l0 (ji9)).f0)) = true := decide_eq_true c12
        clear c12
        obtain rfl := Option.some.inj H
        try go_wp2
        replace HB := Aside0.mk (below_drew1 HB.out)
        have p664 : 0 ≤ (x3_1 : Int) := dt_
        have q664 : x3_1 < (l0.length : Int) := dt_
        obtain ⟨ad664, e664, hx664_0, hx664_1⟩ := at_T65 HR0.out x3_1 p664 q664
        have hw664_1 := hx664_1
        have hw664_0 := hx664_0
        cases e664
        replace hx664_0 := cb_ HB.out hx664_0
        replace hx664_1 := cb_ HB.out hx664_1
        replace p664 := eq_true p664
        replace q664 := eq_true q664
        have p666 : 0 ≤ (x3_1 : Int) := dt_
        have q666 : x3_1 < (l0.length : Int) := dt_
        obtain ⟨ad666, e666, hx666_0, hx666_1⟩ := at_T65 HR0.out x3_1 p666 q666
        have hw666_1 := hx666_1
        have hw666_0 := hx666_0
        obtain rfl : ad664 = ad666 := (by injection e666)
        replace hx666_0 := cb_ HB.out hx666_0
        replace hx666_1 := cb_ HB.out hx666_1
        replace p666 := eq_true p666
        replace q666 := eq_true q666
        have p668 : 0 ≤ (x3_1 : Int) := dt_
        have q668 : x3_1 < (l0.length : Int) := dt_
        obtain ⟨ad668, e668, hx668_0, hx668_1⟩ := at_T65 HR0.out x3_1 p668 q668
        have hw668_1 := hx668_1
        have hw668_0 := hx668_0
        obtain rfl : ad664 = ad668 := (by injection e668)
        replace hx668_0 := cb_ HB.out hx668_0
        replace hx668_1 := cb_ HB.out hx668_1
        replace p668 := eq_true p668
        replace q668 := eq_true q668
        have p669 : 0 ≤ (x3_1 : Int) := dt_
        have q669 : x3_1 < (l0.length : Int) := dt_
        obtain ⟨ad669, e669, hx669_0, hx669_1⟩ := at_T65 HR0.out x3_1 p669 q669
        have hw669_1 := hx669_1
        have hw669_0 := hx669_0
        obtain rfl : ad664 = ad669 := (by injection e669)
        replace hx669_0 := cb_ HB.out hx669_0
        replace hx669_1 := cb_ HB.out hx669_1
        replace p669 := eq_true p669
        replace q669 := eq_true q669
        have p670 : 0 ≤ ((ji9) : Int) := dt_
        have q670 : (ji9) < (l0.length : Int) := dt_
        obtain ⟨ad670, e670, hx670_0, hx670_1⟩ := at_T65 HR0.out (ji9) p670 q670
        have hw670_1 := hx670_1
        have hw670_0 := hx670_0
        obtain rfl : ad664 = ad670 := (by injection e670)
        replace hx670_0 := cb_ HB.out hx670_0
        replace hx670_1 := cb_ HB.out hx670_1
        replace p670 := eq_true p670
        replace q670 := eq_true q670
        refine start_ (n := 39) (S := fun w' => w'.cell? (ad664.add ((x3_1).toNat * 2)) = some (.int .i64 ((rd_T65 l0 x3_1).f0)) ∧ w'.cell? ⟨(ad664.add ((x3_1).toNat * 2)).block, (ad664.add ((x3_1).toNat * 2)).off + 1, none⟩ = some (.string ((rd_T65 l0 x3_1).f1)) ∧ w'.cell? (ad664.add ((x3_1).toNat * 2)) = some (.int .i64 ((rd_T65 l0 x3_1).f0)) ∧ w'.cell? ⟨(ad664.add ((x3_1).toNat * 2)).block, (ad664.add ((x3_1).toNat * 2)).off + 1, none⟩ = some (.string ((rd_T65 l0 x3_1).f1)) ∧ w'.cell? (ad664.add ((x3_1).toNat * 2)) = some (.int .i64 ((rd_T65 l0 x3_1).f0)) ∧ w'.cell? ⟨(ad664.add ((x3_1).toNat * 2)).block, (ad664.add ((x3_1).toNat * 2)).off + 1, none⟩ = some (.string ((rd_T65 l0 x3_1).f1)) ∧ w'.cell? (ad664.add ((x3_1).toNat * 2)) = some (.int .i64 ((rd_T65 l0 x3_1).f0)) ∧ w'.cell? ⟨(ad664.add ((x3_1).toNat * 2)).block, (ad664.add ((x3_1).toNat * 2)).off + 1, none⟩ = some (.string ((rd_T65 l0 x3_1).f1)) ∧ w'.cell? (ad664.add (((ji9)).toNat * 2)) = some (.int .i64 ((rd_T65 l0 (ji9)).f0)) ∧ w'.cell? ⟨(ad664.add (((ji9)).toNat * 2)).block, (ad664.add (((ji9)).toNat * 2)).off + 1, none⟩ = some (.string ((rd_T65 l0 (ji9)).f1))) (ds := []) (tf_ 0 39) (by kernel_rfl) rfl rfl ⟨(cb_ HB.out hw664_0), (cb_ HB.out hw664_1), (cb_ HB.out hw666_0), (cb_ HB.out hw666_1), (cb_ HB.out hw668_0), (cb_ HB.out hw668_1), (cb_ HB.out hw669_0), (cb_ HB.out hw669_1), (cb_ HB.out hw670_0), (cb_ HB.out hw670_1)⟩ (fun hHeld => ?_); refine with_tabW spec_StoreValid.tab4 spec_StoreValid.bits4 (fun HT_ HW_ => ?_)
        generalize wr.drew = w13 at HB hx664_0 hx664_1 hx666_0 hx666_1 hx668_0 hx668_1 hx669_0 hx669_1 hx670_0 hx670_1 hHeld ⊢
        refine paA_ 0 10 1 38 ?_
        refine paA_ 1 11 2 37 ?_
        refine paA_ 2 12 3 36 ?_
        refine paA_ 3 13 4 35 ?_
        refine ta10_ (i := 4) (N := some 14) (tf_ 5 34) ?_
        refine one_ (i := 5) (N := some 15) (tf_ 6 33) rfl rfl (one_of HT_.out (by kernel_rfl)) (by decide) (fun K hK => ?_)
        refine goes_ Try.func85 (by kernel_rfl) rfl #[.string ((rd_T65 l0 x3_1).f1)] (by rfl) rfl rfl sl_ ?_
        with_reducible refine (spec_TextValid.calls k1 ((rd_T65 l0 x3_1).f1) true _ A4.out).mono ?_
        rintro e w' ⟨rfl, ⟨nd, rfl⟩⟩
        refine ⟨_, rfl, ?_⟩
        refine hK.out _ _ ⟨(cb_ HB.out hw664_0), (cb_ HB.out hw664_1), (cb_ HB.out hw666_0), (cb_ HB.out hw666_1), (cb_ HB.out hw668_0), (cb_ HB.out hw668_1), (cb_ HB.out hw669_0), (cb_ HB.out hw669_1), (cb_ HB.out hw670_0), (cb_ HB.out hw670_1)⟩ (fun hHeld => ?_)
        clear hK K
        refine norm_ (a' := ?_) ?_ ?_
        rotate_left
        ·show Act.put _ (some 15) _ = _
         simp only [Act.put, List.setIfInBounds_toArray, List.set_cons_zero, List.set_cons_succ, i64_w, i32_w]
         rfl
        refine paA_ 6 16 7 32 ?_
        refine paA_ 7 17 8 31 ?_
        refine paA_ 8 18 9 30 ?_
        refine paA_ 9 19 10 29 ?_
        refine paA_ 10 20 11 28 ?_
        refine paA_ 11 21 12 27 ?_
        refine pa_ (i := 14) (N := some 24) (tb_ 39 20479) ?_
        refine pa_ (i := 15) (N := some 25) (tb_ 39 53247) ?_
        refine pa_ (i := 16) (N := some 26) (tb_ 39 118783) ?_
        refine pa_ (i := 17) (N := some 27) (tb_ 39 249855) ?_
        refine ta10_ (i := 12) (N := some 22) (tb_ 39 253951) ?_
        refine ta10_ (i := 18) (N := some 28) (tb_ 39 516095) ?_
        refine one_ (i := 13) (N := some 23) (tf_ 19 20) rfl rfl (one_of HT_.out (by kernel_rfl)) (by decide) (fun K hK => ?_)
        refine goes_ Try.func84 (by kernel_rfl) rfl #[.string ((rd_T65 l0 x3_1).f1)] (by rfl) rfl rfl sl_ ?_
        with_reducible refine (spec_PrintOf.calls k1 ((rd_T65 l0 x3_1).f1) t667 _ A6.out).mono ?_
        rintro e w' ⟨rfl, ⟨nd, rfl⟩⟩
        refine ⟨_, rfl, ?_⟩
        refine hK.out _ _ ⟨(cb_ HB.out hw664_0), (cb_ HB.out hw664_1), (cb_ HB.out hw666_0), (cb_ HB.out hw666_1), (cb_ HB.out hw668_0), (cb_ HB.out hw668_1), (cb_ HB.out hw669_0), (cb_ HB.out hw669_1), (cb_ HB.out hw670_0), (cb_ HB.out hw670_1)⟩ (fun hHeld => ?_)
        clear hK K
        refine norm_ (a' := ?_) ?_ ?_
        rotate_left
        ·show Act.put _ (some 23) _ = _
         simp only [Act.put, List.setIfInBounds_toArray, List.set_cons_zero, List.set_cons_succ, i64_w, i32_w]
         rfl
        refine paA_ 19 29 20 19 ?_
        refine paA_ 20 30 21 18 ?_
        refine paA_ 21 31 22 17 ?_
        refine paA_ 22 32 23 16 ?_
        refine paA_ 23 33 24 15 ?_
        refine paA_ 24 34 25 14 ?_
        refine paA_ 25 35 26 13 ?_
        refine paA_ 26 36 27 12 ?_
        refine paA_ 27 37 28 11 ?_
        refine paA_ 28 38 29 10 ?_
        refine pa_ (i := 30) (N := some 40) (tb_ 39 1610612735) ?_
        refine pa_ (i := 31) (N := some 41) (tb_ 39 3758096383) ?_
        refine pa_ (i := 32) (N := some 42) (tb_ 39 8053063679) ?_
        refine pa_ (i := 33) (N := some 43) (tb_ 39 16642998271) ?_
        refine pa_ (i := 34) (N := some 44) (tb_ 39 33822867455) ?_
        refine ta10_ (i := 29) (N := some 39) (tf_ 35 4) ?_
        refine ta10_ (i := 35) (N := some 45) (tf_ 36 3) ?_
        refine paA_ 36 46 37 2 ?_
        refine paA_ 37 47 38 1 ?_
        refine paA_ 38 48 39 0 ?_
        refine done_ (done_of HT_.out (by kernel_rfl)) ?_
        try go_wp2
        go_ret
        exact ⟨by first | rfl | (simp [errW_none, errW_some] <;> rfl) | (simp only [← hji9]; first | rfl | (simp [errW_none, errW_some] <;> rfl)) | (simp [*, errW_none, errW_some] <;> rfl), hb_⟩
       ·rw [if_neg c12] at H
        have c12b0 : decide (((rd_T65 l0 x3_1).f0) ≤ ((rd_T65 l0 (ji9)).f0)) = false := decide_eq_false c12
        clear c12
        have H' := Aside0.mk H
        clear H
        try go_wp2
        replace HB := Aside0.mk (below_drew1 HB.out)
        have p664 : 0 ≤ (x3_1 : Int) := dt_
        have q664 : x3_1 < (l0.length : Int) := dt_
        obtain ⟨ad664, e664, hx664_0, hx664_1⟩ := at_T65 HR0.out x3_1 p664 q664
        have hw664_1 := hx664_1
        have hw664_0 := hx664_0
        cases e664
        replace hx664_0 := cb_ HB.out hx664_0
        replace hx664_1 := cb_ HB.out hx664_1
        replace p664 := eq_true p664
        replace q664 := eq_true q664
        have p666 : 0 ≤ (x3_1 : Int) := dt_
        have q666 : x3_1 < (l0.length : Int) := dt_
        obtain ⟨ad666, e666, hx666_0, hx666_1⟩ := at_T65 HR0.out x3_1 p666 q666
        have hw666_1 := hx666_1
        have hw666_0 := hx666_0
        obtain rfl : ad664 = ad666 := (by injection e666)
        replace hx666_0 := cb_ HB.out hx666_0
        replace hx666_1 := cb_ HB.out hx666_1
        replace p666 := eq_true p666
        replace q666 := eq_true q666
        have p668 : 0 ≤ (x3_1 : Int) := dt_
        have q668 : x3_1 < (l0.length : Int) := dt_
        obtain ⟨ad668, e668, hx668_0, hx668_1⟩ := at_T65 HR0.out x3_1 p668 q668
        have hw668_1 := hx668_1
        have hw668_0 := hx668_0
        obtain rfl : ad664 = ad668 := (by injection e668)
        replace hx668_0 := cb_ HB.out hx668_0
        replace hx668_1 := cb_ HB.out hx668_1
        replace p668 := eq_true p668
        replace q668 := eq_true q668
        have p669 : 0 ≤ (x3_1 : Int) := dt_
        have q669 : x3_1 < (l0.length : Int) := dt_
        obtain ⟨ad669, e669, hx669_0, hx669_1⟩ := at_T65 HR0.out x3_1 p669 q669
        have hw669_1 := hx669_1
        have hw669_0 := hx669_0
        obtain rfl : ad664 = ad669 := (by injection e669)
        replace hx669_0 := cb_ HB.out hx669_0
        replace hx669_1 := cb_ HB.out hx669_1
        replace p669 := eq_true p669
        replace q669 := eq_true q669
        have p670 : 0 ≤ ((ji9) : Int) := dt_
        have q670 : (ji9) < (l0.length : Int) := dt_
        obtain ⟨ad670, e670, hx670_0, hx670_1⟩ := at_T65 HR0.out (ji9) p670 q670
        have hw670_1 := hx670_1
        have hw670_0 := hx670_0
        obtain rfl : ad664 = ad670 := (by injection e670)
        replace hx670_0 := cb_ HB.out hx670_0
        replace hx670_1 := cb_ HB.out hx670_1
        replace p670 := eq_true p670
        replace q670 := eq_true q670
        refine start_ (n := 39) (S := fun w' => w'.cell? (ad664.add ((x3_1).toNat * 2)) = some (.int .i64 ((rd_T65 l0 x3_1).f0)) ∧ w'.cell? ⟨(ad664.add ((x3_1).toNat * 2)).block, (ad664.add ((x3_1).toNat * 2)).off + 1, none⟩ = some (.string ((rd_T65 l0 x3_1).f1)) ∧ w'.cell? (ad664.add ((x3_1).toNat * 2)) = some (.int .i64 ((rd_T65 l0 x3_1).f0)) ∧ w'.cell? ⟨(ad664.add ((x3_1).toNat * 2)).block, (ad664.add ((x3_1).toNat * 2)).off + 1, none⟩ = some (.string ((rd_T65 l0 x3_1).f1)) ∧ w'.cell? (ad664.add ((x3_1).toNat * 2)) = some (.int .i64 ((rd_T65 l0 x3_1).f0)) ∧ w'.cell? ⟨(ad664.add ((x3_1).toNat * 2)).block, (ad664.add ((x3_1).toNat * 2)).off + 1, none⟩ = some (.string ((rd_T65 l0 x3_1).f1)) ∧ w'.cell? (ad664.add ((x3_1).toNat * 2)) = some (.int .i64 ((rd_T65 l0 x3_1).f0)) ∧ w'.cell? ⟨(ad664.add ((x3_1).toNat * 2)).block, (ad664.add ((x3_1).toNat * 2)).off + 1, none⟩ = some (.string ((rd_T65 l0 x3_1).f1)) ∧ w'.cell? (ad664.add (((ji9)).toNat * 2)) = some (.int .i64 ((rd_T65 l0 (ji9)).f0)) ∧ w'.cell? ⟨(ad664.add (((ji9)).toNat * 2)).block, (ad664.add (((ji9)).toNat * 2)).off + 1, none⟩ = some (.string ((rd_T65 l0 (ji9)).f1))) (ds := []) (tf_ 0 39) (by kernel_rfl) rfl rfl ⟨(cb_ HB.out hw664_0), (cb_ HB.out hw664_1), (cb_ HB.out hw666_0), (cb_ HB.out hw666_1), (cb_ HB.out hw668_0), (cb_ HB.out hw668_1), (cb_ HB.out hw669_0), (cb_ HB.out hw669_1), (cb_ HB.out hw670_0), (cb_ HB.out hw670_1)⟩ (fun hHeld => ?_); refine with_tabW spec_StoreValid.tab4 spec_StoreValid.bits4 (fun HT_ HW_ => ?_)
        generalize wr.drew = w14 at HB hx664_0 hx664_1 hx666_0 hx666_1 hx668_0 hx668_1 hx669_0 hx669_1 hx670_0 hx670_1 hHeld ⊢
        refine paA_ 0 10 1 38 ?_
        refine paA_ 1 11 2 37 ?_
        refine paA_ 2 12 3 36 ?_
        refine paA_ 3 13 4 35 ?_
        refine ta10_ (i := 4) (N := some 14) (tf_ 5 34) ?_
        refine one_ (i := 5) (N := some 15) (tf_ 6 33) rfl rfl (one_of HT_.out (by kernel_rfl)) (by decide) (fun K hK => ?_)
        refine goes_ Try.func85 (by kernel_rfl) rfl #[.string ((rd_T65 l0 x3_1).f1)] (by rfl) rfl rfl sl_ ?_
        with_reducible refine (spec_TextValid.calls k1 ((rd_T65 l0 x3_1).f1) true _ A4.out).mono ?_
        rintro e w' ⟨rfl, ⟨nd, rfl⟩⟩
        refine ⟨_, rfl, ?_⟩
        refine hK.out _ _ ⟨(cb_ HB.out hw664_0), (cb_ HB.out hw664_1), (cb_ HB.out hw666_0), (cb_ HB.out hw666_1), (cb_ HB.out hw668_0), (cb_ HB.out hw668_1), (cb_ HB.out hw669_0), (cb_ HB.out hw669_1), (cb_ HB.out hw670_0), (cb_ HB.out hw670_1)⟩ (fun hHeld => ?_)
        clear hK K
        refine norm_ (a' := ?_) ?_ ?_
        rotate_left
        ·show Act.put _ (some 15) _ = _
         simp only [Act.put, List.setIfInBounds_toArray, List.set_cons_zero, List.set_cons_succ, i64_w, i32_w]
         rfl
        refine paA_ 6 16 7 32 ?_
        refine paA_ 7 17 8 31 ?_
        refine paA_ 8 18 9 30 ?_
        refine paA_ 9 19 10 29 ?_
        refine paA_ 10 20 11 28 ?_
        refine paA_ 11 21 12 27 ?_
        refine pa_ (i := 14) (N := some 24) (tb_ 39 20479) ?_
        refine pa_ (i := 15) (N := some 25) (tb_ 39 53247) ?_
        refine pa_ (i := 16) (N := some 26) (tb_ 39 118783) ?_
        refine pa_ (i := 17) (N := some 27) (tb_ 39 249855) ?_
        refine ta10_ (i := 12) (N := some 22) (tb_ 39 253951) ?_
        refine ta10_ (i := 18) (N := some 28) (tb_ 39 516095) ?_
        refine one_ (i := 13) (N := some 23) (tf_ 19 20) rfl rfl (one_of HT_.out (by kernel_rfl)) (by decide) (fun K hK => ?_)
        refine goes_ Try.func84 (by kernel_rfl) rfl #[.string ((rd_T65 l0 x3_1).f1)] (by rfl) rfl rfl sl_ ?_
        with_reducible refine (spec_PrintOf.calls k1 ((rd_T65 l0 x3_1).f1) t667 _ A6.out).mono ?_
        rintro e w' ⟨rfl, ⟨nd, rfl⟩⟩
        refine ⟨_, rfl, ?_⟩
        refine hK.out _ _ ⟨(cb_ HB.out hw664_0), (cb_ HB.out hw664_1), (cb_ HB.out hw666_0), (cb_ HB.out hw666_1), (cb_ HB.out hw668_0), (cb_ HB.out hw668_1), (cb_ HB.out hw669_0), (cb_ HB.out hw669_1), (cb_ HB.out hw670_0), (cb_ HB.out hw670_1)⟩ (fun hHeld => ?_)
        clear hK K
        refine norm_ (a' := ?_) ?_ ?_
        rotate_left
        ·show Act.put _ (some 23) _ = _
         simp only [Act.put, List.setIfInBounds_toArray, List.set_cons_zero, List.set_cons_succ, i64_w, i32_w]
         rfl
        refine paA_ 19 29 20 19 ?_
        refine paA_ 20 30 21 18 ?_
        refine paA_ 21 31 22 17 ?_
        refine paA_ 22 32 23 16 ?_
        refine paA_ 23 33 24 15 ?_
        refine paA_ 24 34 25 14 ?_
        refine paA_ 25 35 26 13 ?_
        refine paA_ 26 36 27 12 ?_
        refine paA_ 27 37 28 11 ?_
        refine paA_ 28 38 29 10 ?_
        refine pa_ (i := 30) (N := some 40) (tb_ 39 1610612735) ?_
        refine pa_ (i := 31) (N := some 41) (tb_ 39 3758096383) ?_
        refine pa_ (i := 32) (N := some 42) (tb_ 39 8053063679) ?_
        refine pa_ (i := 33) (N := some 43) (tb_ 39 16642998271) ?_
        refine pa_ (i := 34) (N := some 44) (tb_ 39 33822867455) ?_
        refine ta10_ (i := 29) (N := some 39) (tf_ 35 4) ?_
        refine ta10_ (i := 35) (N := some 45) (tf_ 36 3) ?_
        refine paA_ 36 46 37 2 ?_
        refine paA_ 37 47 38 1 ?_
        refine paA_ 38 48 39 0 ?_
        refine done_ (done_of HT_.out (by kernel_rfl)) ?_
        try go_wp2
        go_roundg k1
        case measure => have := HK1.out; omega
        case rel => exact ⟨(wrap64 (x3_1 + 1)), rs_, H', ⟨by have := HK1.out; omega⟩, ⟨hb_⟩⟩
      ·rw [if_neg c8] at H
       have c8b0 : decide (0 < x3_1) = false := decide_eq_false c8
       clear c8
       have H' := Aside0.mk H
       clear H
       try go_wp2
       replace HB := Aside0.mk (below_drew1 HB.out)
       have p664 : 0 ≤ (x3_1 : Int) := dt_
       have q664 : x3_1 < (l0.length : Int) := dt_
       obtain ⟨ad664, e664, hx664_0, hx664_1⟩ := at_T65 HR0.out x3_1 p664 q664
       have hw664_1 := hx664_1
       have hw664_0 := hx664_0
       cases e664
       replace hx664_0 := cb_ HB.out hx664_0
       replace hx664_1 := cb_ HB.out hx664_1
       replace p664 := eq_true p664
       replace q664 := eq_true q664
       have p666 : 0 ≤ (x3_1 : Int) := dt_
       have q666 : x3_1 < (l0.length : Int) := dt_
       obtain ⟨ad666, e666, hx666_0, hx666_1⟩ := at_T65 HR0.out x3_1 p666 q666
       have hw666_1 := hx666_1
       have hw666_0 := hx666_0
       obtain rfl : ad664 = ad666 := (by injection e666)
       replace hx666_0 := cb_ HB.out hx666_0
       replace hx666_1 := cb_ HB.out hx666_1
       replace p666 := eq_true p666
       replace q666 := eq_true q666
       have p668 : 0 ≤ (x3_1 : Int) := dt_
       have q668 : x3_1 < (l0.length : Int) := dt_
       obtain ⟨ad668, e668, hx668_0, hx668_1⟩ := at_T65 HR0.out x3_1 p668 q668
       have hw668_1 := hx668_1
       have hw668_0 := hx668_0
       obtain rfl : ad664 = ad668 := (by injection e668)
       replace hx668_0 := cb_ HB.out hx668_0
       replace hx668_1 := cb_ HB.out hx668_1
       replace p668 := eq_true p668
       replace q668 := eq_true q668
       refine start_ (n := 39) (S := fun w' => w'.cell? (ad664.add ((x3_1).toNat * 2)) = some (.int .i64 ((rd_T65 l0 x3_1).f0)) ∧ w'.cell? ⟨(ad664.add ((x3_1).toNat * 2)).block, (ad664.add ((x3_1).toNat * 2)).off + 1, none⟩ = some (.string ((rd_T65 l0 x3_1).f1)) ∧ w'.cell? (ad664.add ((x3_1).toNat * 2)) = some (.int .i64 ((rd_T65 l0 x3_1).f0)) ∧ w'.cell? ⟨(ad664.add ((x3_1).toNat * 2)).block, (ad664.add ((x3_1).toNat * 2)).off + 1, none⟩ = some (.string ((rd_T65 l0 x3_1).f1)) ∧ w'.cell? (ad664.add ((x3_1).toNat * 2)) = some (.int .i64 ((rd_T65 l0 x3_1).f0)) ∧ w'.cell? ⟨(ad664.add ((x3_1).toNat * 2)).block, (ad664.add ((x3_1).toNat * 2)).off + 1, none⟩ = some (.string ((rd_T65 l0 x3_1).f1))) (ds := []) (tf_ 0 39) (by kernel_rfl) rfl rfl ⟨(cb_ HB.out hw664_0), (cb_ HB.out hw664_1), (cb_ HB.out hw666_0), (cb_ HB.out hw666_1), (cb_ HB.out hw668_0), (cb_ HB.out hw668_1)⟩ (fun hHeld => ?_); refine with_tabW spec_StoreValid.tab4 spec_StoreValid.bits4 (fun HT_ HW_ => ?_)
       generalize wr.drew = w15 at HB hx664_0 hx664_1 hx666_0 hx666_1 hx668_0 hx668_1 hHeld ⊢
       refine paA_ 0 10 1 38 ?_
       refine paA_ 1 11 2 37 ?_
       refine paA_ 2 12 3 36 ?_
       refine paA_ 3 13 4 35 ?_
       refine ta6_ (i := 4) (N := some 14) (tf_ 5 34) ?_
       refine one_ (i := 5) (N := some 15) (tf_ 6 33) rfl rfl (one_of HT_.out (by kernel_rfl)) (by decide) (fun K hK => ?_)
       refine goes_ Try.func85 (by kernel_rfl) rfl #[.string ((rd_T65 l0 x3_1).f1)] (by rfl) rfl rfl sl_ ?_
       with_reducible refine (spec_TextValid.calls k1 ((rd_T65 l0 x3_1).f1) true _ A4.out).mono ?_
       rintro e w' ⟨rfl, ⟨nd, rfl⟩⟩
       refine ⟨_, rfl, ?_⟩
       refine hK.out _ _ ⟨(cb_ HB.out hw664_0), (cb_ HB.out hw664_1), (cb_ HB.out hw666_0), (cb_ HB.out hw666_1), (cb_ HB.out hw668_0), (cb_ HB.out hw668_1)⟩ (fun hHeld => ?_)
       clear hK K
       refine norm_ (a' := ?_) ?_ ?_
       rotate_left
       ·show Act.put _ (some 15) _ = _
        simp only [Act.put, List.setIfInBounds_toArray, List.set_cons_zero, List.set_cons_succ, i64_w, i32_w]
        rfl
       refine paA_ 6 16 7 32 ?_
       refine paA_ 7 17 8 31 ?_
       refine paA_ 8 18 9 30 ?_
       refine paA_ 9 19 10 29 ?_
       refine paA_ 10 20 11 28 ?_
       refine paA_ 11 21 12 27 ?_
       refine pa_ (i := 14) (N := some 24) (tb_ 39 20479) ?_
       refine pa_ (i := 15) (N := some 25) (tb_ 39 53247) ?_
       refine pa_ (i := 16) (N := some 26) (tb_ 39 118783) ?_
       refine pa_ (i := 17) (N := some 27) (tb_ 39 249855) ?_
       refine ta6_ (i := 12) (N := some 22) (tb_ 39 253951) ?_
       refine ta6_ (i := 18) (N := some 28) (tb_ 39 516095) ?_
       refine one_ (i := 13) (N := some 23) (tf_ 19 20) rfl rfl (one_of HT_.out (by kernel_rfl)) (by decide) (fun K hK => ?_)
       refine goes_ Try.func84 (by kernel_rfl) rfl #[.string ((rd_T65 l0 x3_1).f1)] (by rfl) rfl rfl sl_ ?_
       with_reducible refine (spec_PrintOf.calls k1 ((rd_T65 l0 x3_1).f1) t667 _ A6.out).mono ?_
       rintro e w' ⟨rfl, ⟨nd, rfl⟩⟩
       refine ⟨_, rfl, ?_⟩
       refine hK.out _ _ ⟨(cb_ HB.out hw664_0), (cb_ HB.out hw664_1), (cb_ HB.out hw666_0), (cb_ HB.out hw666_1), (cb_ HB.out hw668_0), (cb_ HB.out hw668_1)⟩ (fun hHeld => ?_)
       clear hK K
       refine norm_ (a' := ?_) ?_ ?_
       rotate_left
       ·show Act.put _ (some 23) _ = _
        simp only [Act.put, List.setIfInBounds_toArray, List.set_cons_zero, List.set_cons_succ, i64_w, i32_w]
        rfl
       refine paA_ 19 29 20 19 ?_
       refine paA_ 20 30 21 18 ?_
       refine paA_ 21 31 22 17 ?_
       refine paA_ 22 32 23 16 ?_
       refine paA_ 23 33 24 15 ?_
       refine paA_ 24 34 25 14 ?_
       refine pnA_ 25 35 26 13 ?_
       refine pnA_ 26 36 27 12 ?_
       refine pnA_ 27 37 28 11 ?_
       refine pnA_ 28 38 29 10 ?_
       refine pnA_ 29 39 30 9 ?_
       refine pnA_ 30 40 31 8 ?_
       refine pnA_ 31 41 32 7 ?_
       refine pnA_ 32 42 33 6 ?_
       refine pnA_ 33 43 34 5 ?_
       refine pnA_ 34 44 35 4 ?_
       refine pnA_ 35 45 36 3 ?_
       refine pnA_ 36 46 37 2 ?_
       refine paA_ 37 47 38 1 ?_
       refine paA_ 38 48 39 0 ?_
       refine done_ (done_of HT_.out (by kernel_rfl)) ?_
       try go_wp2
       go_roundg k1
       case measure => have := HK1.out; omega
       case rel => exact ⟨(wrap64 (x3_1 + 1)), rs_, H', ⟨by have := HK1.out; omega⟩, ⟨hb_⟩⟩
     ·rw [if_neg c7] at H
      have c7b0 : (t667 == ((rd_T65 l0 x3_1).f0)) = false := beq_eq_false_iff_ne.mpr c7
      have c7b1 : (t667 != ((rd_T65 l0 x3_1).f0)) = true := bne_iff_ne.mpr c7
      obtain rfl := Option.some.inj H
      try go_wp2
      replace HB := Aside0.mk (below_drew1 HB.out)
      have p664 : 0 ≤ (x3_1 : Int) := dt_
      have q664 : x3_1 < (l0.length : Int) := dt_
      obtain ⟨ad664, e664, hx664_0, hx664_1⟩ := at_T65 HR0.out x3_1 p664 q664
      have hw664_1 := hx664_1
      have hw664_0 := hx664_0
      cases e664
      replace hx664_0 := cb_ HB.out hx664_0
      replace hx664_1 := cb_ HB.out hx664_1
      replace p664 := eq_true p664
      replace q664 := eq_true q664
      have p666 : 0 ≤ (x3_1 : Int) := dt_
      have q666 : x3_1 < (l0.length : Int) := dt_
      obtain ⟨ad666, e666, hx666_0, hx666_1⟩ := at_T65 HR0.out x3_1 p666 q666
      have hw666_1 := hx666_1
      have hw666_0 := hx666_0
      obtain rfl : ad664 = ad666 := (by injection e666)
      replace hx666_0 := cb_ HB.out hx666_0
      replace hx666_1 := cb_ HB.out hx666_1
      replace p666 := eq_true p666
      replace q666 := eq_true q666
      have p668 : 0 ≤ (x3_1 : Int) := dt_
      have q668 : x3_1 < (l0.length : Int) := dt_
      obtain ⟨ad668, e668, hx668_0, hx668_1⟩ := at_T65 HR0.out x3_1 p668 q668
      have hw668_1 := hx668_1
      have hw668_0 := hx668_0
      obtain rfl : ad664 = ad668 := (by injection e668)
      replace hx668_0 := cb_ HB.out hx668_0
      replace hx668_1 := cb_ HB.out hx668_1
      replace p668 := eq_true p668
      replace q668 := eq_true q668
      refine start_ (n := 39) (S := fun w' => w'.cell? (ad664.add ((x3_1).toNat * 2)) = some (.int .i64 ((rd_T65 l0 x3_1).f0)) ∧ w'.cell? ⟨(ad664.add ((x3_1).toNat * 2)).block, (ad664.add ((x3_1).toNat * 2)).off + 1, none⟩ = some (.string ((rd_T65 l0 x3_1).f1)) ∧ w'.cell? (ad664.add ((x3_1).toNat * 2)) = some (.int .i64 ((rd_T65 l0 x3_1).f0)) ∧ w'.cell? ⟨(ad664.add ((x3_1).toNat * 2)).block, (ad664.add ((x3_1).toNat * 2)).off + 1, none⟩ = some (.string ((rd_T65 l0 x3_1).f1)) ∧ w'.cell? (ad664.add ((x3_1).toNat * 2)) = some (.int .i64 ((rd_T65 l0 x3_1).f0)) ∧ w'.cell? ⟨(ad664.add ((x3_1).toNat * 2)).block, (ad664.add ((x3_1).toNat * 2)).off + 1, none⟩ = some (.string ((rd_T65 l0 x3_1).f1))) (ds := []) (tf_ 0 39) (by kernel_rfl) rfl rfl ⟨(cb_ HB.out hw664_0), (cb_ HB.out hw664_1), (cb_ HB.out hw666_0), (cb_ HB.out hw666_1), (cb_ HB.out hw668_0), (cb_ HB.out hw668_1)⟩ (fun hHeld => ?_); refine with_tabW spec_StoreValid.tab4 spec_StoreValid.bits4 (fun HT_ HW_ => ?_)
      generalize wr.drew = w16 at HB hx664_0 hx664_1 hx666_0 hx666_1 hx668_0 hx668_1 hHeld ⊢
      refine paA_ 0 10 1 38 ?_
      refine paA_ 1 11 2 37 ?_
      refine paA_ 2 12 3 36 ?_
      refine paA_ 3 13 4 35 ?_
      refine ta6_ (i := 4) (N := some 14) (tf_ 5 34) ?_
      refine one_ (i := 5) (N := some 15) (tf_ 6 33) rfl rfl (one_of HT_.out (by kernel_rfl)) (by decide) (fun K hK => ?_)
      refine goes_ Try.func85 (by kernel_rfl) rfl #[.string ((rd_T65 l0 x3_1).f1)] (by rfl) rfl rfl sl_ ?_
      with_reducible refine (spec_TextValid.calls k1 ((rd_T65 l0 x3_1).f1) true _ A4.out).mono ?_
      rintro e w' ⟨rfl, ⟨nd, rfl⟩⟩
      refine ⟨_, rfl, ?_⟩
      refine hK.out _ _ ⟨(cb_ HB.out hw664_0), (cb_ HB.out hw664_1), (cb_ HB.out hw666_0), (cb_ HB.out hw666_1), (cb_ HB.out hw668_0), (cb_ HB.out hw668_1)⟩ (fun hHeld => ?_)
      clear hK K
      refine norm_ (a' := ?_) ?_ ?_
      rotate_left
      ·show Act.put _ (some 15) _ = _
       simp only [Act.put, List.setIfInBounds_toArray, List.set_cons_zero, List.set_cons_succ, i64_w, i32_w]
       rfl
      refine paA_ 6 16 7 32 ?_
      refine paA_ 7 17 8 31 ?_
      refine paA_ 8 18 9 30 ?_
      refine paA_ 9 19 10 29 ?_
      refine paA_ 10 20 11 28 ?_
      refine paA_ 11 21 12 27 ?_
      refine pa_ (i := 14) (N := some 24) (tb_ 39 20479) ?_
      refine pa_ (i := 15) (N := some 25) (tb_ 39 53247) ?_
      refine pa_ (i := 16) (N := some 26) (tb_ 39 118783) ?_
      refine pa_ (i := 17) (N := some 27) (tb_ 39 249855) ?_
      refine ta6_ (i := 12) (N := some 22) (tb_ 39 253951) ?_
      refine ta6_ (i := 18) (N := some 28) (tb_ 39 516095) ?_
      refine one_ (i := 13) (N := some 23) (tf_ 19 20) rfl rfl (one_of HT_.out (by kernel_rfl)) (by decide) (fun K hK => ?_)
      refine goes_ Try.func84 (by kernel_rfl) rfl #[.string ((rd_T65 l0 x3_1).f1)] (by rfl) rfl rfl sl_ ?_
      with_reducible refine (spec_PrintOf.calls k1 ((rd_T65 l0 x3_1).f1) t667 _ A6.out).mono ?_
      rintro e w' ⟨rfl, ⟨nd, rfl⟩⟩
      refine ⟨_, rfl, ?_⟩
      refine hK.out _ _ ⟨(cb_ HB.out hw664_0), (cb_ HB.out hw664_1), (cb_ HB.out hw666_0), (cb_ HB.out hw666_1), (cb_ HB.out hw668_0), (cb_ HB.out hw668_1)⟩ (fun hHeld => ?_)
      clear hK K
      refine norm_ (a' := ?_) ?_ ?_
      rotate_left
      ·show Act.put _ (some 23) _ = _
       simp only [Act.put, List.setIfInBounds_toArray, List.set_cons_zero, List.set_cons_succ, i64_w, i32_w]
       rfl
      refine paA_ 19 29 20 19 ?_
      refine paA_ 20 30 21 18 ?_
      refine paA_ 21 31 22 17 ?_
      refine pnA_ 22 32 23 16 ?_
      refine pnA_ 23 33 24 15 ?_
      refine pnA_ 24 34 25 14 ?_
      refine pnA_ 25 35 26 13 ?_
      refine pnA_ 26 36 27 12 ?_
      refine pnA_ 27 37 28 11 ?_
      refine pnA_ 28 38 29 10 ?_
      refine pnA_ 29 39 30 9 ?_
      refine pnA_ 30 40 31 8 ?_
      refine pnA_ 31 41 32 7 ?_
      refine pnA_ 32 42 33 6 ?_
      refine pnA_ 33 43 34 5 ?_
      refine pnA_ 34 44 35 4 ?_
      refine pnA_ 35 45 36 3 ?_
      refine pnA_ 36 46 37 2 ?_
      refine pnA_ 37 47 38 1 ?_
      refine paA_ 38 48 39 0 ?_
      refine done_ (done_of HT_.out (by kernel_rfl)) ?_
      try go_wp2
      go_ret
      exact ⟨er_, hb_⟩
    ·replace c5 := Bool.eq_false_iff.mpr c5
     subst c5
     have H1 : (some false) = some r := by rw [if_neg (show ¬ (false = true) by decide)] at H; exact H
     clear H
     have H := H1
     clear H1
     obtain rfl := Option.some.inj H
     try go_wp2
     replace HB := Aside0.mk (below_drew1 HB.out)
     have p664 : 0 ≤ (x3_1 : Int) := dt_
     have q664 : x3_1 < (l0.length : Int) := dt_
     obtain ⟨ad664, e664, hx664_0, hx664_1⟩ := at_T65 HR0.out x3_1 p664 q664
     have hw664_1 := hx664_1
     have hw664_0 := hx664_0
     cases e664
     replace hx664_0 := cb_ HB.out hx664_0
     replace hx664_1 := cb_ HB.out hx664_1
     replace p664 := eq_true p664
     replace q664 := eq_true q664
     refine start_ (n := 39) (S := fun w' => w'.cell? (ad664.add ((x3_1).toNat * 2)) = some (.int .i64 ((rd_T65 l0 x3_1).f0)) ∧ w'.cell? ⟨(ad664.add ((x3_1).toNat * 2)).block, (ad664.add ((x3_1).toNat * 2)).off + 1, none⟩ = some (.string ((rd_T65 l0 x3_1).f1))) (ds := []) (tf_ 0 39) (by kernel_rfl) rfl rfl ⟨(cb_ HB.out hw664_0), (cb_ HB.out hw664_1)⟩ (fun hHeld => ?_); refine with_tabW spec_StoreValid.tab4 spec_StoreValid.bits4 (fun HT_ HW_ => ?_)
     generalize wr.drew = w17 at HB hx664_0 hx664_1 hHeld ⊢
     refine paA_ 0 10 1 38 ?_
     refine paA_ 1 11 2 37 ?_
     refine paA_ 2 12 3 36 ?_
     refine paA_ 3 13 4 35 ?_
     refine ta2_ (i := 4) (N := some 14) (tf_ 5 34) ?_
     refine one_ (i := 5) (N := some 15) (tf_ 6 33) rfl rfl (one_of HT_.out (by kernel_rfl)) (by decide) (fun K hK => ?_)
     refine goes_ Try.func85 (by kernel_rfl) rfl #[.string ((rd_T65 l0 x3_1).f1)] (by rfl) rfl rfl sl_ ?_
     with_reducible refine (spec_TextValid.calls k1 ((rd_T65 l0 x3_1).f1) false _ A4.out).mono ?_
     rintro e w' ⟨rfl, ⟨nd, rfl⟩⟩
     refine ⟨_, rfl, ?_⟩
     refine hK.out _ _ ⟨(cb_ HB.out hw664_0), (cb_ HB.out hw664_1)⟩ (fun hHeld => ?_)
     clear hK K
     refine norm_ (a' := ?_) ?_ ?_
     rotate_left
     ·show Act.put _ (some 15) _ = _
      simp only [Act.put, List.setIfInBounds_toArray, List.set_cons_zero, List.set_cons_succ, i64_w, i32_w]
      rfl
     refine paA_ 6 16 7 32 ?_
     refine paA_ 7 17 8 31 ?_
     refine pnA_ 8 18 9 30 ?_
     refine pnA_ 9 19 10 29 ?_
     refine pnA_ 10 20 11 28 ?_
     refine pnA_ 11 21 12 27 ?_
     refine pnA_ 12 22 13 26 ?_
     refine pnA_ 13 23 14 25 ?_
     refine pnA_ 14 24 15 24 ?_
     refine pnA_ 15 25 16 23 ?_
     refine pnA_ 16 26 17 22 ?_
     refine pnA_ 17 27 18 21 ?_
     refine pnA_ 18 28 19 20 ?_
     refine pnA_ 19 29 20 19 ?_
     refine paA_ 20 30 21 18 ?_
     refine paA_ 21 31 22 17 ?_
     refine pnA_ 22 32 23 16 ?_
     refine pnA_ 23 33 24 15 ?_
     refine pnA_ 24 34 25 14 ?_
     refine pnA_ 25 35 26 13 ?_
     refine pnA_ 26 36 27 12 ?_
     refine pnA_ 27 37 28 11 ?_
     refine pnA_ 28 38 29 10 ?_
     refine pnA_ 29 39 30 9 ?_
     refine pnA_ 30 40 31 8 ?_
     refine pnA_ 31 41 32 7 ?_
     refine pnA_ 32 42 33 6 ?_
     refine pnA_ 33 43 34 5 ?_
     refine pnA_ 34 44 35 4 ?_
     refine pnA_ 35 45 36 3 ?_
     refine pnA_ 36 46 37 2 ?_
     refine pnA_ 37 47 38 1 ?_
     refine paA_ 38 48 39 0 ?_
     refine done_ (done_of HT_.out (by kernel_rfl)) ?_
     try go_wp2
     go_ret
     exact ⟨er_, hb_⟩
   ·rw [if_neg c2] at H
    have c2b0 : decide (x3_1 < (l0.length : Int)) = false := decide_eq_false c2
    clear c2
    obtain rfl := Option.some.inj H
    go_wp2
    go_ret
    exact ⟨er_, hb_⟩
end Go.Proofs.Ytcbmkonigclceaa.P
