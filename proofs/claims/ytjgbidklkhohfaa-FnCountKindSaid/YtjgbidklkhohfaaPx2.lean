-- The functions of the seat as plain Lean functions, made by the kit's print.py for all laws at once. Not trusted: Lean checks it.
import Derived.Test.YtjgbidklkhohfaaPx0
import Derived.Test.YtjgbidklkhohfaaPx1
namespace Go.Proofs.Ytjgbidklkhohfaa.P
open Go.RowKit Go.Proofs.YtjgbidklkhohfaaW.PrintWords Go.Proofs.YtjgbidklkhohfaaW.PrintLast Go.Proofs.YtjgbidklkhohfaaW.PrintMore
attribute [local go_sem] max2_int min2_int max_two min_two max_three min_three max_four min_four   -- for this text's walks alone
set_option linter.unusedVariables false
set_option linter.unusedSimpArgs false
/-! ### spec_WordValid: function 48 -/
def spec_WordValid.l0 : Nat → ByteArray → Int → Option (Bool)
 | 0, _, _ => none
 | k + 1, x0, x3 => if x3 < (x0.size : Int) then (if 0 ≤ x3 then (if (bt x0 x3) ≥ 97 then (if ((bt x0 x3) ≤ 122) then (spec_WordValid.l0 k x0 (wrap64 (x3 + 1))) else (if x3 = 0 then (some false) else (if (bt x0 x3) < 48 then (some false) else (if (bt x0 x3) > 57 then (some false) else (spec_WordValid.l0 k x0 (wrap64 (x3 + 1))))))) else (if x3 = 0 then (some false) else (if (bt x0 x3) < 48 then (some false) else (if (bt x0 x3) > 57 then (some false) else (spec_WordValid.l0 k x0 (wrap64 (x3 + 1))))))) else (none)) else ((spec_l1In.f (x0.size : Int) 1 8).bind fun t178 => (some t178))
def spec_WordValid.f (k : Nat) (a0 : ByteArray) : Option (Bool) := spec_WordValid.l0 k a0 0
theorem spec_WordValid.mono_l : ∀ k, (∀ y0 y1, LeO (spec_WordValid.l0 k y0 y1) (spec_WordValid.l0 (k + 1) y0 y1))
 | 0 => fun _ _ r h => by simp [spec_WordValid.l0] at h
 | k + 1 => by
  have ih0 := spec_WordValid.mono_l k
  ·intro y0 y1
   unfold spec_WordValid.l0
   repeat' first
   | (with_reducible exact ih0 _ _)
   | (with_reducible exact LeO.refl _)
   | (with_reducible exact LeO.none _)
   | (with_reducible refine LeO.ite ?_ ?_)
   | (with_reducible refine LeO.bind ?_ (fun _ => ?_))
   | exact ih0 _ _
   | exact LeO.none _
   | refine LeO.ite ?_ ?_
   | refine LeO.bind ?_ (fun _ => ?_)
theorem spec_WordValid.mono : ∀ a0 k, LeO (spec_WordValid.f k a0) (spec_WordValid.f (k + 1) a0) := by
 intro a0 k
 have ih0 := spec_WordValid.mono_l k
 unfold spec_WordValid.f
 repeat' first
   | (with_reducible exact ih0 _ _)
   | (with_reducible exact LeO.refl _)
   | (with_reducible exact LeO.none _)
   | (with_reducible refine LeO.ite ?_ ?_)
   | (with_reducible refine LeO.bind ?_ (fun _ => ?_))
   | exact ih0 _ _
   | exact LeO.none _
   | refine LeO.ite ?_ ?_
   | refine LeO.bind ?_ (fun _ => ?_)
set_option maxHeartbeats 8000000 in
set_option maxRecDepth 100000 in
theorem spec_WordValid.calls (k : Nat) (a0 : ByteArray) (r : Bool) (w : World) (h : spec_WordValid.f k a0 = some r) :
  Calls Try.prog 48 #[.string a0] w fun e w' => e = .returned (.bool r) ∧ Drawn0 w w' := by
 have H : (spec_WordValid.l0 k a0 0) = some r := h
 clear h
 have H' := Aside0.mk H
 clear H
 go_enter Try.func48, Try.ntmps48
 go_wp2
 go_loopg [3] k (fun kq v3 w' => ∃ (x3_1 : Int), v3 = .int .i64 x3_1 ∧ Aside0 (spec_WordValid.l0 kq a0 x3_1 = some r) ∧ Aside0 (kq ≤ k) ∧ Drawn0 w w')
 case atStart => exact ⟨(0), rs_, H', ⟨Nat.le_refl _⟩, by repeat (first | exact Drawn0.refl _ | apply Drawn0.step)⟩
 case round =>
  clear H'
  obtain ⟨x3_1, rfl, HA, HK1, ⟨m1, rfl⟩⟩ := hrel
  cases gk with
  | zero => exact absurd HA.out (by simp [spec_WordValid.l0])
  | succ k1 =>
   have H := HA.out
   clear HA
   simp only [spec_WordValid.l0] at H
   by_cases c2 : x3_1 < (a0.size : Int)
   ·rw [if_pos c2] at H
    have c2b0 : decide (x3_1 < (a0.size : Int)) = true := decide_eq_true c2
    clear c2
    by_cases c3 : 0 ≤ x3_1; rotate_left
    ·rw [if_neg c3] at H; exact absurd H (by simp)
    rw [if_pos c3] at H
    have c3b0 : decide (0 ≤ x3_1) = true := decide_eq_true c3
    clear c3
    by_cases c5 : (bt a0 x3_1) ≥ 97
    ·rw [if_pos c5] at H
     have c5b0 : decide (97 ≤ (bt a0 x3_1)) = true := decide_eq_true c5
     clear c5
     by_cases c7 : ((bt a0 x3_1) ≤ 122)
     ·rw [if_pos c7] at H
      have c7b0 : decide ((bt a0 x3_1) ≤ 122) = true := decide_eq_true c7
      clear c7
      have H' := Aside0.mk H
      clear H
      have p4 : 0 ≤ (x3_1 : Int) := dt_
      have q4 : x3_1 < (a0.size : Int) := dt_
      have hx4 := bt_at a0 x3_1
      replace p4 := eq_true p4
      replace q4 := eq_true q4
      have p6 : 0 ≤ (x3_1 : Int) := dt_
      have q6 : x3_1 < (a0.size : Int) := dt_
      have hx6 := bt_at a0 x3_1
      replace p6 := eq_true p6
      replace q6 := eq_true q6
      go_wp2
      go_roundg k1
      case measure => have := HK1.out; omega
      case rel => exact ⟨(wrap64 (x3_1 + 1)), rs_, H', ⟨by have := HK1.out; omega⟩, by repeat (first | exact Drawn0.refl _ | apply Drawn0.step)⟩
     ·rw [if_neg c7] at H
      have c7b0 : decide ((bt a0 x3_1) ≤ 122) = false := decide_eq_false c7
      clear c7
      by_cases c8 : x3_1 = 0
      ·rw [if_pos c8] at H
       have c8b0 : (x3_1 == 0) = true := beq_iff_eq.mpr c8
       have c8b1 : (x3_1 != 0) = false := bne_eq_false_iff_eq.mpr c8
       clear c8
       obtain rfl := Option.some.inj H
       have p4 : 0 ≤ (x3_1 : Int) := dt_
       have q4 : x3_1 < (a0.size : Int) := dt_
       have hx4 := bt_at a0 x3_1
       replace p4 := eq_true p4
       replace q4 := eq_true q4
       have p6 : 0 ≤ (x3_1 : Int) := dt_
       have q6 : x3_1 < (a0.size : Int) := dt_
       have hx6 := bt_at a0 x3_1
       replace p6 := eq_true p6
       replace q6 := eq_true q6
       go_wp2
       go_ret
       exact ⟨by first | rfl | (simp; done) | (simp [*]; done), by repeat (first | exact Drawn0.refl _ | apply Drawn0.step)⟩
      ·rw [if_neg c8] at H
       have c8b0 : (x3_1 == 0) = false := beq_eq_false_iff_ne.mpr c8
       have c8b1 : (x3_1 != 0) = true := bne_iff_ne.mpr c8
       by_cases c10 : (bt a0 x3_1) < 48
       ·rw [if_pos c10] at H
        have c10b0 : decide ((bt a0 x3_1) < 48) = true := decide_eq_true c10
        clear c10
        obtain rfl := Option.some.inj H
        have p4 : 0 ≤ (x3_1 : Int) := dt_
        have q4 : x3_1 < (a0.size : Int) := dt_
        have hx4 := bt_at a0 x3_1
        replace p4 := eq_true p4
        replace q4 := eq_true q4
        have p6 : 0 ≤ (x3_1 : Int) := dt_
        have q6 : x3_1 < (a0.size : Int) := dt_
        have hx6 := bt_at a0 x3_1
        replace p6 := eq_true p6
        replace q6 := eq_true q6
        have p9 : 0 ≤ (x3_1 : Int) := dt_
        have q9 : x3_1 < (a0.size : Int) := dt_
        have hx9 := bt_at a0 x3_1
        replace p9 := eq_true p9
        replace q9 := eq_true q9
        go_wp2
        go_ret
        exact ⟨by first | rfl | (simp; done) | (simp [*]; done), by repeat (first | exact Drawn0.refl _ | apply Drawn0.step)⟩
       ·rw [if_neg c10] at H
        have c10b0 : decide ((bt a0 x3_1) < 48) = false := decide_eq_false c10
        clear c10
        by_cases c12 : (bt a0 x3_1) > 57
        ·rw [if_pos c12] at H
         have c12b0 : decide (57 < (bt a0 x3_1)) = true := decide_eq_true c12
         clear c12
         obtain rfl := Option.some.inj H
         have p4 : 0 ≤ (x3_1 : Int) := dt_
         have q4 : x3_1 < (a0.size : Int) := dt_
         have hx4 := bt_at a0 x3_1
         replace p4 := eq_true p4
         replace q4 := eq_true q4
         have p6 : 0 ≤ (x3_1 : Int) := dt_
         have q6 : x3_1 < (a0.size : Int) := dt_
         have hx6 := bt_at a0 x3_1
         replace p6 := eq_true p6
         replace q6 := eq_true q6
         have p9 : 0 ≤ (x3_1 : Int) := dt_
         have q9 : x3_1 < (a0.size : Int) := dt_
         have hx9 := bt_at a0 x3_1
         replace p9 := eq_true p9
         replace q9 := eq_true q9
         have p11 : 0 ≤ (x3_1 : Int) := dt_
         have q11 : x3_1 < (a0.size : Int) := dt_
         have hx11 := bt_at a0 x3_1
         replace p11 := eq_true p11
         replace q11 := eq_true q11
         go_wp2
         go_ret
         exact ⟨by first | rfl | (simp; done) | (simp [*]; done), by repeat (first | exact Drawn0.refl _ | apply Drawn0.step)⟩
        ·rw [if_neg c12] at H
         have c12b0 : decide (57 < (bt a0 x3_1)) = false := decide_eq_false c12
         clear c12
         have H' := Aside0.mk H
         clear H
         have p4 : 0 ≤ (x3_1 : Int) := dt_
         have q4 : x3_1 < (a0.size : Int) := dt_
         have hx4 := bt_at a0 x3_1
         replace p4 := eq_true p4
         replace q4 := eq_true q4
         have p6 : 0 ≤ (x3_1 : Int) := dt_
         have q6 : x3_1 < (a0.size : Int) := dt_
         have hx6 := bt_at a0 x3_1
         replace p6 := eq_true p6
         replace q6 := eq_true q6
         have p9 : 0 ≤ (x3_1 : Int) := dt_
         have q9 : x3_1 < (a0.size : Int) := dt_
         have hx9 := bt_at a0 x3_1
         replace p9 := eq_true p9
         replace q9 := eq_true q9
         have p11 : 0 ≤ (x3_1 : Int) := dt_
         have q11 : x3_1 < (a0.size : Int) := dt_
         have hx11 := bt_at a0 x3_1
         replace p11 := eq_true p11
         replace q11 := eq_true q11
         go_wp2
         go_roundg k1
         case measure => have := HK1.out; omega
         case rel => exact ⟨(wrap64 (x3_1 + 1)), rs_, H', ⟨by have := HK1.out; omega⟩, by repeat (first | exact Drawn0.refl _ | apply Drawn0.step)⟩
    ·rw [if_neg c5] at H
     have c5b0 : decide (97 ≤ (bt a0 x3_1)) = false := decide_eq_false c5
     clear c5
     by_cases c13 : x3_1 = 0
     ·rw [if_pos c13] at H
      have c13b0 : (x3_1 == 0) = true := beq_iff_eq.mpr c13
      have c13b1 : (x3_1 != 0) = false := bne_eq_false_iff_eq.mpr c13
      clear c13
      obtain rfl := Option.some.inj H
      have p4 : 0 ≤ (x3_1 : Int) := dt_
      have q4 : x3_1 < (a0.size : Int) := dt_
      have hx4 := bt_at a0 x3_1
      replace p4 := eq_true p4
      replace q4 := eq_true q4
      go_wp2
      go_ret
      exact ⟨by first | rfl | (simp; done) | (simp [*]; done), by repeat (first | exact Drawn0.refl _ | apply Drawn0.step)⟩
     ·rw [if_neg c13] at H
      have c13b0 : (x3_1 == 0) = false := beq_eq_false_iff_ne.mpr c13
      have c13b1 : (x3_1 != 0) = true := bne_iff_ne.mpr c13
      by_cases c15 : (bt a0 x3_1) < 48
      ·rw [if_pos c15] at H
       have c15b0 : decide ((bt a0 x3_1) < 48) = true := decide_eq_true c15
       clear c15
       obtain rfl := Option.some.inj H
       have p4 : 0 ≤ (x3_1 : Int) := dt_
       have q4 : x3_1 < (a0.size : Int) := dt_
       have hx4 := bt_at a0 x3_1
       replace p4 := eq_true p4
       replace q4 := eq_true q4
       have p14 : 0 ≤ (x3_1 : Int) := dt_
       have q14 : x3_1 < (a0.size : Int) := dt_
       have hx14 := bt_at a0 x3_1
       replace p14 := eq_true p14
       replace q14 := eq_true q14
       go_wp2
       go_ret
       exact ⟨by first | rfl | (simp; done) | (simp [*]; done), by repeat (first | exact Drawn0.refl _ | apply Drawn0.step)⟩
      ·rw [if_neg c15] at H
       have c15b0 : decide ((bt a0 x3_1) < 48) = false := decide_eq_false c15
       clear c15
       by_cases c17 : (bt a0 x3_1) > 57
       ·rw [if_pos c17] at H
        have c17b0 : decide (57 < (bt a0 x3_1)) = true := decide_eq_true c17
        clear c17
        obtain rfl := Option.some.inj H
        have p4 : 0 ≤ (x3_1 : Int) := dt_
        have q4 : x3_1 < (a0.size : Int) := dt_
        have hx4 := bt_at a0 x3_1
        replace p4 := eq_true p4
        replace q4 := eq_true q4
        have p14 : 0 ≤ (x3_1 : Int) := dt_
        have q14 : x3_1 < (a0.size : Int) := dt_
        have hx14 := bt_at a0 x3_1
        replace p14 := eq_true p14
        replace q14 := eq_true q14
        have p16 : 0 ≤ (x3_1 : Int) := dt_
        have q16 : x3_1 < (a0.size : Int) := dt_
        have hx16 := bt_at a0 x3_1
        replace p16 := eq_true p16
        replace q16 := eq_true q16
        go_wp2
        go_ret
        exact ⟨by first | rfl | (simp; done) | (simp [*]; done), by repeat (first | exact Drawn0.refl _ | apply Drawn0.step)⟩
       ·rw [if_neg c17] at H
        have c17b0 : decide (57 < (bt a0 x3_1)) = false := decide_eq_false c17
        clear c17
        have H' := Aside0.mk H
        clear H
        have p4 : 0 ≤ (x3_1 : Int) := dt_
        have q4 : x3_1 < (a0.size : Int) := dt_
        have hx4 := bt_at a0 x3_1
        replace p4 := eq_true p4
        replace q4 := eq_true q4
        have p14 : 0 ≤ (x3_1 : Int) := dt_
        have q14 : x3_1 < (a0.size : Int) := dt_
        have hx14 := bt_at a0 x3_1
        replace p14 := eq_true p14
        replace q14 := eq_true q14
        have p16 : 0 ≤ (x3_1 : Int) := dt_
        have q16 : x3_1 < (a0.size : Int) := dt_
        have hx16 := bt_at a0 x3_1
        replace p16 := eq_true p16
        replace q16 := eq_true q16
        go_wp2
        go_roundg k1
        case measure => have := HK1.out; omega
        case rel => exact ⟨(wrap64 (x3_1 + 1)), rs_, H', ⟨by have := HK1.out; omega⟩, by repeat (first | exact Drawn0.refl _ | apply Drawn0.step)⟩
   ·rw [if_neg c2] at H
    have c2b0 : decide (x3_1 < (a0.size : Int)) = false := decide_eq_false c2
    clear c2
    replace H := Option.bind_eq_some_iff.mp H
    obtain ⟨t178, A180, H⟩ := H
    replace H : (some t178) = some r := H
    have A18 := Aside0.mk A180
    clear A180
    obtain rfl := Option.some.inj H
    go_wp2_with (first | ((with_reducible refine gate_callee (f := 50) rfl ?_); refine goesL_ (some 41) rfl rfl Try.func50 (by kernel_rfl) rfl #[.int .i64 (a0.size : Int), .int .i64 1, .int .i64 8] rfl sl_ ?_; (with_reducible refine (spec_l1In.calls (a0.size : Int) 1 8 t178 _ A18.out).mono ?_); rintro e w' ⟨rfl, ⟨nd, rfl⟩⟩; refine ⟨_, rfl, ?_⟩))
    go_ret
    exact ⟨by first | rfl | (simp; done) | (simp [*]; done), by repeat (first | exact Drawn0.refl _ | apply Drawn0.step)⟩
/-! ### spec_EntriesValid: function 43 -/
def spec_EntriesValid.l0 : Nat → List (S79) → Int → Option (Bool)
 | 0, _, _ => none
 | k + 1, x0, x3 => if x3 < (x0.length : Int) then (if 0 ≤ x3 then ((spec_WordValid.f k ((rd_T79 x0 x3).f0)).bind fun t180 => (if t180 = true then ((spec_l1In.f ((rd_T79 x0 x3).f1) 0 16777212).bind fun t182 => (if t182 = true then (if x3 > 0 then (if 0 ≤ (wrap64 (x3 - 1)) then (if (wrap64 (x3 - 1)) < (x0.length : Int) then (if ((Op.bytesLess (((rd_T79 x0 (wrap64 (x3 - 1))).f0).toList) (((rd_T79 x0 x3).f0).toList)) = true) then (spec_EntriesValid.l0 k x0 (wrap64 (x3 + 1))) else (some false)) else (none)) else (none)) else (spec_EntriesValid.l0 k x0 (wrap64 (x3 + 1)))) else (some false))) else (some false))) else (none)) else (some (decide ((x0.length : Int) ≤ 3)))
def spec_EntriesValid.f (k : Nat) (l0 : List (S79)) : Option (Bool) := spec_EntriesValid.l0 k l0 0
theorem spec_EntriesValid.mono_l : ∀ k, (∀ y0 y1, LeO (spec_EntriesValid.l0 k y0 y1) (spec_EntriesValid.l0 (k + 1) y0 y1))
 | 0 => fun _ _ r h => by simp [spec_EntriesValid.l0] at h
 | k + 1 => by
  have ih0 := spec_EntriesValid.mono_l k
  ·intro y0 y1
   unfold spec_EntriesValid.l0
   repeat' first
   | (with_reducible exact ih0 _ _)
   | (with_reducible exact spec_WordValid.mono _ _)
   | (with_reducible exact LeO.refl _)
   | (with_reducible exact LeO.none _)
   | (with_reducible refine LeO.ite ?_ ?_)
   | (with_reducible refine LeO.bind ?_ (fun _ => ?_))
   | exact ih0 _ _
   | exact spec_WordValid.mono _ _
   | exact LeO.none _
   | refine LeO.ite ?_ ?_
   | refine LeO.bind ?_ (fun _ => ?_)
theorem spec_EntriesValid.mono : ∀ a0 k, LeO (spec_EntriesValid.f k a0) (spec_EntriesValid.f (k + 1) a0) := by
 intro a0 k
 have ih0 := spec_EntriesValid.mono_l k
 unfold spec_EntriesValid.f
 repeat' first
   | (with_reducible exact ih0 _ _)
   | (with_reducible exact spec_WordValid.mono _ _)
   | (with_reducible exact LeO.refl _)
   | (with_reducible exact LeO.none _)
   | (with_reducible refine LeO.ite ?_ ?_)
   | (with_reducible refine LeO.bind ?_ (fun _ => ?_))
   | exact ih0 _ _
   | exact spec_WordValid.mono _ _
   | exact LeO.none _
   | refine LeO.ite ?_ ?_
   | refine LeO.bind ?_ (fun _ => ?_)
def spec_EntriesValid.T4 : Bool × List (List Nat × List Nat) := (true, [([], []), ([], []), ([0, 1], [0, 1]), ([2], [2]), ([3], [3]), ([4], [4]), ([5], [5]), ([6, 5], [6]), ([7], [7]), ([7], [7]), ([8, 9, 7], [7, 8, 9]), ([10, 7], [7, 10]), ([11, 7], [7, 11]), ([12, 7, 7], [7, 12]), ([13, 7], [7, 13]), ([7, 14], [7, 14]), ([15, 13], [15]), ([16], [16]), ([17, 16], [16, 17]), ([18, 16, 16], [16, 18]), ([19], [19]), ([19], [19]), ([20, 21, 19], [19, 20, 21]), ([22, 19], [19, 22]), ([23, 19], [19, 23]), ([19], [19]), ([19], [19]), ([26, 19], [19, 26]), ([25, 27, 19], [19, 25, 27]), ([28, 19], [19, 28]), ([29, 19], [19, 29]), ([24, 30, 19], [19, 24, 30]), ([19, 31, 16], [16, 19, 31]), ([16, 32], [16, 32])])
def spec_EntriesValid.B4 : List Nat := [0, 0, 3, 7, 15, 31, 63, 127, 255, 255, 1023, 2047, 4095, 8191, 16383, 32767, 65535, 131071, 262143, 524287, 1048575, 1048575, 4194303, 8388607, 16777215, 1048575, 1048575, 68157439, 235929599, 504365055, 1041235967, 2147483647, 4294967295, 8589934591]
theorem spec_EntriesValid.tab4 : rtab .any (opsOf Try.f43 4) = spec_EntriesValid.T4 := by kernel_rfl
theorem spec_EntriesValid.bits4 : waitsOk spec_EntriesValid.T4.2 spec_EntriesValid.B4 = true := by kernel_rfl
set_option maxHeartbeats 8000000 in
set_option maxRecDepth 100000 in
theorem spec_EntriesValid.calls (k : Nat) (A0 : Option Addr) (c0 : Nat) (l0 : List (S79)) (r : Bool) (w : World) (hr0 : Kd.C k79 w A0 l0.length l0) (hc0 : l0.length ≤ c0) (h : spec_EntriesValid.f k l0 = some r) :
  Calls Try.prog 43 #[.slice A0 l0.length c0] w fun e w' => e = .returned (.bool r) ∧ Below w.heap.size w w' := by
 have HR0 := Aside0.mk hr0
 have HC0 := Aside0.mk hc0
 clear hr0 hc0
 have HB := Aside0.mk (Below.refl w.heap.size w)
 have H : (spec_EntriesValid.l0 k l0 0) = some r := h
 clear h
 have H' := Aside0.mk H
 clear H
 go_enter Try.func43, Try.ntmps43
 go_wp2
 go_loopg [3] k (fun kq v3 w' => ∃ (x3_1 : Int), v3 = .int .i64 x3_1 ∧ Aside0 (spec_EntriesValid.l0 kq l0 x3_1 = some r) ∧ Aside0 (kq ≤ k) ∧ Aside0 (Below w.heap.size w w'))
 case atStart => exact ⟨(0), rs_, H', ⟨Nat.le_refl _⟩, ⟨hb_⟩⟩
 case round =>
  clear H'
  obtain ⟨x3_1, rfl, HA, HK1, HB⟩ := hrel
  cases gk with
  | zero => exact absurd HA.out (by simp [spec_EntriesValid.l0])
  | succ k1 =>
   have H := HA.out
   clear HA
   simp only [spec_EntriesValid.l0] at H
   by_cases c2 : x3_1 < (l0.length : Int)
   ·rw [if_pos c2] at H
    have c2b0 : decide (x3_1 < (l0.length : Int)) = true := decide_eq_true c2
    clear c2
    by_cases c3 : 0 ≤ x3_1; rotate_left
    ·rw [if_neg c3] at H; exact absurd H (by simp)
    rw [if_pos c3] at H
    have c3b0 : decide (0 ≤ x3_1) = true := decide_eq_true c3
    clear c3
    replace H := Option.bind_eq_some_iff.mp H
    obtain ⟨t180, A40, H⟩ := H
    replace H : (if t180 = true then ((spec_l1In.f ((rd_T79 l0 x3_1).f1) 0 16777212).bind fun t182 => (if t182 = true then (if x3_1 > 0 then (if 0 ≤ (wrap64 (x3_1 - 1)) then (if (wrap64 (x3_1 - 1)) < (l0.length : Int) then (if ((Op.bytesLess (((rd_T79 l0 (wrap64 (x3_1 - 1))).f0).toList) (((rd_T79 l0 x3_1).f0).toList)) = true) then (spec_EntriesValid.l0 k1 l0 (wrap64 (x3_1 + 1))) else (some false)) else (none)) else (none)) else (spec_EntriesValid.l0 k1 l0 (wrap64 (x3_1 + 1)))) else (some false))) else (some false)) = some r := H
    have A4 := Aside0.mk A40
    clear A40
    by_cases c5 : t180 = true
    ·subst c5
     have H1 : ((spec_l1In.f ((rd_T79 l0 x3_1).f1) 0 16777212).bind fun t182 => (if t182 = true then (if x3_1 > 0 then (if 0 ≤ (wrap64 (x3_1 - 1)) then (if (wrap64 (x3_1 - 1)) < (l0.length : Int) then (if ((Op.bytesLess (((rd_T79 l0 (wrap64 (x3_1 - 1))).f0).toList) (((rd_T79 l0 x3_1).f0).toList)) = true) then (spec_EntriesValid.l0 k1 l0 (wrap64 (x3_1 + 1))) else (some false)) else (none)) else (none)) else (spec_EntriesValid.l0 k1 l0 (wrap64 (x3_1 + 1)))) else (some false))) = some r := by rw [if_pos rfl] at H; exact H
     clear H
     have H := H1
     clear H1
     replace H := Option.bind_eq_some_iff.mp H
     obtain ⟨t182, A60, H⟩ := H
     replace H : (if t182 = true then (if x3_1 > 0 then (if 0 ≤ (wrap64 (x3_1 - 1)) then (if (wrap64 (x3_1 - 1)) < (l0.length : Int) then (if ((Op.bytesLess (((rd_T79 l0 (wrap64 (x3_1 - 1))).f0).toList) (((rd_T79 l0 x3_1).f0).toList)) = true) then (spec_EntriesValid.l0 k1 l0 (wrap64 (x3_1 + 1))) else (some false)) else (none)) else (none)) else (spec_EntriesValid.l0 k1 l0 (wrap64 (x3_1 + 1)))) else (some false)) = some r := H
     have A6 := Aside0.mk A60
     clear A60
     by_cases c7 : t182 = true
     ·subst c7
      have H1 : (if x3_1 > 0 then (if 0 ≤ (wrap64 (x3_1 - 1)) then (if (wrap64 (x3_1 - 1)) < (l0.length : Int) then (if ((Op.bytesLess (((rd_T79 l0 (wrap64 (x3_1 - 1))).f0).toList) (((rd_T79 l0 x3_1).f0).toList)) = true) then (spec_EntriesValid.l0 k1 l0 (wrap64 (x3_1 + 1))) else (some false)) else (none)) else (none)) else (spec_EntriesValid.l0 k1 l0 (wrap64 (x3_1 + 1)))) = some r := by rw [if_pos rfl] at H; exact H
      clear H
      have H := H1
      clear H1
      by_cases c8 : x3_1 > 0
      ·rw [if_pos c8] at H
       have c8b0 : decide (0 < x3_1) = true := decide_eq_true c8
       clear c8
       obtain ⟨ji9, hji9⟩ : ∃ j_ : Int, (wrap64 (x3_1 - 1)) = j_ := ⟨_, rfl⟩
       replace H : (if 0 ≤ (ji9) then (if (ji9) < (l0.length : Int) then (if ((Op.bytesLess (((rd_T79 l0 (ji9)).f0).toList) (((rd_T79 l0 x3_1).f0).toList)) = true) then (spec_EntriesValid.l0 k1 l0 (wrap64 (x3_1 + 1))) else (some false)) else (none)) else (none)) = some r := by first | (rw [hji9] at H; exact H) | (simp only [hji9] at H ⊢; exact H)
       (try rw [hji9] at A4)
       (try rw [hji9] at A6)
       have hji9w : (IntKind.i64.wrap (x3_1 - 1)) = ji9 := (i64_w _).trans hji9
       by_cases c10 : 0 ≤ (ji9); rotate_left
       ·rw [if_neg c10] at H; exact absurd H (by simp)
       rw [if_pos c10] at H
       have c10b0 : decide (0 ≤ (ji9)) = true := decide_eq_true c10
       clear c10
       by_cases c11 : (ji9) < (l0.length : Int); rotate_left
       ·rw [if_neg c11] at H; exact absurd H (by simp)
       rw [if_pos c11] at H
       have c11b0 : decide ((ji9) < (l0.length : Int)) = true := decide_eq_true c11
       clear c11
       by_cases c12 : ((Op.bytesLess (((rd_T79 l0 (ji9)).f0).toList) (((rd_T79 l0 x3_1).f0).toList)) = true)
       ·rw [if_pos c12] at H
        have c12b0 : (Op.bytesLess (((rd_T79 l0 (ji9)).f0).toList) (((rd_T79 l0 x3_1).f0).toList)) = true := c12
        clear c12
        have H' := Aside0.mk H
        clear H
        try go_wp2
        replace HB := Aside0.mk (below_drew1 HB.out)
        have p179 : 0 ≤ (x3_1 : Int) := dt_
        have q179 : x3_1 < (l0.length : Int) := dt_
        obtain ⟨ad179, e179, hx179_0, hx179_1⟩ := at_T79 HR0.out x3_1 p179 q179
        have hw179_1 := hx179_1
        have hw179_0 := hx179_0
        cases e179
        replace hx179_0 := cb_ HB.out hx179_0
        replace hx179_1 := cb_ HB.out hx179_1
        replace p179 := eq_true p179
        replace q179 := eq_true q179
        have p181 : 0 ≤ (x3_1 : Int) := dt_
        have q181 : x3_1 < (l0.length : Int) := dt_
        obtain ⟨ad181, e181, hx181_0, hx181_1⟩ := at_T79 HR0.out x3_1 p181 q181
        have hw181_1 := hx181_1
        have hw181_0 := hx181_0
        obtain rfl : ad179 = ad181 := (by injection e181)
        replace hx181_0 := cb_ HB.out hx181_0
        replace hx181_1 := cb_ HB.out hx181_1
        replace p181 := eq_true p181
        replace q181 := eq_true q181
        have p183 : 0 ≤ (x3_1 : Int) := dt_
        have q183 : x3_1 < (l0.length : Int) := dt_
        obtain ⟨ad183, e183, hx183_0, hx183_1⟩ := at_T79 HR0.out x3_1 p183 q183
        have hw183_1 := hx183_1
        have hw183_0 := hx183_0
        obtain rfl : ad179 = ad183 := (by injection e183)
        replace hx183_0 := cb_ HB.out hx183_0
        replace hx183_1 := cb_ HB.out hx183_1
        replace p183 := eq_true p183
        replace q183 := eq_true q183
        have p184 : 0 ≤ ((ji9) : Int) := dt_
        have q184 : (ji9) < (l0.length : Int) := dt_
        obtain ⟨ad184, e184, hx184_0, hx184_1⟩ := at_T79 HR0.out (ji9) p184 q184
        have hw184_1 := hx184_1
        have hw184_0 := hx184_0
        obtain rfl : ad179 = ad184 := (by injection e184)
        replace hx184_0 := cb_ HB.out hx184_0
        replace hx184_1 := cb_ HB.out hx184_1
        replace p184 := eq_true p184
        replace q184 := eq_true q184
        refine start_ (n := 34) (S := fun w' => w'.cell? (ad179.add ((x3_1).toNat * 2)) = some (.string ((rd_T79 l0 x3_1).f0)) ∧ w'.cell? ⟨(ad179.add ((x3_1).toNat * 2)).block, (ad179.add ((x3_1).toNat * 2)).off + 1, none⟩ = some (.int .i64 ((rd_T79 l0 x3_1).f1)) ∧ w'.cell? (ad179.add ((x3_1).toNat * 2)) = some (.string ((rd_T79 l0 x3_1).f0)) ∧ w'.cell? ⟨(ad179.add ((x3_1).toNat * 2)).block, (ad179.add ((x3_1).toNat * 2)).off + 1, none⟩ = some (.int .i64 ((rd_T79 l0 x3_1).f1)) ∧ w'.cell? (ad179.add ((x3_1).toNat * 2)) = some (.string ((rd_T79 l0 x3_1).f0)) ∧ w'.cell? ⟨(ad179.add ((x3_1).toNat * 2)).block, (ad179.add ((x3_1).toNat * 2)).off + 1, none⟩ = some (.int .i64 ((rd_T79 l0 x3_1).f1)) ∧ w'.cell? (ad179.add (((ji9)).toNat * 2)) = some (.string ((rd_T79 l0 (ji9)).f0)) ∧ w'.cell? ⟨(ad179.add (((ji9)).toNat * 2)).block, (ad179.add (((ji9)).toNat * 2)).off + 1, none⟩ = some (.int .i64 ((rd_T79 l0 (ji9)).f1))) (ds := []) (tf_ 0 34) (by kernel_rfl) rfl rfl ⟨(cb_ HB.out hw179_0), (cb_ HB.out hw179_1), (cb_ HB.out hw181_0), (cb_ HB.out hw181_1), (cb_ HB.out hw183_0), (cb_ HB.out hw183_1), (cb_ HB.out hw184_0), (cb_ HB.out hw184_1)⟩ (fun hHeld => ?_); refine with_tabW spec_EntriesValid.tab4 spec_EntriesValid.bits4 (fun HT_ HW_ => ?_)
        generalize wr.drew = w13 at HB hx179_0 hx179_1 hx181_0 hx181_1 hx183_0 hx183_1 hx184_0 hx184_1 hHeld ⊢
        refine paA_ 0 10 1 33 ?_
        refine paA_ 1 11 2 32 ?_
        refine paA_ 2 12 3 31 ?_
        refine paA_ 3 13 4 30 ?_
        refine ta8_ (i := 4) (N := some 14) (tf_ 5 29) ?_
        refine one_ (i := 5) (N := some 15) (tf_ 6 28) rfl rfl (one_of HT_.out (by kernel_rfl)) (by decide) (fun K hK => ?_)
        refine goes_ Try.func48 (by kernel_rfl) rfl #[.string ((rd_T79 l0 x3_1).f0)] (by rfl) rfl rfl sl_ ?_
        with_reducible refine (spec_WordValid.calls k1 ((rd_T79 l0 x3_1).f0) true _ A4.out).mono ?_
        rintro e w' ⟨rfl, ⟨nd, rfl⟩⟩
        refine ⟨_, rfl, ?_⟩
        refine hK.out _ _ ⟨(cb_ HB.out hw179_0), (cb_ HB.out hw179_1), (cb_ HB.out hw181_0), (cb_ HB.out hw181_1), (cb_ HB.out hw183_0), (cb_ HB.out hw183_1), (cb_ HB.out hw184_0), (cb_ HB.out hw184_1)⟩ (fun hHeld => ?_)
        clear hK K
        refine norm_ (a' := ?_) ?_ ?_
        rotate_left
        ·show Act.put _ (some 15) _ = _
         simp only [Act.put, List.setIfInBounds_toArray, List.set_cons_zero, List.set_cons_succ, i64_w, i32_w]
         rfl
        refine paA_ 6 16 7 27 ?_
        refine paA_ 7 17 8 26 ?_
        refine paA_ 8 18 9 25 ?_
        refine paA_ 9 19 10 24 ?_
        refine paA_ 10 20 11 23 ?_
        refine paA_ 11 21 12 22 ?_
        refine ta8_ (i := 12) (N := some 22) (tf_ 13 21) ?_
        refine one_ (i := 13) (N := some 23) (tf_ 14 20) rfl rfl (one_of HT_.out (by kernel_rfl)) (by decide) (fun K hK => ?_)
        refine goes_ Try.func50 (by kernel_rfl) rfl #[.int .i64 ((rd_T79 l0 x3_1).f1), .int .i64 0, .int .i64 16777212] (by rfl) rfl rfl sl_ ?_
        with_reducible refine (spec_l1In.calls ((rd_T79 l0 x3_1).f1) 0 16777212 true _ A6.out).mono ?_
        rintro e w' ⟨rfl, ⟨nd, rfl⟩⟩
        refine ⟨_, rfl, ?_⟩
        refine hK.out _ _ ⟨(cb_ HB.out hw179_0), (cb_ HB.out hw179_1), (cb_ HB.out hw181_0), (cb_ HB.out hw181_1), (cb_ HB.out hw183_0), (cb_ HB.out hw183_1), (cb_ HB.out hw184_0), (cb_ HB.out hw184_1)⟩ (fun hHeld => ?_)
        clear hK K
        refine norm_ (a' := ?_) ?_ ?_
        rotate_left
        ·show Act.put _ (some 23) _ = _
         simp only [Act.put, List.setIfInBounds_toArray, List.set_cons_zero, List.set_cons_succ, i64_w, i32_w]
         rfl
        refine paA_ 14 24 15 19 ?_
        refine paA_ 15 25 16 18 ?_
        refine paA_ 16 26 17 17 ?_
        refine paA_ 17 27 18 16 ?_
        refine paA_ 18 28 19 15 ?_
        refine paA_ 19 29 20 14 ?_
        refine paA_ 20 30 21 13 ?_
        refine paA_ 21 31 22 12 ?_
        refine paA_ 22 32 23 11 ?_
        refine paA_ 23 33 24 10 ?_
        refine pa_ (i := 25) (N := some 35) (tb_ 34 50331647) ?_
        refine pa_ (i := 26) (N := some 36) (tb_ 34 117440511) ?_
        refine pa_ (i := 27) (N := some 37) (tb_ 34 251658239) ?_
        refine pa_ (i := 28) (N := some 38) (tb_ 34 520093695) ?_
        refine pa_ (i := 29) (N := some 39) (tb_ 34 1056964607) ?_
        refine ta8_ (i := 24) (N := some 34) (tf_ 30 4) ?_
        refine ta8_ (i := 30) (N := some 40) (tf_ 31 3) ?_
        refine paA_ 31 41 32 2 ?_
        refine paA_ 32 42 33 1 ?_
        refine paA_ 33 43 34 0 ?_
        refine done_ (done_of HT_.out (by kernel_rfl)) ?_
        try go_wp2
        go_roundg k1
        case measure => have := HK1.out; omega
        case rel => exact ⟨(wrap64 (x3_1 + 1)), rs_, H', ⟨by have := HK1.out; omega⟩, ⟨hb_⟩⟩
       ·rw [if_neg c12] at H
        have c12b0 : (Op.bytesLess (((rd_T79 l0 (ji9)).f0).toList) (((rd_T79 l0 x3_1).f0).toList)) = false := by simpa using c12
        clear c12
        obtain rfl := Option.some.inj H
        try go_wp2
        replace HB := Aside0.mk (below_drew1 HB.out)
        have p179 : 0 ≤ (x3_1 : Int) := dt_
        have q179 : x3_1 < (l0.length : Int) := dt_
        obtain ⟨ad179, e179, hx179_0, hx179_1⟩ := at_T79 HR0.out x3_1 p179 q179
        have hw179_1 := hx179_1
        have hw179_0 := hx179_0
        cases e179
        replace hx179_0 := cb_ HB.out hx179_0
        replace hx179_1 := cb_ HB.out hx179_1
        replace p179 := eq_true p179
        replace q179 := eq_true q179
        have p181 : 0 ≤ (x3_1 : Int) := dt_
        have q181 : x3_1 < (l0.length : Int) := dt_
        obtain ⟨ad181, e181, hx181_0, hx181_1⟩ := at_T79 HR0.out x3_1 p181 q181
        have hw181_1 := hx181_1
        have hw181_0 := hx181_0
        obtain rfl : ad179 = ad181 := (by injection e181)
        replace hx181_0 := cb_ HB.out hx181_0
        replace hx181_1 := cb_ HB.out hx181_1
        replace p181 := eq_true p181
        replace q181 := eq_true q181
        have p183 : 0 ≤ (x3_1 : Int) := dt_
        have q183 : x3_1 < (l0.length : Int) := dt_
        obtain ⟨ad183, e183, hx183_0, hx183_1⟩ := at_T79 HR0.out x3_1 p183 q183
        have hw183_1 := hx183_1
        have hw183_0 := hx183_0
        obtain rfl : ad179 = ad183 := (by injection e183)
        replace hx183_0 := cb_ HB.out hx183_0
        replace hx183_1 := cb_ HB.out hx183_1
        replace p183 := eq_true p183
        replace q183 := eq_true q183
        have p184 : 0 ≤ ((ji9) : Int) := dt_
        have q184 : (ji9) < (l0.length : Int) := dt_
        obtain ⟨ad184, e184, hx184_0, hx184_1⟩ := at_T79 HR0.out (ji9) p184 q184
        have hw184_1 := hx184_1
        have hw184_0 := hx184_0
        obtain rfl : ad179 = ad184 := (by injection e184)
        replace hx184_0 := cb_ HB.out hx184_0
        replace hx184_1 := cb_ HB.out hx184_1
        replace p184 := eq_true p184
        replace q184 := eq_true q184
        refine start_ (n := 34) (S := fun w' => w'.cell? (ad179.add ((x3_1).toNat * 2)) = some (.string ((rd_T79 l0 x3_1).f0)) ∧ w'.cell? ⟨(ad179.add ((x3_1).toNat * 2)).block, (ad179.add ((x3_1).toNat * 2)).off + 1, none⟩ = some (.int .i64 ((rd_T79 l0 x3_1).f1)) ∧ w'.cell? (ad179.add ((x3_1).toNat * 2)) = some (.string ((rd_T79 l0 x3_1).f0)) ∧ w'.cell? ⟨(ad179.add ((x3_1).toNat * 2)).block, (ad179.add ((x3_1).toNat * 2)).off + 1, none⟩ = some (.int .i64 ((rd_T79 l0 x3_1).f1)) ∧ w'.cell? (ad179.add ((x3_1).toNat * 2)) = some (.string ((rd_T79 l0 x3_1).f0)) ∧ w'.cell? ⟨(ad179.add ((x3_1).toNat * 2)).block, (ad179.add ((x3_1).toNat * 2)).off + 1, none⟩ = some (.int .i64 ((rd_T79 l0 x3_1).f1)) ∧ w'.cell? (ad179.add (((ji9)).toNat * 2)) = some (.string ((rd_T79 l0 (ji9)).f0)) ∧ w'.cell? ⟨(ad179.add (((ji9)).toNat * 2)).block, (ad179.add (((ji9)).toNat * 2)).off + 1, none⟩ = some (.int .i64 ((rd_T79 l0 (ji9)).f1))) (ds := []) (tf_ 0 34) (by kernel_rfl) rfl rfl ⟨(cb_ HB.out hw179_0), (cb_ HB.out hw179_1), (cb_ HB.out hw181_0), (cb_ HB.out hw181_1), (cb_ HB.out hw183_0), (cb_ HB.out hw183_1), (cb_ HB.out hw184_0), (cb_ HB.out hw184_1)⟩ (fun hHeld => ?_); refine with_tabW spec_EntriesValid.tab4 spec_EntriesValid.bits4 (fun HT_ HW_ => ?_)
        generalize wr.drew = w14 at HB hx179_0 hx179_1 hx181_0 hx181_1 hx183_0 hx183_1 hx184_0 hx184_1 hHeld ⊢
        refine paA_ 0 10 1 33 ?_
        refine paA_ 1 11 2 32 ?_
        refine paA_ 2 12 3 31 ?_
        refine paA_ 3 13 4 30 ?_
        refine ta8_ (i := 4) (N := some 14) (tf_ 5 29) ?_
        refine one_ (i := 5) (N := some 15) (tf_ 6 28) rfl rfl (one_of HT_.out (by kernel_rfl)) (by decide) (fun K hK => ?_)
        refine goes_ Try.func48 (by kernel_rfl) rfl #[.string ((rd_T79 l0 x3_1).f0)] (by rfl) rfl rfl sl_ ?_
        with_reducible refine (spec_WordValid.calls k1 ((rd_T79 l0 x3_1).f0) true _ A4.out).mono ?_
        rintro e w' ⟨rfl, ⟨nd, rfl⟩⟩
        refine ⟨_, rfl, ?_⟩
        refine hK.out _ _ ⟨(cb_ HB.out hw179_0), (cb_ HB.out hw179_1), (cb_ HB.out hw181_0), (cb_ HB.out hw181_1), (cb_ HB.out hw183_0), (cb_ HB.out hw183_1), (cb_ HB.out hw184_0), (cb_ HB.out hw184_1)⟩ (fun hHeld => ?_)
        clear hK K
        refine norm_ (a' := ?_) ?_ ?_
        rotate_left
        ·show Act.put _ (some 15) _ = _
         simp only [Act.put, List.setIfInBounds_toArray, List.set_cons_zero, List.set_cons_succ, i64_w, i32_w]
         rfl
        refine paA_ 6 16 7 27 ?_
        refine paA_ 7 17 8 26 ?_
        refine paA_ 8 18 9 25 ?_
        refine paA_ 9 19 10 24 ?_
        refine paA_ 10 20 11 23 ?_
        refine paA_ 11 21 12 22 ?_
        refine ta8_ (i := 12) (N := some 22) (tf_ 13 21) ?_
        refine one_ (i := 13) (N := some 23) (tf_ 14 20) rfl rfl (one_of HT_.out (by kernel_rfl)) (by decide) (fun K hK => ?_)
        refine goes_ Try.func50 (by kernel_rfl) rfl #[.int .i64 ((rd_T79 l0 x3_1).f1), .int .i64 0, .int .i64 16777212] (by rfl) rfl rfl sl_ ?_
        with_reducible refine (spec_l1In.calls ((rd_T79 l0 x3_1).f1) 0 16777212 true _ A6.out).mono ?_
        rintro e w' ⟨rfl, ⟨nd, rfl⟩⟩
        refine ⟨_, rfl, ?_⟩
        refine hK.out _ _ ⟨(cb_ HB.out hw179_0), (cb_ HB.out hw179_1), (cb_ HB.out hw181_0), (cb_ HB.out hw181_1), (cb_ HB.out hw183_0), (cb_ HB.out hw183_1), (cb_ HB.out hw184_0), (cb_ HB.out hw184_1)⟩ (fun hHeld => ?_)
        clear hK K
        refine norm_ (a' := ?_) ?_ ?_
        rotate_left
        ·show Act.put _ (some 23) _ = _
         simp only [Act.put, List.setIfInBounds_toArray, List.set_cons_zero, List.set_cons_succ, i64_w, i32_w]
         rfl
        refine paA_ 14 24 15 19 ?_
        refine paA_ 15 25 16 18 ?_
        refine paA_ 16 26 17 17 ?_
        refine paA_ 17 27 18 16 ?_
        refine paA_ 18 28 19 15 ?_
        refine paA_ 19 29 20 14 ?_
        refine paA_ 20 30 21 13 ?_
        refine paA_ 21 31 22 12 ?_
        refine paA_ 22 32 23 11 ?_
        refine paA_ 23 33 24 10 ?_
        refine pa_ (i := 25) (N := some 35) (tb_ 34 50331647) ?_
        refine pa_ (i := 26) (N := some 36) (tb_ 34 117440511) ?_
        refine pa_ (i := 27) (N := some 37) (tb_ 34 251658239) ?_
        refine pa_ (i := 28) (N := some 38) (tb_ 34 520093695) ?_
        refine pa_ (i := 29) (N := some 39) (tb_ 34 1056964607) ?_
        refine ta8_ (i := 24) (N := some 34) (tf_ 30 4) ?_
        refine ta8_ (i := 30) (N := some 40) (tf_ 31 3) ?_
        refine paA_ 31 41 32 2 ?_
        refine paA_ 32 42 33 1 ?_
        refine paA_ 33 43 34 0 ?_
        refine done_ (done_of HT_.out (by kernel_rfl)) ?_
        try go_wp2
        go_ret
        exact ⟨by first | rfl | (simp [errW_none, errW_some] <;> rfl) | (simp only [← hji9]; first | rfl | (simp [errW_none, errW_some] <;> rfl)) | (simp [*, errW_none, errW_some] <;> rfl), hb_⟩
      ·rw [if_neg c8] at H
       have c8b0 : decide (0 < x3_1) = false := decide_eq_false c8
       clear c8
       have H' := Aside0.mk H
       clear H
       try go_wp2
       replace HB := Aside0.mk (below_drew1 HB.out)
       have p179 : 0 ≤ (x3_1 : Int) := dt_
       have q179 : x3_1 < (l0.length : Int) := dt_
       obtain ⟨ad179, e179, hx179_0, hx179_1⟩ := at_T79 HR0.out x3_1 p179 q179
       have hw179_1 := hx179_1
       have hw179_0 := hx179_0
       cases e179
       replace hx179_0 := cb_ HB.out hx179_0
       replace hx179_1 := cb_ HB.out hx179_1
       replace p179 := eq_true p179
       replace q179 := eq_true q179
       have p181 : 0 ≤ (x3_1 : Int) := dt_
       have q181 : x3_1 < (l0.length : Int) := dt_
       obtain ⟨ad181, e181, hx181_0, hx181_1⟩ := at_T79 HR0.out x3_1 p181 q181
       have hw181_1 := hx181_1
       have hw181_0 := hx181_0
       obtain rfl : ad179 = ad181 := (by injection e181)
       replace hx181_0 := cb_ HB.out hx181_0
       replace hx181_1 := cb_ HB.out hx181_1
       replace p181 := eq_true p181
       replace q181 := eq_true q181
       refine start_ (n := 34) (S := fun w' => w'.cell? (ad179.add ((x3_1).toNat * 2)) = some (.string ((rd_T79 l0 x3_1).f0)) ∧ w'.cell? ⟨(ad179.add ((x3_1).toNat * 2)).block, (ad179.add ((x3_1).toNat * 2)).off + 1, none⟩ = some (.int .i64 ((rd_T79 l0 x3_1).f1)) ∧ w'.cell? (ad179.add ((x3_1).toNat * 2)) = some (.string ((rd_T79 l0 x3_1).f0)) ∧ w'.cell? ⟨(ad179.add ((x3_1).toNat * 2)).block, (ad179.add ((x3_1).toNat * 2)).off + 1, none⟩ = some (.int .i64 ((rd_T79 l0 x3_1).f1))) (ds := []) (tf_ 0 34) (by kernel_rfl) rfl rfl ⟨(cb_ HB.out hw179_0), (cb_ HB.out hw179_1), (cb_ HB.out hw181_0), (cb_ HB.out hw181_1)⟩ (fun hHeld => ?_); refine with_tabW spec_EntriesValid.tab4 spec_EntriesValid.bits4 (fun HT_ HW_ => ?_)
       generalize wr.drew = w15 at HB hx179_0 hx179_1 hx181_0 hx181_1 hHeld ⊢
       refine paA_ 0 10 1 33 ?_
       refine paA_ 1 11 2 32 ?_
       refine paA_ 2 12 3 31 ?_
       refine paA_ 3 13 4 30 ?_
       refine ta4_ (i := 4) (N := some 14) (tf_ 5 29) ?_
       refine one_ (i := 5) (N := some 15) (tf_ 6 28) rfl rfl (one_of HT_.out (by kernel_rfl)) (by decide) (fun K hK => ?_)
       refine goes_ Try.func48 (by kernel_rfl) rfl #[.string ((rd_T79 l0 x3_1).f0)] (by rfl) rfl rfl sl_ ?_
       with_reducible refine (spec_WordValid.calls k1 ((rd_T79 l0 x3_1).f0) true _ A4.out).mono ?_
       rintro e w' ⟨rfl, ⟨nd, rfl⟩⟩
       refine ⟨_, rfl, ?_⟩
       refine hK.out _ _ ⟨(cb_ HB.out hw179_0), (cb_ HB.out hw179_1), (cb_ HB.out hw181_0), (cb_ HB.out hw181_1)⟩ (fun hHeld => ?_)
       clear hK K
       refine norm_ (a' := ?_) ?_ ?_
       rotate_left
       ·show Act.put _ (some 15) _ = _
        simp only [Act.put, List.setIfInBounds_toArray, List.set_cons_zero, List.set_cons_succ, i64_w, i32_w]
        rfl
       refine paA_ 6 16 7 27 ?_
       refine paA_ 7 17 8 26 ?_
       refine paA_ 8 18 9 25 ?_
       refine paA_ 9 19 10 24 ?_
       refine paA_ 10 20 11 23 ?_
       refine paA_ 11 21 12 22 ?_
       refine ta4_ (i := 12) (N := some 22) (tf_ 13 21) ?_
       refine one_ (i := 13) (N := some 23) (tf_ 14 20) rfl rfl (one_of HT_.out (by kernel_rfl)) (by decide) (fun K hK => ?_)
       refine goes_ Try.func50 (by kernel_rfl) rfl #[.int .i64 ((rd_T79 l0 x3_1).f1), .int .i64 0, .int .i64 16777212] (by rfl) rfl rfl sl_ ?_
       with_reducible refine (spec_l1In.calls ((rd_T79 l0 x3_1).f1) 0 16777212 true _ A6.out).mono ?_
       rintro e w' ⟨rfl, ⟨nd, rfl⟩⟩
       refine ⟨_, rfl, ?_⟩
       refine hK.out _ _ ⟨(cb_ HB.out hw179_0), (cb_ HB.out hw179_1), (cb_ HB.out hw181_0), (cb_ HB.out hw181_1)⟩ (fun hHeld => ?_)
       clear hK K
       refine norm_ (a' := ?_) ?_ ?_
       rotate_left
       ·show Act.put _ (some 23) _ = _
        simp only [Act.put, List.setIfInBounds_toArray, List.set_cons_zero, List.set_cons_succ, i64_w, i32_w]
        rfl
       refine paA_ 14 24 15 19 ?_
       refine paA_ 15 25 16 18 ?_
       refine paA_ 16 26 17 17 ?_
       refine paA_ 17 27 18 16 ?_
       refine paA_ 18 28 19 15 ?_
       refine paA_ 19 29 20 14 ?_
       refine pnA_ 20 30 21 13 ?_
       refine pnA_ 21 31 22 12 ?_
       refine pnA_ 22 32 23 11 ?_
       refine pnA_ 23 33 24 10 ?_
       refine pnA_ 24 34 25 9 ?_
       refine pnA_ 25 35 26 8 ?_
       refine pnA_ 26 36 27 7 ?_
       refine pnA_ 27 37 28 6 ?_
       refine pnA_ 28 38 29 5 ?_
       refine pnA_ 29 39 30 4 ?_
       refine pnA_ 30 40 31 3 ?_
       refine pnA_ 31 41 32 2 ?_
       refine paA_ 32 42 33 1 ?_
       refine paA_ 33 43 34 0 ?_
       refine done_ (done_of HT_.out (by kernel_rfl)) ?_
       try go_wp2
       go_roundg k1
       case measure => have := HK1.out; omega
       case rel => exact ⟨(wrap64 (x3_1 + 1)), rs_, H', ⟨by have := HK1.out; omega⟩, ⟨hb_⟩⟩
     ·replace c7 := Bool.eq_false_iff.mpr c7
      subst c7
      have H1 : (some false) = some r := by rw [if_neg (show ¬ (false = true) by decide)] at H; exact H
      clear H
      have H := H1
      clear H1
      obtain rfl := Option.some.inj H
      try go_wp2
      replace HB := Aside0.mk (below_drew1 HB.out)
      have p179 : 0 ≤ (x3_1 : Int) := dt_
      have q179 : x3_1 < (l0.length : Int) := dt_
      obtain ⟨ad179, e179, hx179_0, hx179_1⟩ := at_T79 HR0.out x3_1 p179 q179
      have hw179_1 := hx179_1
      have hw179_0 := hx179_0
      cases e179
      replace hx179_0 := cb_ HB.out hx179_0
      replace hx179_1 := cb_ HB.out hx179_1
      replace p179 := eq_true p179
      replace q179 := eq_true q179
      have p181 : 0 ≤ (x3_1 : Int) := dt_
      have q181 : x3_1 < (l0.length : Int) := dt_
      obtain ⟨ad181, e181, hx181_0, hx181_1⟩ := at_T79 HR0.out x3_1 p181 q181
      have hw181_1 := hx181_1
      have hw181_0 := hx181_0
      obtain rfl : ad179 = ad181 := (by injection e181)
      replace hx181_0 := cb_ HB.out hx181_0
      replace hx181_1 := cb_ HB.out hx181_1
      replace p181 := eq_true p181
      replace q181 := eq_true q181
      refine start_ (n := 34) (S := fun w' => w'.cell? (ad179.add ((x3_1).toNat * 2)) = some (.string ((rd_T79 l0 x3_1).f0)) ∧ w'.cell? ⟨(ad179.add ((x3_1).toNat * 2)).block, (ad179.add ((x3_1).toNat * 2)).off + 1, none⟩ = some (.int .i64 ((rd_T79 l0 x3_1).f1)) ∧ w'.cell? (ad179.add ((x3_1).toNat * 2)) = some (.string ((rd_T79 l0 x3_1).f0)) ∧ w'.cell? ⟨(ad179.add ((x3_1).toNat * 2)).block, (ad179.add ((x3_1).toNat * 2)).off + 1, none⟩ = some (.int .i64 ((rd_T79 l0 x3_1).f1))) (ds := []) (tf_ 0 34) (by kernel_rfl) rfl rfl ⟨(cb_ HB.out hw179_0), (cb_ HB.out hw179_1), (cb_ HB.out hw181_0), (cb_ HB.out hw181_1)⟩ (fun hHeld => ?_); refine with_tabW spec_EntriesValid.tab4 spec_EntriesValid.bits4 (fun HT_ HW_ => ?_)
      generalize wr.drew = w16 at HB hx179_0 hx179_1 hx181_0 hx181_1 hHeld ⊢
      refine paA_ 0 10 1 33 ?_
      refine paA_ 1 11 2 32 ?_
      refine paA_ 2 12 3 31 ?_
      refine paA_ 3 13 4 30 ?_
      refine ta4_ (i := 4) (N := some 14) (tf_ 5 29) ?_
      refine one_ (i := 5) (N := some 15) (tf_ 6 28) rfl rfl (one_of HT_.out (by kernel_rfl)) (by decide) (fun K hK => ?_)
      refine goes_ Try.func48 (by kernel_rfl) rfl #[.string ((rd_T79 l0 x3_1).f0)] (by rfl) rfl rfl sl_ ?_
      with_reducible refine (spec_WordValid.calls k1 ((rd_T79 l0 x3_1).f0) true _ A4.out).mono ?_
      rintro e w' ⟨rfl, ⟨nd, rfl⟩⟩
      refine ⟨_, rfl, ?_⟩
      refine hK.out _ _ ⟨(cb_ HB.out hw179_0), (cb_ HB.out hw179_1), (cb_ HB.out hw181_0), (cb_ HB.out hw181_1)⟩ (fun hHeld => ?_)
      clear hK K
      refine norm_ (a' := ?_) ?_ ?_
      rotate_left
      ·show Act.put _ (some 15) _ = _
       simp only [Act.put, List.setIfInBounds_toArray, List.set_cons_zero, List.set_cons_succ, i64_w, i32_w]
       rfl
      refine paA_ 6 16 7 27 ?_
      refine paA_ 7 17 8 26 ?_
      refine paA_ 8 18 9 25 ?_
      refine paA_ 9 19 10 24 ?_
      refine paA_ 10 20 11 23 ?_
      refine paA_ 11 21 12 22 ?_
      refine ta4_ (i := 12) (N := some 22) (tf_ 13 21) ?_
      refine one_ (i := 13) (N := some 23) (tf_ 14 20) rfl rfl (one_of HT_.out (by kernel_rfl)) (by decide) (fun K hK => ?_)
      refine goes_ Try.func50 (by kernel_rfl) rfl #[.int .i64 ((rd_T79 l0 x3_1).f1), .int .i64 0, .int .i64 16777212] (by rfl) rfl rfl sl_ ?_
      with_reducible refine (spec_l1In.calls ((rd_T79 l0 x3_1).f1) 0 16777212 false _ A6.out).mono ?_
      rintro e w' ⟨rfl, ⟨nd, rfl⟩⟩
      refine ⟨_, rfl, ?_⟩
      refine hK.out _ _ ⟨(cb_ HB.out hw179_0), (cb_ HB.out hw179_1), (cb_ HB.out hw181_0), (cb_ HB.out hw181_1)⟩ (fun hHeld => ?_)
      clear hK K
      refine norm_ (a' := ?_) ?_ ?_
      rotate_left
      ·show Act.put _ (some 23) _ = _
       simp only [Act.put, List.setIfInBounds_toArray, List.set_cons_zero, List.set_cons_succ, i64_w, i32_w]
       rfl
      refine paA_ 14 24 15 19 ?_
      refine paA_ 15 25 16 18 ?_
      refine paA_ 16 26 17 17 ?_
      refine pnA_ 17 27 18 16 ?_
      refine pnA_ 18 28 19 15 ?_
      refine pnA_ 19 29 20 14 ?_
      refine pnA_ 20 30 21 13 ?_
      refine pnA_ 21 31 22 12 ?_
      refine pnA_ 22 32 23 11 ?_
      refine pnA_ 23 33 24 10 ?_
      refine pnA_ 24 34 25 9 ?_
      refine pnA_ 25 35 26 8 ?_
      refine pnA_ 26 36 27 7 ?_
      refine pnA_ 27 37 28 6 ?_
      refine pnA_ 28 38 29 5 ?_
      refine pnA_ 29 39 30 4 ?_
      refine pnA_ 30 40 31 3 ?_
      refine pnA_ 31 41 32 2 ?_
      refine pnA_ 32 42 33 1 ?_
      refine paA_ 33 43 34 0 ?_
      refine done_ (done_of HT_.out (by kernel_rfl)) ?_
      try go_wp2
      go_ret
      exact ⟨er_, hb_⟩
    ·replace c5 := Bool.eq_false_iff.mpr c5
     subst c5
     have H1 : (some false) = some r := by rw [if_neg (show ¬ (false = true) by decide)] at H; exact H
     clear H
     have H := H1
     clear H1
     obtain rfl := Option.some.inj H
     try go_wp2
     replace HB := Aside0.mk (below_drew1 HB.out)
     have p179 : 0 ≤ (x3_1 : Int) := dt_
     have q179 : x3_1 < (l0.length : Int) := dt_
     obtain ⟨ad179, e179, hx179_0, hx179_1⟩ := at_T79 HR0.out x3_1 p179 q179
     have hw179_1 := hx179_1
     have hw179_0 := hx179_0
     cases e179
     replace hx179_0 := cb_ HB.out hx179_0
     replace hx179_1 := cb_ HB.out hx179_1
     replace p179 := eq_true p179
     replace q179 := eq_true q179
     refine start_ (n := 34) (S := fun w' => w'.cell? (ad179.add ((x3_1).toNat * 2)) = some (.string ((rd_T79 l0 x3_1).f0)) ∧ w'.cell? ⟨(ad179.add ((x3_1).toNat * 2)).block, (ad179.add ((x3_1).toNat * 2)).off + 1, none⟩ = some (.int .i64 ((rd_T79 l0 x3_1).f1))) (ds := []) (tf_ 0 34) (by kernel_rfl) rfl rfl ⟨(cb_ HB.out hw179_0), (cb_ HB.out hw179_1)⟩ (fun hHeld => ?_); refine with_tabW spec_EntriesValid.tab4 spec_EntriesValid.bits4 (fun HT_ HW_ => ?_)
     generalize wr.drew = w17 at HB hx179_0 hx179_1 hHeld ⊢
     refine paA_ 0 10 1 33 ?_
     refine paA_ 1 11 2 32 ?_
     refine paA_ 2 12 3 31 ?_
     refine paA_ 3 13 4 30 ?_
     refine ta2_ (i := 4) (N := some 14) (tf_ 5 29) ?_
     refine one_ (i := 5) (N := some 15) (tf_ 6 28) rfl rfl (one_of HT_.out (by kernel_rfl)) (by decide) (fun K hK => ?_)
     refine goes_ Try.func48 (by kernel_rfl) rfl #[.string ((rd_T79 l0 x3_1).f0)] (by rfl) rfl rfl sl_ ?_
     with_reducible refine (spec_WordValid.calls k1 ((rd_T79 l0 x3_1).f0) false _ A4.out).mono ?_
     rintro e w' ⟨rfl, ⟨nd, rfl⟩⟩
     refine ⟨_, rfl, ?_⟩
     refine hK.out _ _ ⟨(cb_ HB.out hw179_0), (cb_ HB.out hw179_1)⟩ (fun hHeld => ?_)
     clear hK K
     refine norm_ (a' := ?_) ?_ ?_
     rotate_left
     ·show Act.put _ (some 15) _ = _
      simp only [Act.put, List.setIfInBounds_toArray, List.set_cons_zero, List.set_cons_succ, i64_w, i32_w]
      rfl
     refine paA_ 6 16 7 27 ?_
     refine paA_ 7 17 8 26 ?_
     refine pnA_ 8 18 9 25 ?_
     refine pnA_ 9 19 10 24 ?_
     refine pnA_ 10 20 11 23 ?_
     refine pnA_ 11 21 12 22 ?_
     refine pnA_ 12 22 13 21 ?_
     refine pnA_ 13 23 14 20 ?_
     refine pnA_ 14 24 15 19 ?_
     refine paA_ 15 25 16 18 ?_
     refine paA_ 16 26 17 17 ?_
     refine pnA_ 17 27 18 16 ?_
     refine pnA_ 18 28 19 15 ?_
     refine pnA_ 19 29 20 14 ?_
     refine pnA_ 20 30 21 13 ?_
     refine pnA_ 21 31 22 12 ?_
     refine pnA_ 22 32 23 11 ?_
     refine pnA_ 23 33 24 10 ?_
     refine pnA_ 24 34 25 9 ?_
     refine pnA_ 25 35 26 8 ?_
     refine pnA_ 26 36 27 7 ?_
     refine pnA_ 27 37 28 6 ?_
     refine pnA_ 28 38 29 5 ?_
     refine pnA_ 29 39 30 4 ?_
     refine pnA_ 30 40 31 3 ?_
     refine pnA_ 31 41 32 2 ?_
     refine pnA_ 32 42 33 1 ?_
     refine paA_ 33 43 34 0 ?_
     refine done_ (done_of HT_.out (by kernel_rfl)) ?_
     try go_wp2
     go_ret
     exact ⟨er_, hb_⟩
   ·rw [if_neg c2] at H
    have c2b0 : decide (x3_1 < (l0.length : Int)) = false := decide_eq_false c2
    clear c2
    obtain rfl := Option.some.inj H
    go_wp2
    go_ret
    exact ⟨er_, hb_⟩
/-! ### spec_HexText: function 44 -/
def spec_HexText.l0 : Nat → Int → ByteArray → ByteArray → Option (ByteArray)
 | 0, _, _, _ => none
 | k + 1, x0, x3, x4 => if x0 ≥ 16 then (if 0 ≤ (Int.tmod (wrap64 (Int.tdiv x0 16)) 16) then (if (Int.tmod (wrap64 (Int.tdiv x0 16)) 16) ≤ (wrap64 ((Int.tmod (wrap64 (Int.tdiv x0 16)) 16) + 1)) then (if (wrap64 ((Int.tmod (wrap64 (Int.tdiv x0 16)) 16) + 1)) ≤ (x3.size : Int) then (if (x3.extract ((Int.tmod (wrap64 (Int.tdiv x0 16)) 16) : Int).toNat ((wrap64 ((Int.tmod (wrap64 (Int.tdiv x0 16)) 16) + 1)) : Int).toNat).size + x4.size ≤ 9223372036854775807 then (spec_HexText.l0 k (wrap64 (Int.tdiv x0 16)) x3 ((x3.extract ((Int.tmod (wrap64 (Int.tdiv x0 16)) 16) : Int).toNat ((wrap64 ((Int.tmod (wrap64 (Int.tdiv x0 16)) 16) + 1)) : Int).toNat) ++ x4)) else (none)) else (none)) else (none)) else (none)) else (some x4)
def spec_HexText.f (k : Nat) (a0 : Int) : Option (ByteArray) := (spec_l1In.f a0 0 16777212).bind fun t185 => (if t185 = true then (if 0 ≤ (Int.tmod a0 16) then (if (Int.tmod a0 16) ≤ (wrap64 ((Int.tmod a0 16) + 1)) then (if (wrap64 ((Int.tmod a0 16) + 1)) ≤ 16 then (spec_HexText.l0 k a0 (⟨#[48, 49, 50, 51, 52, 53, 54, 55, 56, 57, 97, 98, 99, 100, 101, 102]⟩ : ByteArray) ((⟨#[48, 49, 50, 51, 52, 53, 54, 55, 56, 57, 97, 98, 99, 100, 101, 102]⟩ : ByteArray).extract ((Int.tmod a0 16) : Int).toNat ((wrap64 ((Int.tmod a0 16) + 1)) : Int).toNat)) else (none)) else (none)) else (none)) else (some (⟨#[]⟩ : ByteArray)))
theorem spec_HexText.mono_l : ∀ k, (∀ y0 y1 y2, LeO (spec_HexText.l0 k y0 y1 y2) (spec_HexText.l0 (k + 1) y0 y1 y2))
 | 0 => fun _ _ _ r h => by simp [spec_HexText.l0] at h
 | k + 1 => by
  have ih0 := spec_HexText.mono_l k
  ·intro y0 y1 y2
   unfold spec_HexText.l0
   repeat' first
   | (with_reducible exact ih0 _ _ _)
   | (with_reducible exact LeO.refl _)
   | (with_reducible exact LeO.none _)
   | (with_reducible refine LeO.ite ?_ ?_)
   | (with_reducible refine LeO.bind ?_ (fun _ => ?_))
   | exact ih0 _ _ _
   | exact LeO.none _
   | refine LeO.ite ?_ ?_
   | refine LeO.bind ?_ (fun _ => ?_)
theorem spec_HexText.mono : ∀ a0 k, LeO (spec_HexText.f k a0) (spec_HexText.f (k + 1) a0) := by
 intro a0 k
 have ih0 := spec_HexText.mono_l k
 unfold spec_HexText.f
 repeat' first
   | (with_reducible exact ih0 _ _ _)
   | (with_reducible exact LeO.refl _)
   | (with_reducible exact LeO.none _)
   | (with_reducible refine LeO.ite ?_ ?_)
   | (with_reducible refine LeO.bind ?_ (fun _ => ?_))
   | exact ih0 _ _ _
   | exact LeO.none _
   | refine LeO.ite ?_ ?_
   | refine LeO.bind ?_ (fun _ => ?_)
set_option maxHeartbeats 8000000 in
set_option maxRecDepth 100000 in
theorem spec_HexText.calls (k : Nat) (a0 : Int) (r : ByteArray) (w : World) (h : spec_HexText.f k a0 = some r) :
  Calls Try.prog 44 #[.int .i64 a0] w fun e w' => e = .returned (.string r) ∧ Drawn0 w w' := by
 have H : ((spec_l1In.f a0 0 16777212).bind fun t185 => (if t185 = true then (if 0 ≤ (Int.tmod a0 16) then (if (Int.tmod a0 16) ≤ (wrap64 ((Int.tmod a0 16) + 1)) then (if (wrap64 ((Int.tmod a0 16) + 1)) ≤ 16 then (spec_HexText.l0 k a0 (⟨#[48, 49, 50, 51, 52, 53, 54, 55, 56, 57, 97, 98, 99, 100, 101, 102]⟩ : ByteArray) ((⟨#[48, 49, 50, 51, 52, 53, 54, 55, 56, 57, 97, 98, 99, 100, 101, 102]⟩ : ByteArray).extract ((Int.tmod a0 16) : Int).toNat ((wrap64 ((Int.tmod a0 16) + 1)) : Int).toNat)) else (none)) else (none)) else (none)) else (some (⟨#[]⟩ : ByteArray)))) = some r := h
 clear h
 replace H := Option.bind_eq_some_iff.mp H
 obtain ⟨t185, A20, H⟩ := H
 replace H : (if t185 = true then (if 0 ≤ (Int.tmod a0 16) then (if (Int.tmod a0 16) ≤ (wrap64 ((Int.tmod a0 16) + 1)) then (if (wrap64 ((Int.tmod a0 16) + 1)) ≤ 16 then (spec_HexText.l0 k a0 (⟨#[48, 49, 50, 51, 52, 53, 54, 55, 56, 57, 97, 98, 99, 100, 101, 102]⟩ : ByteArray) ((⟨#[48, 49, 50, 51, 52, 53, 54, 55, 56, 57, 97, 98, 99, 100, 101, 102]⟩ : ByteArray).extract ((Int.tmod a0 16) : Int).toNat ((wrap64 ((Int.tmod a0 16) + 1)) : Int).toNat)) else (none)) else (none)) else (none)) else (some (⟨#[]⟩ : ByteArray))) = some r := H
 have A2 := Aside0.mk A20
 clear A20
 by_cases c3 : t185 = true
 ·subst c3
  have H1 : (if 0 ≤ (Int.tmod a0 16) then (if (Int.tmod a0 16) ≤ (wrap64 ((Int.tmod a0 16) + 1)) then (if (wrap64 ((Int.tmod a0 16) + 1)) ≤ 16 then (spec_HexText.l0 k a0 (⟨#[48, 49, 50, 51, 52, 53, 54, 55, 56, 57, 97, 98, 99, 100, 101, 102]⟩ : ByteArray) ((⟨#[48, 49, 50, 51, 52, 53, 54, 55, 56, 57, 97, 98, 99, 100, 101, 102]⟩ : ByteArray).extract ((Int.tmod a0 16) : Int).toNat ((wrap64 ((Int.tmod a0 16) + 1)) : Int).toNat)) else (none)) else (none)) else (none)) = some r := by rw [if_pos rfl] at H; exact H
  clear H
  have H := H1
  clear H1
  obtain ⟨ji4, hji4⟩ : ∃ j_ : Int, (Int.tmod a0 16) = j_ := ⟨_, rfl⟩
  replace H : (if 0 ≤ (ji4) then (if (ji4) ≤ (wrap64 ((ji4) + 1)) then (if (wrap64 ((ji4) + 1)) ≤ 16 then (spec_HexText.l0 k a0 (⟨#[48, 49, 50, 51, 52, 53, 54, 55, 56, 57, 97, 98, 99, 100, 101, 102]⟩ : ByteArray) ((⟨#[48, 49, 50, 51, 52, 53, 54, 55, 56, 57, 97, 98, 99, 100, 101, 102]⟩ : ByteArray).extract ((ji4) : Int).toNat ((wrap64 ((ji4) + 1)) : Int).toNat)) else (none)) else (none)) else (none)) = some r := by first | (rw [hji4] at H; exact H) | (simp only [hji4] at H ⊢; exact H)
  (try rw [hji4] at A2)
  by_cases c5 : 0 ≤ (ji4); rotate_left
  ·rw [if_neg c5] at H; exact absurd H (by simp)
  rw [if_pos c5] at H
  have c5b0 := eq_true c5
  have c5b1 : decide (0 ≤ (ji4)) = true := decide_eq_true c5
  clear c5
  by_cases c6 : (ji4) ≤ (wrap64 ((ji4) + 1)); rotate_left
  ·rw [if_neg c6] at H; exact absurd H (by simp)
  rw [if_pos c6] at H
  have c6b0 := eq_true c6
  have c6b1 : decide ((ji4) ≤ (wrap64 ((ji4) + 1))) = true := decide_eq_true c6
  by_cases c7 : (wrap64 ((ji4) + 1)) ≤ 16; rotate_left
  ·rw [if_neg c7] at H; exact absurd H (by simp)
  rw [if_pos c7] at H
  have c7b0 := eq_true c7
  have c7b1 : decide ((wrap64 ((ji4) + 1)) ≤ 16) = true := decide_eq_true c7
  have H' := Aside0.mk H
  clear H
  go_enter Try.func44, Try.ntmps44
  go_wp2_with (first | ((with_reducible refine gate_callee (f := 50) rfl ?_); refine goesL_ (some 6) rfl rfl Try.func50 (by kernel_rfl) rfl #[.int .i64 a0, .int .i64 0, .int .i64 16777212] rfl sl_ ?_; (with_reducible refine (spec_l1In.calls a0 0 16777212 true _ A2.out).mono ?_); rintro e w' ⟨rfl, ⟨nd, rfl⟩⟩; refine ⟨_, rfl, ?_⟩))
  go_loopg [0, 4] k (fun kq v0 v4 w' => ∃ (x0_1 : Int) (x4_1 : ByteArray), v0 = .int .i64 x0_1 ∧ v4 = .string x4_1 ∧ Aside0 (spec_HexText.l0 kq x0_1 (⟨#[48, 49, 50, 51, 52, 53, 54, 55, 56, 57, 97, 98, 99, 100, 101, 102]⟩ : ByteArray) x4_1 = some r) ∧ Aside0 (kq ≤ k) ∧ Drawn0 w w')
  case atStart => exact ⟨(a0), ((⟨#[48, 49, 50, 51, 52, 53, 54, 55, 56, 57, 97, 98, 99, 100, 101, 102]⟩ : ByteArray).extract ((ji4) : Int).toNat ((wrap64 ((ji4) + 1)) : Int).toNat), rs_, (by first | rfl | (simp; done) | (simp only [← hji4] <;> (first | rfl | simp)) | (simp [*]; done)), H', ⟨Nat.le_refl _⟩, by repeat (first | exact Drawn0.refl _ | apply Drawn0.step)⟩
  case round =>
   clear H'
   try clear p2
   try clear c3
   try clear c4
   try clear c5
   try clear c5b0
   try clear c5b1
   try clear c6
   try clear c6b0
   try clear c6b1
   try clear p6
   try clear c7
   try clear c7b0
   try clear c7b1
   obtain ⟨x0_1, x4_1, rfl, rfl, HA, HK1, ⟨m1, rfl⟩⟩ := hrel
   cases gk with
   | zero => exact absurd HA.out (by simp [spec_HexText.l0])
   | succ k1 =>
    have H := HA.out
    clear HA
    simp only [spec_HexText.l0] at H
    by_cases c8 : x0_1 ≥ 16
    ·rw [if_pos c8] at H
     have c8b0 : decide (16 ≤ x0_1) = true := decide_eq_true c8
     clear c8
     obtain ⟨ji9, hji9⟩ : ∃ j_ : Int, (Int.tmod (wrap64 (Int.tdiv x0_1 16)) 16) = j_ := ⟨_, rfl⟩
     replace H : (if 0 ≤ (ji9) then (if (ji9) ≤ (wrap64 ((ji9) + 1)) then (if (wrap64 ((ji9) + 1)) ≤ ((⟨#[48, 49, 50, 51, 52, 53, 54, 55, 56, 57, 97, 98, 99, 100, 101, 102]⟩ : ByteArray).size : Int) then (if ((⟨#[48, 49, 50, 51, 52, 53, 54, 55, 56, 57, 97, 98, 99, 100, 101, 102]⟩ : ByteArray).extract ((ji9) : Int).toNat ((wrap64 ((ji9) + 1)) : Int).toNat).size + x4_1.size ≤ 9223372036854775807 then (spec_HexText.l0 k1 (wrap64 (Int.tdiv x0_1 16)) (⟨#[48, 49, 50, 51, 52, 53, 54, 55, 56, 57, 97, 98, 99, 100, 101, 102]⟩ : ByteArray) (((⟨#[48, 49, 50, 51, 52, 53, 54, 55, 56, 57, 97, 98, 99, 100, 101, 102]⟩ : ByteArray).extract ((ji9) : Int).toNat ((wrap64 ((ji9) + 1)) : Int).toNat) ++ x4_1)) else (none)) else (none)) else (none)) else (none)) = some r := by first | (rw [hji9] at H; exact H) | (simp only [hji9] at H ⊢; exact H)
     by_cases c10 : 0 ≤ (ji9); rotate_left
     ·rw [if_neg c10] at H; exact absurd H (by simp)
     rw [if_pos c10] at H
     have c10b0 := eq_true c10
     have c10b1 : decide (0 ≤ (ji9)) = true := decide_eq_true c10
     clear c10
     by_cases c11 : (ji9) ≤ (wrap64 ((ji9) + 1)); rotate_left
     ·rw [if_neg c11] at H; exact absurd H (by simp)
     rw [if_pos c11] at H
     have c11b0 := eq_true c11
     have c11b1 : decide ((ji9) ≤ (wrap64 ((ji9) + 1))) = true := decide_eq_true c11
     by_cases c12 : (wrap64 ((ji9) + 1)) ≤ ((⟨#[48, 49, 50, 51, 52, 53, 54, 55, 56, 57, 97, 98, 99, 100, 101, 102]⟩ : ByteArray).size : Int); rotate_left
     ·rw [if_neg c12] at H; exact absurd H (by simp)
     rw [if_pos c12] at H
     have c12b0 := eq_true c12
     have c12b1 : decide ((wrap64 ((ji9) + 1)) ≤ ((⟨#[48, 49, 50, 51, 52, 53, 54, 55, 56, 57, 97, 98, 99, 100, 101, 102]⟩ : ByteArray).size : Int)) = true := decide_eq_true c12
     try have c12b5 : ((wrap64 ((ji9) + 1)) ≤ (16 : Int)) = True := eq_true (by first | exact c12 | exact (by have h_ := c12; have hl0_ : (⟨#[48, 49, 50, 51, 52, 53, 54, 55, 56, 57, 97, 98, 99, 100, 101, 102]⟩ : ByteArray).size = 16 := rfl; simp only [ByteArray.size_append, ByteArray.size_extract] at h_ ⊢; omega))
     try have c12b6 : decide ((wrap64 ((ji9) + 1)) ≤ (16 : Int)) = true := decide_eq_true (of_eq_true c12b5)
     by_cases c13 : ((⟨#[48, 49, 50, 51, 52, 53, 54, 55, 56, 57, 97, 98, 99, 100, 101, 102]⟩ : ByteArray).extract ((ji9) : Int).toNat ((wrap64 ((ji9) + 1)) : Int).toNat).size + x4_1.size ≤ 9223372036854775807; rotate_left
     ·rw [if_neg c13] at H; exact absurd H (by simp)
     rw [if_pos c13] at H
     have c13b0 := eq_true c13
     have c13b1 : decide (((⟨#[48, 49, 50, 51, 52, 53, 54, 55, 56, 57, 97, 98, 99, 100, 101, 102]⟩ : ByteArray).extract ((ji9) : Int).toNat ((wrap64 ((ji9) + 1)) : Int).toNat).size + x4_1.size ≤ 9223372036854775807) = true := decide_eq_true c13
     try have c13b2 : (9223372036854775807 < ((⟨#[48, 49, 50, 51, 52, 53, 54, 55, 56, 57, 97, 98, 99, 100, 101, 102]⟩ : ByteArray).extract ((ji9) : Int).toNat ((wrap64 ((ji9) + 1)) : Int).toNat).size + x4_1.size) = False := eq_false (Nat.not_lt.2 c13)
     try have c13b5 : ((((wrap64 ((ji9) + 1)) : Int).toNat - ((ji9) : Int).toNat) + x4_1.size ≤ 9223372036854775807) = True := eq_true (by first | exact c13 | exact (by have h_ := c13; have hl0_ : (⟨#[48, 49, 50, 51, 52, 53, 54, 55, 56, 57, 97, 98, 99, 100, 101, 102]⟩ : ByteArray).size = 16 := rfl; simp only [ByteArray.size_append, ByteArray.size_extract] at h_ ⊢; omega))
     try have c13b6 : decide ((((wrap64 ((ji9) + 1)) : Int).toNat - ((ji9) : Int).toNat) + x4_1.size ≤ 9223372036854775807) = true := decide_eq_true (of_eq_true c13b5)
     try have c13b7 : (9223372036854775807 < (((wrap64 ((ji9) + 1)) : Int).toNat - ((ji9) : Int).toNat) + x4_1.size) = False := eq_false (Nat.not_lt.2 (of_eq_true c13b5))
     have H' := Aside0.mk H
     clear H
     go_wp2
     go_roundg k1
     case measure => have := HK1.out; omega
     case rel => exact ⟨(wrap64 (Int.tdiv x0_1 16)), (((⟨#[48, 49, 50, 51, 52, 53, 54, 55, 56, 57, 97, 98, 99, 100, 101, 102]⟩ : ByteArray).extract ((ji9) : Int).toNat ((wrap64 ((ji9) + 1)) : Int).toNat) ++ x4_1), rs_, (by first | rfl | (simp; done) | (simp only [← hji9] <;> (first | rfl | simp)) | (simp [*]; done)), H', ⟨by have := HK1.out; omega⟩, by repeat (first | exact Drawn0.refl _ | apply Drawn0.step)⟩
    ·rw [if_neg c8] at H
     have c8b0 : decide (16 ≤ x0_1) = false := decide_eq_false c8
     clear c8
     obtain rfl := Option.some.inj H
     go_wp2
     go_ret
     exact ⟨by first | rfl | (simp; done) | (simp only [← hji4] <;> (first | rfl | simp)) | (simp [*]; done), by repeat (first | exact Drawn0.refl _ | apply Drawn0.step)⟩
 ·replace c3 := Bool.eq_false_iff.mpr c3
  subst c3
  have H1 : (some (⟨#[]⟩ : ByteArray)) = some r := by rw [if_neg (show ¬ (false = true) by decide)] at H; exact H
  clear H
  have H := H1
  clear H1
  obtain rfl := Option.some.inj H
  go_enter Try.func44, Try.ntmps44
  go_wp2_with (first | ((with_reducible refine gate_callee (f := 50) rfl ?_); refine goesL_ (some 6) rfl rfl Try.func50 (by kernel_rfl) rfl #[.int .i64 a0, .int .i64 0, .int .i64 16777212] rfl sl_ ?_; (with_reducible refine (spec_l1In.calls a0 0 16777212 false _ A2.out).mono ?_); rintro e w' ⟨rfl, ⟨nd, rfl⟩⟩; refine ⟨_, rfl, ?_⟩))
  go_ret
  exact ⟨by first | rfl | (simp; done) | (simp [*]; done), by repeat (first | exact Drawn0.refl _ | apply Drawn0.step)⟩
/-! ### spec_FolderText: function 31 -/
def spec_FolderText.l0 : Nat → List (S79) → ByteArray → Int → Option (ByteArray)
 | 0, _, _, _ => none
 | k + 1, x0, x3, x4 => if x4 < (x0.length : Int) then (if 0 ≤ x4 then (if x3.size + ((rd_T79 x0 x4).f0).size ≤ 9223372036854775807 then (if (x3 ++ ((rd_T79 x0 x4).f0)).size + 1 ≤ 9223372036854775807 then ((spec_HexText.f k ((rd_T79 x0 x4).f1)).bind fun t189 => (if ((x3 ++ ((rd_T79 x0 x4).f0)) ++ (⟨#[61]⟩ : ByteArray)).size + t189.size ≤ 9223372036854775807 then (if (((x3 ++ ((rd_T79 x0 x4).f0)) ++ (⟨#[61]⟩ : ByteArray)) ++ t189).size + 1 ≤ 9223372036854775807 then (spec_FolderText.l0 k x0 ((((x3 ++ ((rd_T79 x0 x4).f0)) ++ (⟨#[61]⟩ : ByteArray)) ++ t189) ++ (⟨#[59]⟩ : ByteArray)) (wrap64 (x4 + 1))) else (none)) else (none))) else (none)) else (none)) else (none)) else (some x3)
def spec_FolderText.f (k : Nat) (l0 : List (S79)) : Option (ByteArray) := (spec_EntriesValid.f k l0).bind fun t186 => (if t186 = true then (spec_FolderText.l0 k l0 (⟨#[100]⟩ : ByteArray) 0) else (some (⟨#[]⟩ : ByteArray)))
theorem spec_FolderText.mono_l : ∀ k, (∀ y0 y1 y2, LeO (spec_FolderText.l0 k y0 y1 y2) (spec_FolderText.l0 (k + 1) y0 y1 y2))
 | 0 => fun _ _ _ r h => by simp [spec_FolderText.l0] at h
 | k + 1 => by
  have ih0 := spec_FolderText.mono_l k
  ·intro y0 y1 y2
   unfold spec_FolderText.l0
   repeat' first
   | (with_reducible exact ih0 _ _ _)
   | (with_reducible exact spec_EntriesValid.mono _ _)
   | (with_reducible exact spec_HexText.mono _ _)
   | (with_reducible exact LeO.refl _)
   | (with_reducible exact LeO.none _)
   | (with_reducible refine LeO.ite ?_ ?_)
   | (with_reducible refine LeO.bind ?_ (fun _ => ?_))
   | exact ih0 _ _ _
   | exact spec_EntriesValid.mono _ _
   | exact spec_HexText.mono _ _
   | exact LeO.none _
   | refine LeO.ite ?_ ?_
   | refine LeO.bind ?_ (fun _ => ?_)
theorem spec_FolderText.mono : ∀ a0 k, LeO (spec_FolderText.f k a0) (spec_FolderText.f (k + 1) a0) := by
 intro a0 k
 have ih0 := spec_FolderText.mono_l k
 unfold spec_FolderText.f
 repeat' first
   | (with_reducible exact ih0 _ _ _)
   | (with_reducible exact spec_EntriesValid.mono _ _)
   | (with_reducible exact spec_HexText.mono _ _)
   | (with_reducible exact LeO.refl _)
   | (with_reducible exact LeO.none _)
   | (with_reducible refine LeO.ite ?_ ?_)
   | (with_reducible refine LeO.bind ?_ (fun _ => ?_))
   | exact ih0 _ _ _
   | exact spec_EntriesValid.mono _ _
   | exact spec_HexText.mono _ _
   | exact LeO.none _
   | refine LeO.ite ?_ ?_
   | refine LeO.bind ?_ (fun _ => ?_)
set_option maxHeartbeats 8000000 in
set_option maxRecDepth 100000 in
theorem spec_FolderText.calls (k : Nat) (A0 : Option Addr) (c0 : Nat) (l0 : List (S79)) (r : ByteArray) (w : World) (hr0 : Kd.C k79 w A0 l0.length l0) (hc0 : l0.length ≤ c0) (h : spec_FolderText.f k l0 = some r) :
  Calls Try.prog 31 #[.slice A0 l0.length c0] w fun e w' => e = .returned (.string r) ∧ Below w.heap.size w w' := by
 have HR0 := Aside0.mk hr0
 have HC0 := Aside0.mk hc0
 clear hr0 hc0
 have HB := Aside0.mk (Below.refl w.heap.size w)
 have H : ((spec_EntriesValid.f k l0).bind fun t186 => (if t186 = true then (spec_FolderText.l0 k l0 (⟨#[100]⟩ : ByteArray) 0) else (some (⟨#[]⟩ : ByteArray)))) = some r := h
 clear h
 replace H := Option.bind_eq_some_iff.mp H
 obtain ⟨t186, A20, H⟩ := H
 replace H : (if t186 = true then (spec_FolderText.l0 k l0 (⟨#[100]⟩ : ByteArray) 0) else (some (⟨#[]⟩ : ByteArray))) = some r := H
 have A2 := Aside0.mk A20
 clear A20
 by_cases c3 : t186 = true
 ·subst c3
  have H1 : (spec_FolderText.l0 k l0 (⟨#[100]⟩ : ByteArray) 0) = some r := by rw [if_pos rfl] at H; exact H
  clear H
  have H := H1
  clear H1
  have H' := Aside0.mk H
  clear H
  go_enter Try.func31, Try.ntmps31
  go_wp2_with (first | (go_at_call 43; (with_reducible refine (spec_EntriesValid.calls k _ _ l0 true _ ?side1 ?side2 A2.out).mono ?_); (case side1 => exact kC_ HR0.out); (case side2 => exact HC0.out); rintro e w4 ⟨rfl, hb⟩; replace HB := Aside0.mk (below_step hb_ hb); (try clear hb)))
  repeat (go_quiet (first | (go_at_call 43; (with_reducible refine (spec_EntriesValid.calls k _ _ l0 true _ ?side1 ?side2 A2.out).mono ?_); (case side1 => exact kC_ HR0.out); (case side2 => exact HC0.out); rintro e w4 ⟨rfl, hb⟩; replace HB := Aside0.mk (below_step hb_ hb); (try clear hb))); try go_wp2_with (first | (go_at_call 43; (with_reducible refine (spec_EntriesValid.calls k _ _ l0 true _ ?side1 ?side2 A2.out).mono ?_); (case side1 => exact kC_ HR0.out); (case side2 => exact HC0.out); rintro e w4 ⟨rfl, hb⟩; replace HB := Aside0.mk (below_step hb_ hb); (try clear hb))))
  go_loopg [3, 4] k (fun kq v3 v4 w' => ∃ (x3_1 : ByteArray) (x4_1 : Int), v3 = .string x3_1 ∧ v4 = .int .i64 x4_1 ∧ Aside0 (spec_FolderText.l0 kq l0 x3_1 x4_1 = some r) ∧ Aside0 (kq ≤ k) ∧ Aside0 (Below w.heap.size w w'))
  case atStart => exact ⟨((⟨#[100]⟩ : ByteArray)), (0), rs_, rs_, H', ⟨Nat.le_refl _⟩, ⟨hb_⟩⟩
  case round =>
   clear H'
   try clear p2
   try clear c3
   obtain ⟨x3_1, x4_1, rfl, rfl, HA, HK1, HB⟩ := hrel
   cases gk with
   | zero => exact absurd HA.out (by simp [spec_FolderText.l0])
   | succ k1 =>
    have H := HA.out
    clear HA
    simp only [spec_FolderText.l0] at H
    by_cases c5 : x4_1 < (l0.length : Int)
    ·rw [if_pos c5] at H
     have c5b0 : decide (x4_1 < (l0.length : Int)) = true := decide_eq_true c5
     clear c5
     by_cases c6 : 0 ≤ x4_1; rotate_left
     ·rw [if_neg c6] at H; exact absurd H (by simp)
     rw [if_pos c6] at H
     have c6b0 : decide (0 ≤ x4_1) = true := decide_eq_true c6
     clear c6
     by_cases c7 : x3_1.size + ((rd_T79 l0 x4_1).f0).size ≤ 9223372036854775807; rotate_left
     ·rw [if_neg c7] at H; exact absurd H (by simp)
     rw [if_pos c7] at H
     have c7b0 := eq_true c7
     have c7b1 : decide (x3_1.size + ((rd_T79 l0 x4_1).f0).size ≤ 9223372036854775807) = true := decide_eq_true c7
     try have c7b2 : (9223372036854775807 < x3_1.size + ((rd_T79 l0 x4_1).f0).size) = False := eq_false (Nat.not_lt.2 c7)
     by_cases c8 : (x3_1 ++ ((rd_T79 l0 x4_1).f0)).size + 1 ≤ 9223372036854775807; rotate_left
     ·rw [if_neg c8] at H; exact absurd H (by simp)
     rw [if_pos c8] at H
     have c8b0 := eq_true c8
     have c8b1 : decide ((x3_1 ++ ((rd_T79 l0 x4_1).f0)).size + 1 ≤ 9223372036854775807) = true := decide_eq_true c8
     try have c8b2 : (9223372036854775807 < (x3_1 ++ ((rd_T79 l0 x4_1).f0)).size + 1) = False := eq_false (Nat.not_lt.2 c8)
     try have c8b5 : (x3_1.size + ((rd_T79 l0 x4_1).f0).size + 1 ≤ 9223372036854775807) = True := eq_true (by first | exact c8 | exact (by have h_ := c8; simp only [ByteArray.size_append, ByteArray.size_extract] at h_ ⊢; omega))
     try have c8b6 : decide (x3_1.size + ((rd_T79 l0 x4_1).f0).size + 1 ≤ 9223372036854775807) = true := decide_eq_true (of_eq_true c8b5)
     try have c8b7 : (9223372036854775807 < x3_1.size + ((rd_T79 l0 x4_1).f0).size + 1) = False := eq_false (Nat.not_lt.2 (of_eq_true c8b5))
     replace H := Option.bind_eq_some_iff.mp H
     obtain ⟨t189, A90, H⟩ := H
     replace H : (if ((x3_1 ++ ((rd_T79 l0 x4_1).f0)) ++ (⟨#[61]⟩ : ByteArray)).size + t189.size ≤ 9223372036854775807 then (if (((x3_1 ++ ((rd_T79 l0 x4_1).f0)) ++ (⟨#[61]⟩ : ByteArray)) ++ t189).size + 1 ≤ 9223372036854775807 then (spec_FolderText.l0 k1 l0 ((((x3_1 ++ ((rd_T79 l0 x4_1).f0)) ++ (⟨#[61]⟩ : ByteArray)) ++ t189) ++ (⟨#[59]⟩ : ByteArray)) (wrap64 (x4_1 + 1))) else (none)) else (none)) = some r := H
     have A9 := Aside0.mk A90
     clear A90
     by_cases c10 : ((x3_1 ++ ((rd_T79 l0 x4_1).f0)) ++ (⟨#[61]⟩ : ByteArray)).size + t189.size ≤ 9223372036854775807; rotate_left
     ·rw [if_neg c10] at H; exact absurd H (by simp)
     rw [if_pos c10] at H
     have c10b0 := eq_true c10
     have c10b1 : decide (((x3_1 ++ ((rd_T79 l0 x4_1).f0)) ++ (⟨#[61]⟩ : ByteArray)).size + t189.size ≤ 9223372036854775807) = true := decide_eq_true c10
     try have c10b2 : (9223372036854775807 < ((x3_1 ++ ((rd_T79 l0 x4_1).f0)) ++ (⟨#[61]⟩ : ByteArray)).size + t189.size) = False := eq_false (Nat.not_lt.2 c10)
     try have c10b5 : (x3_1.size + ((rd_T79 l0 x4_1).f0).size + 1 + t189.size ≤ 9223372036854775807) = True := eq_true (by first | exact c10 | exact (by have h_ := c10; have hl0_ : (⟨#[61]⟩ : ByteArray).size = 1 := rfl; simp only [ByteArray.size_append, ByteArray.size_extract] at h_ ⊢; omega))
     try have c10b6 : decide (x3_1.size + ((rd_T79 l0 x4_1).f0).size + 1 + t189.size ≤ 9223372036854775807) = true := decide_eq_true (of_eq_true c10b5)
     try have c10b7 : (9223372036854775807 < x3_1.size + ((rd_T79 l0 x4_1).f0).size + 1 + t189.size) = False := eq_false (Nat.not_lt.2 (of_eq_true c10b5))
     by_cases c11 : (((x3_1 ++ ((rd_T79 l0 x4_1).f0)) ++ (⟨#[61]⟩ : ByteArray)) ++ t189).size + 1 ≤ 9223372036854775807; rotate_left
     ·rw [if_neg c11] at H; exact absurd H (by simp)
     rw [if_pos c11] at H
     have c11b0 := eq_true c11
     have c11b1 : decide ((((x3_1 ++ ((rd_T79 l0 x4_1).f0)) ++ (⟨#[61]⟩ : ByteArray)) ++ t189).size + 1 ≤ 9223372036854775807) = true := decide_eq_true c11
     try have c11b2 : (9223372036854775807 < (((x3_1 ++ ((rd_T79 l0 x4_1).f0)) ++ (⟨#[61]⟩ : ByteArray)) ++ t189).size + 1) = False := eq_false (Nat.not_lt.2 c11)
     try have c11b5 : (x3_1.size + ((rd_T79 l0 x4_1).f0).size + 1 + t189.size + 1 ≤ 9223372036854775807) = True := eq_true (by first | exact c11 | exact (by have h_ := c11; have hl0_ : (⟨#[61]⟩ : ByteArray).size = 1 := rfl; simp only [ByteArray.size_append, ByteArray.size_extract] at h_ ⊢; omega))
     try have c11b6 : decide (x3_1.size + ((rd_T79 l0 x4_1).f0).size + 1 + t189.size + 1 ≤ 9223372036854775807) = true := decide_eq_true (of_eq_true c11b5)
     try have c11b7 : (9223372036854775807 < x3_1.size + ((rd_T79 l0 x4_1).f0).size + 1 + t189.size + 1) = False := eq_false (Nat.not_lt.2 (of_eq_true c11b5))
     have H' := Aside0.mk H
     clear H
     have p187 : 0 ≤ (x4_1 : Int) := dt_
     have q187 : x4_1 < (l0.length : Int) := dt_
     obtain ⟨ad187, e187, hx187_0, hx187_1⟩ := at_T79 HR0.out x4_1 p187 q187
     cases e187
     replace hx187_0 := cb_ HB.out hx187_0
     replace hx187_1 := cb_ HB.out hx187_1
     replace p187 := eq_true p187
     replace q187 := eq_true q187
     have p188 : 0 ≤ (x4_1 : Int) := dt_
     have q188 : x4_1 < (l0.length : Int) := dt_
     obtain ⟨ad188, e188, hx188_0, hx188_1⟩ := at_T79 HR0.out x4_1 p188 q188
     obtain rfl : ad187 = ad188 := (by injection e188)
     replace hx188_0 := cb_ HB.out hx188_0
     replace hx188_1 := cb_ HB.out hx188_1
     replace p188 := eq_true p188
     replace q188 := eq_true q188
     go_wp2_with (first | (go_at_call 44; (with_reducible refine (spec_HexText.calls k1 ((rd_T79 l0 x4_1).f1) t189 _ A9.out).mono ?_); rintro e w' ⟨rfl, ⟨nd, rfl⟩⟩; (try first | exact ⟨rfl, _, World.drewN_drewN _ _ _⟩ | exact ⟨rfl, _, Eq.trans (World.drewN_drewN _ _ _) (congrArg (World.drewN _) (Nat.add_assoc _ _ _))⟩)))
     repeat (go_quiet (first | (go_at_call 44; (with_reducible refine (spec_HexText.calls k1 ((rd_T79 l0 x4_1).f1) t189 _ A9.out).mono ?_); rintro e w' ⟨rfl, ⟨nd, rfl⟩⟩; (try first | exact ⟨rfl, _, World.drewN_drewN _ _ _⟩ | exact ⟨rfl, _, Eq.trans (World.drewN_drewN _ _ _) (congrArg (World.drewN _) (Nat.add_assoc _ _ _))⟩))); try go_wp2_with (first | (go_at_call 44; (with_reducible refine (spec_HexText.calls k1 ((rd_T79 l0 x4_1).f1) t189 _ A9.out).mono ?_); rintro e w' ⟨rfl, ⟨nd, rfl⟩⟩; (try first | exact ⟨rfl, _, World.drewN_drewN _ _ _⟩ | exact ⟨rfl, _, Eq.trans (World.drewN_drewN _ _ _) (congrArg (World.drewN _) (Nat.add_assoc _ _ _))⟩))))
     go_roundg k1
     case measure => have := HK1.out; omega
     case rel => exact ⟨((((x3_1 ++ ((rd_T79 l0 x4_1).f0)) ++ (⟨#[61]⟩ : ByteArray)) ++ t189) ++ (⟨#[59]⟩ : ByteArray)), (wrap64 (x4_1 + 1)), rs_, rs_, H', ⟨by have := HK1.out; omega⟩, ⟨hb_⟩⟩
    ·rw [if_neg c5] at H
     have c5b0 : decide (x4_1 < (l0.length : Int)) = false := decide_eq_false c5
     clear c5
     obtain rfl := Option.some.inj H
     go_wp2
     repeat (go_quiet (fail); try go_wp2)
     go_ret
     exact ⟨er_, hb_⟩
 ·replace c3 := Bool.eq_false_iff.mpr c3
  subst c3
  have H1 : (some (⟨#[]⟩ : ByteArray)) = some r := by rw [if_neg (show ¬ (false = true) by decide)] at H; exact H
  clear H
  have H := H1
  clear H1
  obtain rfl := Option.some.inj H
  go_enter Try.func31, Try.ntmps31
  go_wp2_with (first | (go_at_call 43; (with_reducible refine (spec_EntriesValid.calls k _ _ l0 false _ ?side1 ?side2 A2.out).mono ?_); (case side1 => exact kC_ HR0.out); (case side2 => exact HC0.out); rintro e w12 ⟨rfl, hb⟩; replace HB := Aside0.mk (below_step hb_ hb); (try clear hb)))
  repeat (go_quiet (first | (go_at_call 43; (with_reducible refine (spec_EntriesValid.calls k _ _ l0 false _ ?side1 ?side2 A2.out).mono ?_); (case side1 => exact kC_ HR0.out); (case side2 => exact HC0.out); rintro e w12 ⟨rfl, hb⟩; replace HB := Aside0.mk (below_step hb_ hb); (try clear hb))); try go_wp2_with (first | (go_at_call 43; (with_reducible refine (spec_EntriesValid.calls k _ _ l0 false _ ?side1 ?side2 A2.out).mono ?_); (case side1 => exact kC_ HR0.out); (case side2 => exact HC0.out); rintro e w12 ⟨rfl, hb⟩; replace HB := Aside0.mk (below_step hb_ hb); (try clear hb))))
  go_ret
  exact ⟨er_, hb_⟩
/-! ### spec_EmptyRoot: function 20 -/
def spec_EmptyRoot.f (k : Nat) (l0 : List (S45)) : Option ((List (S45)) × Int × Bool) := (spec_FolderText.f k (([] : List (S79)))).bind fun t193 => ((spec_PutText.f k l0 t193).bind fun bt194 => (some (bt194.1, bt194.2.1, bt194.2.2)))
theorem spec_EmptyRoot.mono : ∀ a0 k, LeO (spec_EmptyRoot.f k a0) (spec_EmptyRoot.f (k + 1) a0) := by
 intro a0 k
 unfold spec_EmptyRoot.f
 repeat' first
   | (with_reducible exact spec_FolderText.mono _ _)
   | (with_reducible exact spec_PutText.mono _ _ _)
   | (with_reducible exact LeO.refl _)
   | (with_reducible exact LeO.none _)
   | (with_reducible refine LeO.ite ?_ ?_)
   | (with_reducible refine LeO.bind ?_ (fun _ => ?_))
   | exact spec_FolderText.mono _ _
   | exact spec_PutText.mono _ _ _
   | exact LeO.none _
   | refine LeO.ite ?_ ?_
   | refine LeO.bind ?_ (fun _ => ?_)
set_option maxHeartbeats 8000000 in
set_option maxRecDepth 100000 in
theorem spec_EmptyRoot.calls (k : Nat) (A0 : Option Addr) (c0 : Nat) (l0 : List (S45)) (r1 : List (S45)) (r2 : Int) (r3 : Bool) (w : World) (hr0 : Kd.C k45 w A0 l0.length l0) (hc0 : l0.length ≤ c0) (h : spec_EmptyRoot.f k l0 = some (r1, r2, r3)) :
  Calls Try.prog 20 #[.slice A0 l0.length c0] w fun e w' => ∃ v0_ : Value, e = .returned (.tuple #[v0_, .int .i64 r2, .bool r3]) ∧ Kd.R k45 45 w' w.heap.size (fun _ => True) v0_ r1 ∧ Below w.heap.size w w' := by
 have HR0 := Aside0.mk hr0
 have HC0 := Aside0.mk hc0
 clear hr0 hc0
 have HB := Aside0.mk (Below.refl w.heap.size w)
 have H : ((spec_FolderText.f k (([] : List (S79)))).bind fun t193 => ((spec_PutText.f k l0 t193).bind fun bt194 => (some (bt194.1, bt194.2.1, bt194.2.2)))) = some (r1, r2, r3) := h
 clear h
 obtain ⟨y190, hy190⟩ : ∃ y_ : List (S79), y_ = (([] : List (S79))) := ⟨_, rfl⟩
 replace H : ((spec_FolderText.f k y190).bind fun t193 => ((spec_PutText.f k l0 t193).bind fun bt194 => (some (bt194.1, bt194.2.1, bt194.2.2)))) = some (r1, r2, r3) := hq_ hy190 H
 have Ny190 := Aside0.mk hy190
 clear hy190
 replace H := Option.bind_eq_some_iff.mp H
 obtain ⟨t193, A20, H⟩ := H
 replace H : ((spec_PutText.f k l0 t193).bind fun bt194 => (some (bt194.1, bt194.2.1, bt194.2.2))) = some (r1, r2, r3) := H
 have A2 := Aside0.mk A20
 clear A20
 replace H := Option.bind_eq_some_iff.mp H
 obtain ⟨⟨t194, t195, t196⟩, A30, H⟩ := H
 replace H : (some (t194, t195, t196)) = some (r1, r2, r3) := H
 have A3 := Aside0.mk A30
 clear A30
 simp only [Option.some.injEq, Prod.mk.injEq] at H
 obtain ⟨rfl, rfl, rfl⟩ := H
 go_enter Try.func20, Try.ntmps20
 go_wp2_with (first | ((with_reducible refine gate_dst (N := 6) rfl ?_); refine Kd.R_lit k79 _ 79 ?hg (N := 6) ?hd (xs := ([] : List (S79))) (inner := []) (ok := fun _ => True) (okp := fun _ => True) ?hr ?hp (fun _ hk => hk) trivial (Below.refl _ _) (Nat.le_refl _) (by simp) ?_; (case hd => rfl); (case hg => rfl); (case hr => first | (go_simp; done) | (go_simp; rfl)); (case hp => exact (Reps.none _ _)); intro v191 w4 ho5 hb hg_ hnew_; clear hg_ hnew_; (first | rw [← Ny190.out] at ho5 | (simp only [Int.reduceToNat] at ho5; rw [← Ny190.out] at ho5)); have HO192 := Aside0.mk (Kd.R_lower ho5 (below_size hb_)); replace HB := Aside0.mk (below_step hb_ hb); clear hb ho5; obtain ⟨Ao6, co6, eo6⟩ := Kd.R_slice HO192.out; subst eo6) | ((with_reducible refine gate_callee (f := 31) rfl ?_); refine goesL_ (some 7) rfl rfl Try.func31 (by kernel_rfl) rfl #[.slice Ao6 y190.length co6] rfl sl_ ?_; (with_reducible refine (spec_FolderText.calls k _ _ y190 t193 _ ?side1 ?side2 A2.out).mono ?_); (case side1 => exact kC_ ((Kd.R_reads' HO192.out).2.2)); (case side2 => exact (Kd.R_reads' HO192.out).2.1); rintro e w7 ⟨rfl, hb⟩; refine ⟨_, rfl, ?_⟩; replace HO192 := Aside0.mk (Kd.R_below (kR_ HO192.out) hb); replace HB := Aside0.mk (below_step hb_ hb); (try clear hb); (try clear hk)) | ((with_reducible refine gate_callee (f := 30) rfl ?_); refine goesL_ (some 8) rfl rfl Try.func30 (by kernel_rfl) rfl #[.slice A0 l0.length c0, .string t193] rfl sl_ ?_; (with_reducible refine (spec_PutText.calls k _ _ l0 t193 t194 t195 t196 _ ?side1 ?side2 A3.out).mono ?_); (case side1 => exact kC_ (Kd.C_below HR0.out HB.out)); (case side2 => exact HC0.out); rintro e w8 ⟨v197, rfl, ho0, hb⟩; refine ⟨_, rfl, ?_⟩; replace HO192 := Aside0.mk (Kd.R_below (kR_ HO192.out) hb); have HO198 := Aside0.mk (Kd.R_lower ho0 (below_size hb_)); replace HB := Aside0.mk (below_step hb_ hb); (try clear hb); (try clear hk); (try clear ho0)))
 go_ret3
 exact ⟨_, er_, by (with_reducible repeat (first | apply Kd.R_alloc | apply Kd.R_drewN | apply Kd.R_drew)); exact HO198.out, hb_⟩
/-! ### spec_JoinPath: function 41 -/
def spec_JoinPath.l0 : Nat → List ByteArray → ByteArray → Int → Option (ByteArray)
 | 0, _, _, _ => none
 | k + 1, x0, x3, x4 => if x4 < (x0.length : Int) then (if 0 ≤ x4 then ((spec_WordValid.f k (rdOf ByteArray.empty x0 x4)).bind fun t200 => (if t200 = true then (if (x0.length : Int) > 3 then (some (⟨#[]⟩ : ByteArray)) else (if x3.size + 1 ≤ 9223372036854775807 then (if (x3 ++ (⟨#[47]⟩ : ByteArray)).size + (rdOf ByteArray.empty x0 x4).size ≤ 9223372036854775807 then (spec_JoinPath.l0 k x0 ((x3 ++ (⟨#[47]⟩ : ByteArray)) ++ (rdOf ByteArray.empty x0 x4)) (wrap64 (x4 + 1))) else (none)) else (none))) else (some (⟨#[]⟩ : ByteArray)))) else (none)) else (if x3.toList = ([] : List UInt8) then (some (⟨#[47]⟩ : ByteArray)) else (some x3))
def spec_JoinPath.f (k : Nat) (l0 : List ByteArray) : Option (ByteArray) := spec_JoinPath.l0 k l0 (⟨#[]⟩ : ByteArray) 0
theorem spec_JoinPath.mono_l : ∀ k, (∀ y0 y1 y2, LeO (spec_JoinPath.l0 k y0 y1 y2) (spec_JoinPath.l0 (k + 1) y0 y1 y2))
 | 0 => fun _ _ _ r h => by simp [spec_JoinPath.l0] at h
 | k + 1 => by
  have ih0 := spec_JoinPath.mono_l k
  ·intro y0 y1 y2
   unfold spec_JoinPath.l0
   repeat' first
   | (with_reducible exact ih0 _ _ _)
   | (with_reducible exact spec_WordValid.mono _ _)
   | (with_reducible exact LeO.refl _)
   | (with_reducible exact LeO.none _)
   | (with_reducible refine LeO.ite ?_ ?_)
   | (with_reducible refine LeO.bind ?_ (fun _ => ?_))
   | exact ih0 _ _ _
   | exact spec_WordValid.mono _ _
   | exact LeO.none _
   | refine LeO.ite ?_ ?_
   | refine LeO.bind ?_ (fun _ => ?_)
theorem spec_JoinPath.mono : ∀ a0 k, LeO (spec_JoinPath.f k a0) (spec_JoinPath.f (k + 1) a0) := by
 intro a0 k
 have ih0 := spec_JoinPath.mono_l k
 unfold spec_JoinPath.f
 repeat' first
   | (with_reducible exact ih0 _ _ _)
   | (with_reducible exact spec_WordValid.mono _ _)
   | (with_reducible exact LeO.refl _)
   | (with_reducible exact LeO.none _)
   | (with_reducible refine LeO.ite ?_ ?_)
   | (with_reducible refine LeO.bind ?_ (fun _ => ?_))
   | exact ih0 _ _ _
   | exact spec_WordValid.mono _ _
   | exact LeO.none _
   | refine LeO.ite ?_ ?_
   | refine LeO.bind ?_ (fun _ => ?_)
set_option maxHeartbeats 8000000 in
set_option maxRecDepth 100000 in
theorem spec_JoinPath.calls (k : Nat) (A0 : Option Addr) (c0 : Nat) (l0 : List ByteArray) (r : ByteArray) (w : World) (hr0 : Kd.C Kd.string w A0 l0.length l0) (hc0 : l0.length ≤ c0) (h : spec_JoinPath.f k l0 = some r) :
  Calls Try.prog 41 #[.slice A0 l0.length c0] w fun e w' => e = .returned (.string r) ∧ Drawn0 w w' := by
 have HR0 := Aside0.mk hr0
 have HC0 := Aside0.mk hc0
 clear hr0 hc0
 have H : (spec_JoinPath.l0 k l0 (⟨#[]⟩ : ByteArray) 0) = some r := h
 clear h
 have H' := Aside0.mk H
 clear H
 go_enter Try.func41, Try.ntmps41
 go_wp2
 go_loopg [3, 4] k (fun kq v3 v4 w' => ∃ (x3_1 : ByteArray) (x4_1 : Int), v3 = .string x3_1 ∧ v4 = .int .i64 x4_1 ∧ Aside0 (spec_JoinPath.l0 kq l0 x3_1 x4_1 = some r) ∧ Aside0 (kq ≤ k) ∧ Drawn0 w w')
 case atStart => exact ⟨((⟨#[]⟩ : ByteArray)), (0), rs_, rs_, H', ⟨Nat.le_refl _⟩, by repeat (first | exact Drawn0.refl _ | apply Drawn0.step)⟩
 case round =>
  clear H'
  obtain ⟨x3_1, x4_1, rfl, rfl, HA, HK1, ⟨m1, rfl⟩⟩ := hrel
  cases gk with
  | zero => exact absurd HA.out (by simp [spec_JoinPath.l0])
  | succ k1 =>
   have H := HA.out
   clear HA
   simp only [spec_JoinPath.l0] at H
   by_cases c2 : x4_1 < (l0.length : Int)
   ·rw [if_pos c2] at H
    have c2b0 : decide (x4_1 < (l0.length : Int)) = true := decide_eq_true c2
    clear c2
    by_cases c3 : 0 ≤ x4_1; rotate_left
    ·rw [if_neg c3] at H; exact absurd H (by simp)
    rw [if_pos c3] at H
    have c3b0 : decide (0 ≤ x4_1) = true := decide_eq_true c3
    clear c3
    replace H := Option.bind_eq_some_iff.mp H
    obtain ⟨t200, A40, H⟩ := H
    replace H : (if t200 = true then (if (l0.length : Int) > 3 then (some (⟨#[]⟩ : ByteArray)) else (if x3_1.size + 1 ≤ 9223372036854775807 then (if (x3_1 ++ (⟨#[47]⟩ : ByteArray)).size + (rdOf ByteArray.empty l0 x4_1).size ≤ 9223372036854775807 then (spec_JoinPath.l0 k1 l0 ((x3_1 ++ (⟨#[47]⟩ : ByteArray)) ++ (rdOf ByteArray.empty l0 x4_1)) (wrap64 (x4_1 + 1))) else (none)) else (none))) else (some (⟨#[]⟩ : ByteArray))) = some r := H
    have A4 := Aside0.mk A40
    clear A40
    by_cases c5 : t200 = true
    ·subst c5
     have H1 : (if (l0.length : Int) > 3 then (some (⟨#[]⟩ : ByteArray)) else (if x3_1.size + 1 ≤ 9223372036854775807 then (if (x3_1 ++ (⟨#[47]⟩ : ByteArray)).size + (rdOf ByteArray.empty l0 x4_1).size ≤ 9223372036854775807 then (spec_JoinPath.l0 k1 l0 ((x3_1 ++ (⟨#[47]⟩ : ByteArray)) ++ (rdOf ByteArray.empty l0 x4_1)) (wrap64 (x4_1 + 1))) else (none)) else (none))) = some r := by rw [if_pos rfl] at H; exact H
     clear H
     have H := H1
     clear H1
     by_cases c6 : (l0.length : Int) > 3
     ·rw [if_pos c6] at H
      have c6b0 : decide (3 < (l0.length : Int)) = true := decide_eq_true c6
      have c6b1 : decide (3 < l0.length) = true := decide_eq_true (by omega)
      clear c6
      obtain rfl := Option.some.inj H
      have p199 : 0 ≤ (x4_1 : Int) := dt_
      have q199 : x4_1 < (l0.length : Int) := dt_
      obtain ⟨ad199, e199, hx199_0⟩ := Kd.at_string HR0.out x4_1 p199 q199
      cases e199
      replace p199 := eq_true p199
      replace q199 := eq_true q199
      go_wp2_with (first | ((with_reducible refine gate_callee (f := 48) rfl ?_); refine goesL_ (some 15) rfl rfl Try.func48 (by kernel_rfl) rfl #[.string (rdOf ByteArray.empty l0 x4_1)] rfl sl_ ?_; (with_reducible refine (spec_WordValid.calls k1 (rdOf ByteArray.empty l0 x4_1) true _ A4.out).mono ?_); rintro e w' ⟨rfl, ⟨nd, rfl⟩⟩; refine ⟨_, rfl, ?_⟩))
      go_ret
      exact ⟨by first | rfl | (simp; done) | (simp [*]; done), by repeat (first | exact Drawn0.refl _ | apply Drawn0.step)⟩
     ·rw [if_neg c6] at H
      have c6b0 : decide (3 < (l0.length : Int)) = false := decide_eq_false c6
      have c6b1 : decide (3 < l0.length) = false := decide_eq_false (by omega)
      clear c6
      by_cases c7 : x3_1.size + 1 ≤ 9223372036854775807; rotate_left
      ·rw [if_neg c7] at H; exact absurd H (by simp)
      rw [if_pos c7] at H
      have c7b0 := eq_true c7
      have c7b1 : decide (x3_1.size + 1 ≤ 9223372036854775807) = true := decide_eq_true c7
      try have c7b2 : (9223372036854775807 < x3_1.size + 1) = False := eq_false (Nat.not_lt.2 c7)
      by_cases c8 : (x3_1 ++ (⟨#[47]⟩ : ByteArray)).size + (rdOf ByteArray.empty l0 x4_1).size ≤ 9223372036854775807; rotate_left
      ·rw [if_neg c8] at H; exact absurd H (by simp)
      rw [if_pos c8] at H
      have c8b0 := eq_true c8
      have c8b1 : decide ((x3_1 ++ (⟨#[47]⟩ : ByteArray)).size + (rdOf ByteArray.empty l0 x4_1).size ≤ 9223372036854775807) = true := decide_eq_true c8
      try have c8b2 : (9223372036854775807 < (x3_1 ++ (⟨#[47]⟩ : ByteArray)).size + (rdOf ByteArray.empty l0 x4_1).size) = False := eq_false (Nat.not_lt.2 c8)
      try have c8b5 : (x3_1.size + 1 + (rdOf ByteArray.empty l0 x4_1).size ≤ 9223372036854775807) = True := eq_true (by first | exact c8 | exact (by have h_ := c8; have hl0_ : (⟨#[47]⟩ : ByteArray).size = 1 := rfl; simp only [ByteArray.size_append, ByteArray.size_extract] at h_ ⊢; omega))
      try have c8b6 : decide (x3_1.size + 1 + (rdOf ByteArray.empty l0 x4_1).size ≤ 9223372036854775807) = true := decide_eq_true (of_eq_true c8b5)
      try have c8b7 : (9223372036854775807 < x3_1.size + 1 + (rdOf ByteArray.empty l0 x4_1).size) = False := eq_false (Nat.not_lt.2 (of_eq_true c8b5))
      have H' := Aside0.mk H
      clear H
      have p199 : 0 ≤ (x4_1 : Int) := dt_
      have q199 : x4_1 < (l0.length : Int) := dt_
      obtain ⟨ad199, e199, hx199_0⟩ := Kd.at_string HR0.out x4_1 p199 q199
      cases e199
      replace p199 := eq_true p199
      replace q199 := eq_true q199
      go_wp2_with (first | ((with_reducible refine gate_callee (f := 48) rfl ?_); refine goesL_ (some 15) rfl rfl Try.func48 (by kernel_rfl) rfl #[.string (rdOf ByteArray.empty l0 x4_1)] rfl sl_ ?_; (with_reducible refine (spec_WordValid.calls k1 (rdOf ByteArray.empty l0 x4_1) true _ A4.out).mono ?_); rintro e w' ⟨rfl, ⟨nd, rfl⟩⟩; refine ⟨_, rfl, ?_⟩; have p201 : 0 ≤ (x4_1 : Int) := dt_; have q201 : x4_1 < (l0.length : Int) := dt_; obtain ⟨ad201, e201, hx201_0⟩ := Kd.at_string HR0.out x4_1 p201 q201; obtain rfl : ad199 = ad201 := (by injection e201); replace p201 := eq_true p201; replace q201 := eq_true q201))
      go_roundg k1
      case measure => have := HK1.out; omega
      case rel => exact ⟨((x3_1 ++ (⟨#[47]⟩ : ByteArray)) ++ (rdOf ByteArray.empty l0 x4_1)), (wrap64 (x4_1 + 1)), rs_, rs_, H', ⟨by have := HK1.out; omega⟩, by repeat (first | exact Drawn0.refl _ | apply Drawn0.step)⟩
    ·replace c5 := Bool.eq_false_iff.mpr c5
     subst c5
     have H1 : (some (⟨#[]⟩ : ByteArray)) = some r := by rw [if_neg (show ¬ (false = true) by decide)] at H; exact H
     clear H
     have H := H1
     clear H1
     obtain rfl := Option.some.inj H
     have p199 : 0 ≤ (x4_1 : Int) := dt_
     have q199 : x4_1 < (l0.length : Int) := dt_
     obtain ⟨ad199, e199, hx199_0⟩ := Kd.at_string HR0.out x4_1 p199 q199
     cases e199
     replace p199 := eq_true p199
     replace q199 := eq_true q199
     go_wp2_with (first | ((with_reducible refine gate_callee (f := 48) rfl ?_); refine goesL_ (some 15) rfl rfl Try.func48 (by kernel_rfl) rfl #[.string (rdOf ByteArray.empty l0 x4_1)] rfl sl_ ?_; (with_reducible refine (spec_WordValid.calls k1 (rdOf ByteArray.empty l0 x4_1) false _ A4.out).mono ?_); rintro e w' ⟨rfl, ⟨nd, rfl⟩⟩; refine ⟨_, rfl, ?_⟩))
     go_ret
     exact ⟨by first | rfl | (simp; done) | (simp [*]; done), by repeat (first | exact Drawn0.refl _ | apply Drawn0.step)⟩
   ·rw [if_neg c2] at H
    have c2b0 : decide (x4_1 < (l0.length : Int)) = false := decide_eq_false c2
    clear c2
    by_cases c9 : x3_1.toList = ([] : List UInt8)
    ·rw [if_pos c9] at H
     have c9b0 : (x3_1.toList == ([] : List UInt8)) = true := beq_iff_eq.mpr c9
     have c9b1 : (x3_1.toList != ([] : List UInt8)) = false := bne_eq_false_iff_eq.mpr c9
     clear c9
     obtain rfl := Option.some.inj H
     go_wp2
     go_ret
     exact ⟨by first | rfl | (simp; done) | (simp [*]; done), by repeat (first | exact Drawn0.refl _ | apply Drawn0.step)⟩
    ·rw [if_neg c9] at H
     have c9b0 : (x3_1.toList == ([] : List UInt8)) = false := beq_eq_false_iff_ne.mpr c9
     have c9b1 : (x3_1.toList != ([] : List UInt8)) = true := bne_iff_ne.mpr c9
     obtain rfl := Option.some.inj H
     go_wp2
     go_ret
     exact ⟨by first | rfl | (simp; done) | (simp [*]; done), by repeat (first | exact Drawn0.refl _ | apply Drawn0.step)⟩
end Go.Proofs.Ytjgbidklkhohfaa.P
