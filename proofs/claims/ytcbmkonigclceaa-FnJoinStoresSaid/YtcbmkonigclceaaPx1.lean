-- The functions of the seat as plain Lean functions, made by the kit's print.py for all laws at once. Not trusted: Lean checks it.
import Derived.Test.YtcbmkonigclceaaPx0
namespace Go.Proofs.Ytcbmkonigclceaa.P
open Go.RowKit Go.Proofs.YtcbmkonigclceaaW.PrintWords Go.Proofs.YtcbmkonigclceaaW.PrintLast Go.Proofs.YtcbmkonigclceaaW.PrintMore
attribute [local go_sem] max2_int min2_int max_two min_two max_three min_three max_four min_four   -- for this text's walks alone
set_option linter.unusedVariables false
set_option linter.unusedSimpArgs false
/-! ### spec_PutText: function 57 -/
mutual
def spec_PutText.j1 : Nat → List (S65) → ByteArray → Int → Int → Option ((List (S65)) × Int × Bool)
 | 0, _, _, _, _ => none
 | k + 1, x0, x1, x7, x8 => if x8 < (x0.length : Int) then (if 0 ≤ x8 then (spec_PutText.j2 k x0 x1 x7 x8 (((rd_T65 x0 x8).f0) == x7)) else (none)) else (spec_PutText.j2 k x0 x1 x7 x8 false)
def spec_PutText.j2 : Nat → List (S65) → ByteArray → Int → Int → Bool → Option ((List (S65)) × Int × Bool)
 | 0, _, _, _, _, _ => none
 | k + 1, x0, x1, x7, x8, x9 => if x7 < 0 then (spec_PutText.j3 k x0 x1 x7 x8 x9 true) else (if x9 = true then (if 0 ≤ x8 then (if x8 < (x0.length : Int) then (if ((rd_T65 x0 x8).f1).toList = x1.toList then (spec_PutText.j3 k x0 x1 x7 x8 x9 false) else (spec_PutText.j3 k x0 x1 x7 x8 x9 true)) else (none)) else (none)) else (spec_PutText.j3 k x0 x1 x7 x8 x9 ((x0.length : Int) == 40)))
def spec_PutText.j3 : Nat → List (S65) → ByteArray → Int → Int → Bool → Bool → Option ((List (S65)) × Int × Bool)
 | 0, _, _, _, _, _, _ => none
 | k + 1, x0, x1, x7, x8, x9, x44 => if x44 = true then ((some (([] : List (S65)) : List (S65))).bind fun y679 => (if y679.length + x0.length < 5864062014805 then (some ((y679 ++ x0), (-1), false)) else (none))) else (if x9 = true then ((some (([] : List (S65)) : List (S65))).bind fun y685 => (if y685.length + x0.length < 5864062014805 then (some ((y685 ++ x0), x7, true)) else (none))) else ((some (([] : List (S65)) : List (S65))).bind fun y691 => (if 0 ≤ x8 then (if x8 ≤ (x0.length : Int) then ((some (x0.take (x8 : Int).toNat : List (S65))).bind fun y694 => (if y691.length + y694.length < 5864062014805 then ((some (y691 ++ y694 : List (S65))).bind fun y698 => ((some (([(⟨x7, x1⟩ : S65)] : List (S65)) : List (S65))).bind fun y701 => (if y698.length + y701.length < 5864062014805 then ((some (y698 ++ y701 : List (S65))).bind fun y704 => ((some (x0.drop (x8 : Int).toNat : List (S65))).bind fun y707 => (if y704.length + y707.length < 5864062014805 then (some ((y704 ++ y707), x7, true)) else (none)))) else (none)))) else (none))) else (none)) else (none))))
def spec_PutText.l0 : Nat → List (S65) → ByteArray → Int → Int → Option ((List (S65)) × Int × Bool)
 | 0, _, _, _, _ => none
 | k + 1, x0, x1, x7, x8 => if x8 < (x0.length : Int) then (if 0 ≤ x8 then (if ((rd_T65 x0 x8).f0) < x7 then (spec_PutText.l0 k x0 x1 x7 (wrap64 (x8 + 1))) else (spec_PutText.j1 k x0 x1 x7 x8)) else (none)) else (spec_PutText.j1 k x0 x1 x7 x8)
end
def spec_PutText.f (k : Nat) (l0 : List (S65)) (a1 : ByteArray) : Option ((List (S65)) × Int × Bool) := (spec_StoreValid.f k l0).bind fun t671 => (if t671 = true then ((spec_PrintOf.f k a1).bind fun t675 => (spec_PutText.l0 k l0 a1 t675 0)) else (some ((([] : List (S65))), (-1), false)))
def spec_PutText.T12 : Bool × List (List Nat × List Nat) := (true, [([], []), ([], []), ([], []), ([1, 2], [1, 2]), ([0, 3], [0, 3]), ([], []), ([], []), ([5, 6], [5, 6]), ([7], [7]), ([4, 8, 4], [4, 8]), ([], []), ([], []), ([10, 11], [10, 11]), ([9, 12, 9], [9, 12]), ([], []), ([13, 13, 0, 1, 2, 3, 4, 5, 6, 7, 8, 9, 10, 11, 12, 13], [13]), ([14, 15, 0, 1, 2, 3, 4, 5, 6, 7, 8, 9, 10, 11, 12, 13, 14, 15], [14]), ([16, 0, 1, 2, 3, 4, 5, 6, 7, 8, 9, 10, 11, 12, 13, 14, 15, 16], [])])
def spec_PutText.B12 : List Nat := [0, 0, 0, 6, 15, 0, 0, 96, 224, 511, 0, 0, 3072, 8191, 0, 16383, 65535, 131071]
theorem spec_PutText.tab12 : rtab .any (opsOf Try.f57 12) = spec_PutText.T12 := by kernel_rfl
theorem spec_PutText.bits12 : waitsOk spec_PutText.T12.2 spec_PutText.B12 = true := by kernel_rfl
set_option maxHeartbeats 8000000 in
set_option maxRecDepth 100000 in
theorem spec_PutText.calls (k : Nat) (A0 : Option Addr) (c0 : Nat) (l0 : List (S65)) (a1 : ByteArray) (r1 : List (S65)) (r2 : Int) (r3 : Bool) (w : World) (hr0 : Kd.C k65 w A0 l0.length l0) (hc0 : l0.length ≤ c0) (h : spec_PutText.f k l0 a1 = some (r1, r2, r3)) :
  Calls Try.prog 57 #[.slice A0 l0.length c0, .string a1] w fun e w' => ∃ v0_ : Value, e = .returned (.tuple #[v0_, .int .i64 r2, .bool r3]) ∧ Kd.R k65 65 w' w.heap.size (fun _ => True) v0_ r1 ∧ Below w.heap.size w w' := by
 have hu65 := Try.underlying65
 have HR0 := Aside0.mk hr0
 have HC0 := Aside0.mk hc0
 clear hr0 hc0
 have HB := Aside0.mk (Below.refl w.heap.size w)
 have H : ((spec_StoreValid.f k l0).bind fun t671 => (if t671 = true then ((spec_PrintOf.f k a1).bind fun t675 => (spec_PutText.l0 k l0 a1 t675 0)) else (some ((([] : List (S65))), (-1), false)))) = some (r1, r2, r3) := h
 clear h
 replace H := Option.bind_eq_some_iff.mp H
 obtain ⟨t671, A30, H⟩ := H
 replace H : (if t671 = true then ((spec_PrintOf.f k a1).bind fun t675 => (spec_PutText.l0 k l0 a1 t675 0)) else (some ((([] : List (S65))), (-1), false))) = some (r1, r2, r3) := H
 have A3 := Aside0.mk A30
 clear A30
 by_cases c4 : t671 = true
 ·subst c4
  have H1 : ((spec_PrintOf.f k a1).bind fun t675 => (spec_PutText.l0 k l0 a1 t675 0)) = some (r1, r2, r3) := by rw [if_pos rfl] at H; exact H
  clear H
  have H := H1
  clear H1
  replace H := Option.bind_eq_some_iff.mp H
  obtain ⟨t675, A50, H⟩ := H
  replace H : (spec_PutText.l0 k l0 a1 t675 0) = some (r1, r2, r3) := H
  have A5 := Aside0.mk A50
  clear A50
  have HC6 := Aside0.mk H
  clear H
  go_enter Try.func57, Try.ntmps57
  go_upto_block 0 with (first | ((with_reducible refine gate_callee (f := 83) rfl ?_); refine gl_ (some 11) Try.func83 #[.slice A0 l0.length c0] ?_; (with_reducible refine (spec_StoreValid.calls k _ _ l0 true _ ?side1 ?side2 A3.out).mono ?_); (case side1 => exact kC_ HR0.out); (case side2 => exact HC0.out); rintro e w7 ⟨rfl, hb⟩; refine ⟨_, rfl, ?_⟩; replace HB := Aside0.mk (below_step hb_ hb); (try clear hb)) | ((with_reducible refine gate_callee (f := 84) rfl ?_); refine gl_ (some 15) Try.func84 #[.string a1] ?_; (with_reducible refine (spec_PrintOf.calls k a1 t675 _ A5.out).mono ?_); rintro e w' ⟨rfl, ⟨nd, rfl⟩⟩; refine ⟨_, rfl, ?_⟩))
  (try simp only [Act.put, List.setIfInBounds_toArray, List.set_cons_zero, List.set_cons_succ])
  go_cut [8] (fun v8 wc => ∃ (kq : Nat) (x8_5 : Int), v8 = .int .i64 x8_5 ∧ Aside0 (spec_PutText.j1 kq l0 a1 t675 x8_5 = some (r1, r2, r3)) ∧ Aside0 (kq ≤ k) ∧ Aside0 (Below w.heap.size w wc))
  case first =>
   have H := HC6.out
   clear HC6
   have H' := Aside0.mk H
   clear H
   go_wp2
   go_loopg [8] k (fun kq v8 w' => ∃ (x8_1 : Int), v8 = .int .i64 x8_1 ∧ Aside0 (spec_PutText.l0 kq l0 a1 t675 x8_1 = some (r1, r2, r3)) ∧ Aside0 (kq ≤ k) ∧ Aside0 (Below w.heap.size w w'))
   case atStart => exact ⟨(0), rs_, H', ⟨Nat.le_refl _⟩, ⟨hb_⟩⟩
   case round =>
    clear H'
    try clear p2
    try clear c4
    try clear c5
    obtain ⟨x8_1, rfl, HA, HK1, HB⟩ := hrel
    cases gk with
    | zero => exact absurd HA.out (by simp [spec_PutText.l0])
    | succ k1 =>
     have H := HA.out
     clear HA
     simp only [spec_PutText.l0] at H
     by_cases c8 : x8_1 < (l0.length : Int)
     ·rw [if_pos c8] at H
      have c8b0 : decide (x8_1 < (l0.length : Int)) = true := decide_eq_true c8
      clear c8
      (first | rw [c8b0] | (simp only [i64_w, i32_w]; rw [c8b0]) | skip)
      by_cases c9 : 0 ≤ x8_1; rotate_left
      ·rw [if_neg c9] at H; exact absurd H (by simp)
      rw [if_pos c9] at H
      have c9b0 : decide (0 ≤ x8_1) = true := decide_eq_true c9
      clear c9
      by_cases c10 : ((rd_T65 l0 x8_1).f0) < t675
      ·rw [if_pos c10] at H
       have c10b0 : decide (((rd_T65 l0 x8_1).f0) < t675) = true := decide_eq_true c10
       clear c10
       have H' := Aside0.mk H
       clear H
       have p676 : 0 ≤ (x8_1 : Int) := dt_
       have q676 : x8_1 < (l0.length : Int) := dt_
       obtain ⟨ad676, e676, hx676_0, hx676_1⟩ := at_T65 HR0.out x8_1 p676 q676
       cases e676
       replace hx676_0 := cb_ HB.out hx676_0
       replace hx676_1 := cb_ HB.out hx676_1
       replace p676 := eq_true p676
       replace q676 := eq_true q676
       go_wp2
       go_roundg k1
       case measure => have := HK1.out; omega
       case rel => exact ⟨(wrap64 (x8_1 + 1)), rs_, H', ⟨by have := HK1.out; omega⟩, ⟨hb_⟩⟩
      ·rw [if_neg c10] at H
       have c10b0 : decide (((rd_T65 l0 x8_1).f0) < t675) = false := decide_eq_false c10
       clear c10
       have H' := Aside0.mk H
       clear H
       have p676 : 0 ≤ (x8_1 : Int) := dt_
       have q676 : x8_1 < (l0.length : Int) := dt_
       obtain ⟨ad676, e676, hx676_0, hx676_1⟩ := at_T65 HR0.out x8_1 p676 q676
       cases e676
       replace hx676_0 := cb_ HB.out hx676_0
       replace hx676_1 := cb_ HB.out hx676_1
       replace p676 := eq_true p676
       replace q676 := eq_true q676
       go_wp2
       go_meet
       case rel => exact ⟨_, (x8_1), rs_, H', ⟨by have := HK1.out; first | omega | exact Nat.le_refl _⟩, ⟨hb_⟩⟩
     ·rw [if_neg c8] at H
      have c8b0 : decide (x8_1 < (l0.length : Int)) = false := decide_eq_false c8
      clear c8
      (first | rw [c8b0] | (simp only [i64_w, i32_w]; rw [c8b0]) | skip)
      have H' := Aside0.mk H
      clear H
      go_wp2
      go_meet
      case rel => exact ⟨_, (x8_1), rs_, H', ⟨by have := HK1.out; first | omega | exact Nat.le_refl _⟩, ⟨hb_⟩⟩
  case rest =>
   clear HC6
   try clear c1
   try clear p2
   try clear c4
   try clear c5
   try clear p6
   try clear q6
   try clear hx6
   try clear c8
   try clear c8b0
   try clear c9
   try clear c9b0
   try clear c10
   try clear c10b0
   try clear hx676_0
   try clear hx676_1
   try clear p2
   try clear p676
   try clear q676
   obtain ⟨kq, x8_5, rfl, HA, HJ5, HB⟩ := hcut
   cases kq with
   | zero => exact absurd HA.out (by simp [spec_PutText.j1])
   | succ kj5 =>
    have H := HA.out
    clear HA
    simp only [spec_PutText.j1] at H
    have HC11 := Aside0.mk H
    clear H
    go_upto_region 7 with (fail)
    go_cut [9] (fun v9 wc => ∃ (kq : Nat) (x9_10 : Bool), v9 = .bool x9_10 ∧ Aside0 (spec_PutText.j2 kq l0 a1 t675 x8_5 x9_10 = some (r1, r2, r3)) ∧ Aside0 (kq ≤ kj5) ∧ Aside0 (Below w.heap.size w wc))
    case first =>
     have H := HC11.out
     clear HC11
     by_cases c12 : x8_5 < (l0.length : Int)
     ·rw [if_pos c12] at H
      have c12b0 : decide (x8_5 < (l0.length : Int)) = true := decide_eq_true c12
      clear c12
      (first | rw [c12b0] | (simp only [i64_w, i32_w]; rw [c12b0]) | skip)
      by_cases c13 : 0 ≤ x8_5; rotate_left
      ·rw [if_neg c13] at H; exact absurd H (by simp)
      rw [if_pos c13] at H
      have c13b0 : decide (0 ≤ x8_5) = true := decide_eq_true c13
      clear c13
      have H' := Aside0.mk H
      clear H
      have p677 : 0 ≤ (x8_5 : Int) := dt_
      have q677 : x8_5 < (l0.length : Int) := dt_
      obtain ⟨ad677, e677, hx677_0, hx677_1⟩ := at_T65 HR0.out x8_5 p677 q677
      cases e677
      replace hx677_0 := cb_ HB.out hx677_0
      replace hx677_1 := cb_ HB.out hx677_1
      replace p677 := eq_true p677
      replace q677 := eq_true q677
      go_wp2
      go_meet
      case rel => exact ⟨_, ((((rd_T65 l0 x8_5).f0) == t675)), rs_, H', ⟨by have := HJ5.out; first | omega | exact Nat.le_refl _⟩, ⟨hb_⟩⟩
     ·rw [if_neg c12] at H
      have c12b0 : decide (x8_5 < (l0.length : Int)) = false := decide_eq_false c12
      clear c12
      (first | rw [c12b0] | (simp only [i64_w, i32_w]; rw [c12b0]) | skip)
      have H' := Aside0.mk H
      clear H
      go_wp2
      go_meet
      case rel => exact ⟨_, (false), rs_, H', ⟨by have := HJ5.out; first | omega | exact Nat.le_refl _⟩, ⟨hb_⟩⟩
    case rest =>
     clear HC11
     try clear c1
     try clear p2
     try clear c4
     try clear c5
     try clear p6
     try clear q6
     try clear hx6
     try clear c8
     try clear c8b0
     try clear c9
     try clear c9b0
     try clear c10
     try clear c10b0
     try clear c12
     try clear c12b0
     try clear c13
     try clear c13b0
     try clear hx676_0
     try clear hx676_1
     try clear hx677_0
     try clear hx677_1
     try clear p2
     try clear p6
     try clear p676
     try clear p677
     try clear q6
     try clear q676
     try clear q677
     obtain ⟨kq, x9_10, rfl, HA, HJ10, HB⟩ := hcut
     cases kq with
     | zero => exact absurd HA.out (by simp [spec_PutText.j2])
     | succ kj10 =>
      have H := HA.out
      clear HA
      simp only [spec_PutText.j2] at H
      have HC14 := Aside0.mk H
      clear H
      go_upto_region 8 with (fail)
      go_cut [44] (fun v44 wc => ∃ (kq : Nat) (x44_13 : Bool), v44 = .bool x44_13 ∧ Aside0 (spec_PutText.j3 kq l0 a1 t675 x8_5 x9_10 x44_13 = some (r1, r2, r3)) ∧ Aside0 (kq ≤ kj10) ∧ Aside0 (Below w.heap.size w wc))
      case first =>
       have H := HC14.out
       clear HC14
       by_cases c15 : t675 < 0
       ·rw [if_pos c15] at H
        have c15b0 : decide (t675 < 0) = true := decide_eq_true c15
        clear c15
        (first | rw [c15b0] | (simp only [i64_w, i32_w]; rw [c15b0]) | skip)
        have H' := Aside0.mk H
        clear H
        go_wp2
        go_meet
        case rel => exact ⟨_, (true), rs_, H', ⟨by have := HJ5.out; have := HJ10.out; first | omega | exact Nat.le_refl _⟩, ⟨hb_⟩⟩
       ·rw [if_neg c15] at H
        have c15b0 : decide (t675 < 0) = false := decide_eq_false c15
        clear c15
        (first | rw [c15b0] | (simp only [i64_w, i32_w]; rw [c15b0]) | skip)
        by_cases c16 : x9_10 = true
        ·subst c16
         have H1 : (if 0 ≤ x8_5 then (if x8_5 < (l0.length : Int) then (if ((rd_T65 l0 x8_5).f1).toList = a1.toList then (spec_PutText.j3 kj10 l0 a1 t675 x8_5 true false) else (spec_PutText.j3 kj10 l0 a1 t675 x8_5 true true)) else (none)) else (none)) = some (r1, r2, r3) := by rw [if_pos rfl] at H; exact H
         clear H
         have H := H1
         clear H1
         by_cases c17 : 0 ≤ x8_5; rotate_left
         ·rw [if_neg c17] at H; exact absurd H (by simp)
         rw [if_pos c17] at H
         have c17b0 : decide (0 ≤ x8_5) = true := decide_eq_true c17
         clear c17
         by_cases c18 : x8_5 < (l0.length : Int); rotate_left
         ·rw [if_neg c18] at H; exact absurd H (by simp)
         rw [if_pos c18] at H
         have c18b0 : decide (x8_5 < (l0.length : Int)) = true := decide_eq_true c18
         clear c18
         by_cases c19 : ((rd_T65 l0 x8_5).f1).toList = a1.toList
         ·rw [if_pos c19] at H
          have c19b0 : (((rd_T65 l0 x8_5).f1).toList == a1.toList) = true := beq_iff_eq.mpr c19
          have c19b1 : (((rd_T65 l0 x8_5).f1).toList != a1.toList) = false := bne_eq_false_iff_eq.mpr c19
          clear c19
          have H' := Aside0.mk H
          clear H
          have p678 : 0 ≤ (x8_5 : Int) := dt_
          have q678 : x8_5 < (l0.length : Int) := dt_
          obtain ⟨ad678, e678, hx678_0, hx678_1⟩ := at_T65 HR0.out x8_5 p678 q678
          cases e678
          replace hx678_0 := cb_ HB.out hx678_0
          replace hx678_1 := cb_ HB.out hx678_1
          replace p678 := eq_true p678
          replace q678 := eq_true q678
          go_wp2
          go_meet
          case rel => exact ⟨_, (false), rs_, H', ⟨by have := HJ5.out; have := HJ10.out; first | omega | exact Nat.le_refl _⟩, ⟨hb_⟩⟩
         ·rw [if_neg c19] at H
          have c19b0 : (((rd_T65 l0 x8_5).f1).toList == a1.toList) = false := beq_eq_false_iff_ne.mpr c19
          have c19b1 : (((rd_T65 l0 x8_5).f1).toList != a1.toList) = true := bne_iff_ne.mpr c19
          have H' := Aside0.mk H
          clear H
          have p678 : 0 ≤ (x8_5 : Int) := dt_
          have q678 : x8_5 < (l0.length : Int) := dt_
          obtain ⟨ad678, e678, hx678_0, hx678_1⟩ := at_T65 HR0.out x8_5 p678 q678
          cases e678
          replace hx678_0 := cb_ HB.out hx678_0
          replace hx678_1 := cb_ HB.out hx678_1
          replace p678 := eq_true p678
          replace q678 := eq_true q678
          go_wp2
          go_meet
          case rel => exact ⟨_, (true), rs_, H', ⟨by have := HJ5.out; have := HJ10.out; first | omega | exact Nat.le_refl _⟩, ⟨hb_⟩⟩
        ·replace c16 := Bool.eq_false_iff.mpr c16
         subst c16
         have H1 : (spec_PutText.j3 kj10 l0 a1 t675 x8_5 false ((l0.length : Int) == 40)) = some (r1, r2, r3) := by rw [if_neg (show ¬ (false = true) by decide)] at H; exact H
         clear H
         have H := H1
         clear H1
         have H' := Aside0.mk H
         clear H
         go_wp2
         go_meet
         case rel => exact ⟨_, (((l0.length : Int) == 40)), rs_, H', ⟨by have := HJ5.out; have := HJ10.out; first | omega | exact Nat.le_refl _⟩, ⟨hb_⟩⟩
      case rest =>
       clear HC14
       try clear c1
       try clear p2
       try clear c4
       try clear c5
       try clear p6
       try clear q6
       try clear hx6
       try clear c8
       try clear c8b0
       try clear c9
       try clear c9b0
       try clear c10
       try clear c10b0
       try clear c12
       try clear c12b0
       try clear c13
       try clear c13b0
       try clear c15
       try clear c15b0
       try clear c16
       try clear c17
       try clear c17b0
       try clear c18
       try clear c18b0
       try clear c19
       try clear c19b0
       try clear c19b1
       try clear hx676_0
       try clear hx676_1
       try clear hx677_0
       try clear hx677_1
       try clear hx678_0
       try clear hx678_1
       try clear p2
       try clear p6
       try clear p676
       try clear p677
       try clear p678
       try clear q6
       try clear q676
       try clear q677
       try clear q678
       obtain ⟨kq, x44_13, rfl, HA, HJ13, HB⟩ := hcut
       cases kq with
       | zero => exact absurd HA.out (by simp [spec_PutText.j3])
       | succ kj13 =>
        have H := HA.out
        clear HA
        simp only [spec_PutText.j3] at H
        by_cases c20 : x44_13 = true
        ·subst c20
         have H1 : ((some (([] : List (S65)) : List (S65))).bind fun y679 => (if y679.length + l0.length < 5864062014805 then (some ((y679 ++ l0), (-1), false)) else (none))) = some (r1, r2, r3) := by rw [if_pos rfl] at H; exact H
         clear H
         have H := H1
         clear H1
         obtain ⟨y679, hy679⟩ : ∃ y_ : List (S65), y_ = (([] : List (S65))) := ⟨_, rfl⟩
         replace H : (if y679.length + l0.length < 5864062014805 then (some ((y679 ++ l0), (-1), false)) else (none)) = some (r1, r2, r3) := hq_ hy679 H
         have Ny679 := Aside0.mk hy679
         clear hy679
         by_cases c21 : y679.length + l0.length < 5864062014805; rotate_left
         ·rw [if_neg c21] at H; exact absurd H (by simp)
         rw [if_pos c21] at H
         have LMc21 := Aside0.mk c21
         clear c21
         obtain ⟨y682, hy682⟩ : ∃ y_ : List (S65), y_ = (y679 ++ l0) := ⟨_, rfl⟩
         replace H : (some (y682, (-1), false)) = some (r1, r2, r3) := hq_ hy682 H
         have Ny682 := Aside0.mk hy682
         clear hy682
         simp only [Option.some.injEq, Prod.mk.injEq] at H
         obtain ⟨rfl, rfl, rfl⟩ := H
         go_wp2_with (first | ((with_reducible refine gate_dst (N := 68) rfl ?_); (try (refine gate_guard (by rfl) ?_; dsimp only)); refine Kd.R_lit k65 _ 65 ?hg (N := 68) ?hd (xs := ([] : List (S65))) (inner := []) (ok := fun _ => True) (okp := fun _ => True) ?hr ?hp (fun _ hk => hk) trivial (Below.refl _ _) (Nat.le_refl _) (by simp) ?_; (case hd => rfl); (case hg => rfl); (case hr => first | (go_simp; done) | (go_simp; rfl)); (case hp => exact (Reps.none _ _)); intro v680 w22 ho23 hb hg_ hnew_; clear hg_ hnew_; (first | rw [← Ny679.out] at ho23 | (simp only [Int.reduceToNat] at ho23; rw [← Ny679.out] at ho23)); have HO681 := Aside0.mk (Kd.R_lower ho23 (below_size hb_)); replace HB := Aside0.mk (below_step hb_ hb); clear hb ho23) | ((with_reducible refine gate_builtin (b := .append) (xs := #[.tmp 68, .tmp 69]) rfl ?_); (try (refine gate_guard (by rfl) ?_; dsimp only)); at_builtin; refine Kd.R_append_rows k65 (w0 := w) w.heap.size rfl (.tmp 68) (.tmp 69) 51 65 (.agg #[(.int .i64 0), (.string ⟨#[]⟩)]) 24 rfl Try.underlying51 info65 rfl (by decide) (by omega) v680 y679 l0 _ _ _ (fun _ => True) (fun _ => False) rfl rfl ?aO ?aR (fun _ _ h => h) (fun _ h => h.elim) ?aF ?aB ?aS ?aL ?_; (case aR => repeat (first | exact (Kd.C_below HR0.out HB.out) | (with_reducible refine Kd.C_alloc ?_ _) | (with_reducible refine Kd.C_drewN ?_ _) | (with_reducible refine Kd.C_drew ?_))); (case aB => exact hb_); (case aF => exact (fun _ _ => trivial)); (case aO => exact (kR_ HO681.out)); (case aS => exact (below_size hb_)); (case aL => have := LMc21.out; omega); intro v683 w24 ho hb hg hat; rw [← Ny682.out] at ho; have n0_ := Aside0.mk (hb); have n1_ := Aside0.mk (ho); clear HB; clear HO681; have HB := n0_; have HO684 := n1_; clear n0_ n1_; clear ho hb hg hat))
         go_ret3
         exact ⟨_, er_, by refine kR_ ?_; exact HO684.out, hb_⟩
        ·replace c20 := Bool.eq_false_iff.mpr c20
         subst c20
         have H1 : (if x9_10 = true then ((some (([] : List (S65)) : List (S65))).bind fun y685 => (if y685.length + l0.length < 5864062014805 then (some ((y685 ++ l0), t675, true)) else (none))) else ((some (([] : List (S65)) : List (S65))).bind fun y691 => (if 0 ≤ x8_5 then (if x8_5 ≤ (l0.length : Int) then ((some (l0.take (x8_5 : Int).toNat : List (S65))).bind fun y694 => (if y691.length + y694.length < 5864062014805 then ((some (y691 ++ y694 : List (S65))).bind fun y698 => ((some (([(⟨t675, a1⟩ : S65)] : List (S65)) : List (S65))).bind fun y701 => (if y698.length + y701.length < 5864062014805 then ((some (y698 ++ y701 : List (S65))).bind fun y704 => ((some (l0.drop (x8_5 : Int).toNat : List (S65))).bind fun y707 => (if y704.length + y707.length < 5864062014805 then (some ((y704 ++ y707), t675, true)) else (none)))) else (none)))) else (none))) else (none)) else (none)))) = some (r1, r2, r3) := by rw [if_neg (show ¬ (false = true) by decide)] at H; exact H
         clear H
         have H := H1
         clear H1
         by_cases c25 : x9_10 = true
         ·subst c25
          have H1 : ((some (([] : List (S65)) : List (S65))).bind fun y685 => (if y685.length + l0.length < 5864062014805 then (some ((y685 ++ l0), t675, true)) else (none))) = some (r1, r2, r3) := by rw [if_pos rfl] at H; exact H
          clear H
          have H := H1
          clear H1
          obtain ⟨y685, hy685⟩ : ∃ y_ : List (S65), y_ = (([] : List (S65))) := ⟨_, rfl⟩
          replace H : (if y685.length + l0.length < 5864062014805 then (some ((y685 ++ l0), t675, true)) else (none)) = some (r1, r2, r3) := hq_ hy685 H
          have Ny685 := Aside0.mk hy685
          clear hy685
          by_cases c26 : y685.length + l0.length < 5864062014805; rotate_left
          ·rw [if_neg c26] at H; exact absurd H (by simp)
          rw [if_pos c26] at H
          have LMc26 := Aside0.mk c26
          clear c26
          obtain ⟨y688, hy688⟩ : ∃ y_ : List (S65), y_ = (y685 ++ l0) := ⟨_, rfl⟩
          replace H : (some (y688, t675, true)) = some (r1, r2, r3) := hq_ hy688 H
          have Ny688 := Aside0.mk hy688
          clear hy688
          simp only [Option.some.injEq, Prod.mk.injEq] at H
          obtain ⟨rfl, rfl, rfl⟩ := H
          go_wp2_with (first | ((with_reducible refine gate_dst (N := 73) rfl ?_); (try (refine gate_guard (by rfl) ?_; dsimp only)); refine Kd.R_lit k65 _ 65 ?hg (N := 73) ?hd (xs := ([] : List (S65))) (inner := []) (ok := fun _ => True) (okp := fun _ => True) ?hr ?hp (fun _ hk => hk) trivial (Below.refl _ _) (Nat.le_refl _) (by simp) ?_; (case hd => rfl); (case hg => rfl); (case hr => first | (go_simp; done) | (go_simp; rfl)); (case hp => exact (Reps.none _ _)); intro v686 w27 ho28 hb hg_ hnew_; clear hg_ hnew_; (first | rw [← Ny685.out] at ho28 | (simp only [Int.reduceToNat] at ho28; rw [← Ny685.out] at ho28)); have HO687 := Aside0.mk (Kd.R_lower ho28 (below_size hb_)); replace HB := Aside0.mk (below_step hb_ hb); clear hb ho28) | ((with_reducible refine gate_builtin (b := .append) (xs := #[.tmp 73, .tmp 74]) rfl ?_); (try (refine gate_guard (by rfl) ?_; dsimp only)); at_builtin; refine Kd.R_append_rows k65 (w0 := w) w.heap.size rfl (.tmp 73) (.tmp 74) 51 65 (.agg #[(.int .i64 0), (.string ⟨#[]⟩)]) 24 rfl Try.underlying51 info65 rfl (by decide) (by omega) v686 y685 l0 _ _ _ (fun _ => True) (fun _ => False) rfl rfl ?aO ?aR (fun _ _ h => h) (fun _ h => h.elim) ?aF ?aB ?aS ?aL ?_; (case aR => repeat (first | exact (Kd.C_below HR0.out HB.out) | (with_reducible refine Kd.C_alloc ?_ _) | (with_reducible refine Kd.C_drewN ?_ _) | (with_reducible refine Kd.C_drew ?_))); (case aB => exact hb_); (case aF => exact (fun _ _ => trivial)); (case aO => exact (kR_ HO687.out)); (case aS => exact (below_size hb_)); (case aL => have := LMc26.out; omega); intro v689 w29 ho hb hg hat; rw [← Ny688.out] at ho; have n0_ := Aside0.mk (hb); have n1_ := Aside0.mk (ho); clear HB; clear HO687; have HB := n0_; have HO690 := n1_; clear n0_ n1_; clear ho hb hg hat))
          go_ret3
          exact ⟨_, er_, by refine kR_ ?_; exact HO690.out, hb_⟩
         ·replace c25 := Bool.eq_false_iff.mpr c25
          subst c25
          have H1 : ((some (([] : List (S65)) : List (S65))).bind fun y691 => (if 0 ≤ x8_5 then (if x8_5 ≤ (l0.length : Int) then ((some (l0.take (x8_5 : Int).toNat : List (S65))).bind fun y694 => (if y691.length + y694.length < 5864062014805 then ((some (y691 ++ y694 : List (S65))).bind fun y698 => ((some (([(⟨t675, a1⟩ : S65)] : List (S65)) : List (S65))).bind fun y701 => (if y698.length + y701.length < 5864062014805 then ((some (y698 ++ y701 : List (S65))).bind fun y704 => ((some (l0.drop (x8_5 : Int).toNat : List (S65))).bind fun y707 => (if y704.length + y707.length < 5864062014805 then (some ((y704 ++ y707), t675, true)) else (none)))) else (none)))) else (none))) else (none)) else (none))) = some (r1, r2, r3) := by rw [if_neg (show ¬ (false = true) by decide)] at H; exact H
          clear H
          have H := H1
          clear H1
          obtain ⟨y691, hy691⟩ : ∃ y_ : List (S65), y_ = (([] : List (S65))) := ⟨_, rfl⟩
          replace H : (if 0 ≤ x8_5 then (if x8_5 ≤ (l0.length : Int) then ((some (l0.take (x8_5 : Int).toNat : List (S65))).bind fun y694 => (if y691.length + y694.length < 5864062014805 then ((some (y691 ++ y694 : List (S65))).bind fun y698 => ((some (([(⟨t675, a1⟩ : S65)] : List (S65)) : List (S65))).bind fun y701 => (if y698.length + y701.length < 5864062014805 then ((some (y698 ++ y701 : List (S65))).bind fun y704 => ((some (l0.drop (x8_5 : Int).toNat : List (S65))).bind fun y707 => (if y704.length + y707.length < 5864062014805 then (some ((y704 ++ y707), t675, true)) else (none)))) else (none)))) else (none))) else (none)) else (none)) = some (r1, r2, r3) := hq_ hy691 H
          have Ny691 := Aside0.mk hy691
          clear hy691
          by_cases c30 : 0 ≤ x8_5; rotate_left
          ·rw [if_neg c30] at H; exact absurd H (by simp)
          rw [if_pos c30] at H
          have c30b0 := eq_true c30
          have c30b1 : decide (0 ≤ x8_5) = true := decide_eq_true c30
          clear c30
          by_cases c31 : x8_5 ≤ (l0.length : Int); rotate_left
          ·rw [if_neg c31] at H; exact absurd H (by simp)
          rw [if_pos c31] at H
          have c31b0 := eq_true c31
          have c31b1 : decide (x8_5 ≤ (l0.length : Int)) = true := decide_eq_true c31
          clear c31
          obtain ⟨y694, hy694⟩ : ∃ y_ : List (S65), y_ = (l0.take (x8_5 : Int).toNat) := ⟨_, rfl⟩
          replace H : (if y691.length + y694.length < 5864062014805 then ((some (y691 ++ y694 : List (S65))).bind fun y698 => ((some (([(⟨t675, a1⟩ : S65)] : List (S65)) : List (S65))).bind fun y701 => (if y698.length + y701.length < 5864062014805 then ((some (y698 ++ y701 : List (S65))).bind fun y704 => ((some (l0.drop (x8_5 : Int).toNat : List (S65))).bind fun y707 => (if y704.length + y707.length < 5864062014805 then (some ((y704 ++ y707), t675, true)) else (none)))) else (none)))) else (none)) = some (r1, r2, r3) := hq_ hy694 H
          have Ny694 := Aside0.mk hy694
          clear hy694
          by_cases c32 : y691.length + y694.length < 5864062014805; rotate_left
          ·rw [if_neg c32] at H; exact absurd H (by simp)
          rw [if_pos c32] at H
          have LMc32 := Aside0.mk c32
          clear c32
          obtain ⟨y698, hy698⟩ : ∃ y_ : List (S65), y_ = (y691 ++ y694) := ⟨_, rfl⟩
          replace H : ((some (([(⟨t675, a1⟩ : S65)] : List (S65)) : List (S65))).bind fun y701 => (if y698.length + y701.length < 5864062014805 then ((some (y698 ++ y701 : List (S65))).bind fun y704 => ((some (l0.drop (x8_5 : Int).toNat : List (S65))).bind fun y707 => (if y704.length + y707.length < 5864062014805 then (some ((y704 ++ y707), t675, true)) else (none)))) else (none))) = some (r1, r2, r3) := hq_ hy698 H
          have Ny698 := Aside0.mk hy698
          clear hy698
          obtain ⟨y701, hy701⟩ : ∃ y_ : List (S65), y_ = (([(⟨t675, a1⟩ : S65)] : List (S65))) := ⟨_, rfl⟩
          replace H : (if y698.length + y701.length < 5864062014805 then ((some (y698 ++ y701 : List (S65))).bind fun y704 => ((some (l0.drop (x8_5 : Int).toNat : List (S65))).bind fun y707 => (if y704.length + y707.length < 5864062014805 then (some ((y704 ++ y707), t675, true)) else (none)))) else (none)) = some (r1, r2, r3) := hq_ hy701 H
          have Ny701 := Aside0.mk hy701
          clear hy701
          by_cases c33 : y698.length + y701.length < 5864062014805; rotate_left
          ·rw [if_neg c33] at H; exact absurd H (by simp)
          rw [if_pos c33] at H
          have LMc33 := Aside0.mk c33
          clear c33
          obtain ⟨y704, hy704⟩ : ∃ y_ : List (S65), y_ = (y698 ++ y701) := ⟨_, rfl⟩
          replace H : ((some (l0.drop (x8_5 : Int).toNat : List (S65))).bind fun y707 => (if y704.length + y707.length < 5864062014805 then (some ((y704 ++ y707), t675, true)) else (none))) = some (r1, r2, r3) := hq_ hy704 H
          have Ny704 := Aside0.mk hy704
          clear hy704
          have c34b0 := eq_true (dt_ : 0 ≤ x8_5)
          have c35b0 := eq_true (dt_ : x8_5 ≤ (l0.length : Int))
          obtain ⟨y707, hy707⟩ : ∃ y_ : List (S65), y_ = (l0.drop (x8_5 : Int).toNat) := ⟨_, rfl⟩
          replace H : (if y704.length + y707.length < 5864062014805 then (some ((y704 ++ y707), t675, true)) else (none)) = some (r1, r2, r3) := hq_ hy707 H
          have Ny707 := Aside0.mk hy707
          clear hy707
          by_cases c36 : y704.length + y707.length < 5864062014805; rotate_left
          ·rw [if_neg c36] at H; exact absurd H (by simp)
          rw [if_pos c36] at H
          have LMc36 := Aside0.mk c36
          clear c36
          obtain ⟨y711, hy711⟩ : ∃ y_ : List (S65), y_ = (y704 ++ y707) := ⟨_, rfl⟩
          replace H : (some (y711, t675, true)) = some (r1, r2, r3) := hq_ hy711 H
          have Ny711 := Aside0.mk hy711
          clear hy711
          simp only [Option.some.injEq, Prod.mk.injEq] at H
          obtain ⟨rfl, rfl, rfl⟩ := H
          try go_wp2
          replace HB := Aside0.mk (below_drew1 HB.out)
          have q38 : (x8_5 : Int) ≤ ((l0.length : Int) : Int) := dt_
          obtain ⟨i038, hi038, _, hsz38, _⟩ := info_parts info65
          have hroom38 : l0.length ≤ c0 := HC0.out
          have hC38 : Kd.C k65 _ A0 l0.length l0 := HR0.out
          have hcut38 := cut_to (P := Try.prog) 51 65 .i64 Try.underlying51 hi038 A0 l0.length c0 x8_5 (dt_) q38 hroom38
          have hr38 := Kd.C_take (m := (x8_5 : Int).toNat) hC38 (by omega)
          have hy38 : y694.length = (x8_5 : Int).toNat := (by rw [Ny694.out, List.length_take]; omega)
          rw [← Ny694.out] at hr38
          rw [← hy38] at hcut38
          have HR697 := Aside0.mk hr38
          have HC697 := Aside0.mk (show y694.length ≤ c0 from by omega)
          clear hr38 hC38 hroom38 hi038 hsz38
          have KY38 := Aside0.mk hy38
          clear hy38
          replace q38 := eq_true q38
          have q39 : (x8_5 : Int) ≤ ((l0.length : Int) : Int) := dt_
          obtain ⟨i039, hi039, _, hsz39, _⟩ := info_parts info65
          have hroom39 : l0.length ≤ c0 := HC0.out
          have hC39 : Kd.C k65 _ A0 l0.length l0 := HR0.out
          have q039 : (0 : Int) ≤ (x8_5 : Int) := dt_
          have hcut39 := cut_from (P := Try.prog) 51 65 .i64 Try.underlying51 hi039 2 hsz39 A0 l0.length c0 x8_5 q039 q39
          have hr39 := Kd.C_drop (m := (x8_5 : Int).toNat) (c := c0) hC39 (by omega) hroom39
          obtain ⟨A39, hA39⟩ : ∃ A1, A1 = (if c0 = (x8_5 : Int).toNat then A0 else (A0 : Option Addr).map (·.add ((x8_5 : Int).toNat * 2))) := ⟨_, rfl⟩
          obtain ⟨c39, hc39⟩ : ∃ c1, c1 = c0 - (x8_5 : Int).toNat := ⟨_, rfl⟩
          have hy39 : y707.length = l0.length - (x8_5 : Int).toNat := (by rw [Ny707.out, List.length_drop] <;> omega)
          rw [show (l0).drop (x8_5 : Int).toNat = y707 from Ny707.out.symm] at hr39
          replace hr39 : Kd.C k65 _ A39 y707.length y707 := (by rw [hA39]; exact hr39)
          rw [← hy39, ← hA39, ← hc39] at hcut39
          have HR710 := Aside0.mk hr39
          have HC710 := Aside0.mk (show y707.length ≤ c39 from by rw [hy39, hc39]; exact Nat.sub_le_sub_right hroom39 _)
          clear hr39 hC39 hroom39 hi039 hsz39 hc39
          have KY39 := Aside0.mk hy39
          have KA39 := Aside0.mk hA39
          clear hy39 hA39
          replace q39 := eq_true q39
          refine start_ (n := 18) (S := fun w' => True) (ds := []) (tf_ 0 18) (by kernel_rfl) rfl rfl trivial (fun hHeld => ?_); refine with_tabW spec_PutText.tab12 spec_PutText.bits12 (fun HT_ HW_ => ?_)
          generalize wc.drew = w37 at HB HR697 HR710 hHeld ⊢
          refine pa_ (i := 1) (N := some 78) (tb_ 18 2) ?_
          refine pa_ (i := 2) (N := some 79) (tb_ 18 6) ?_
          refine pa_ (i := 3) (N := some 80) (tb_ 18 14) ?_
          refine pa_ (i := 5) (N := some 82) (tb_ 18 46) ?_
          refine pa_ (i := 6) (N := some 83) (tb_ 18 110) ?_
          refine pa_ (i := 7) (N := some 84) (tb_ 18 238) ?_
          refine pa_ (i := 10) (N := some 87) (tb_ 18 1262) ?_
          refine pa_ (i := 11) (N := some 88) (tb_ 18 3310) ?_
          refine pa_ (i := 12) (N := some 89) (tb_ 18 7406) ?_
          refine pa_ (i := 14) (N := some 91) (tb_ 18 23790) ?_
          refine join_ (σ := Value × Value × Value) 5 (tb_ 18 24063) (fun s_ => [(77, s_.1), (81, s_.2.1), (85, s_.2.2)]) (fun s_ w' => (Kd.R k65 65 w' w.heap.size (fun k_ => some k_ ≠ (s_.2.2 : Value).ownBlock) s_.2.1 y698) ∧ (Kd.R k65 65 w' w.heap.size (fun k_ => some k_ ≠ (s_.2.1 : Value).ownBlock) s_.2.2 y701) ∧ (Below w.heap.size w w')) ?_ ?_
          rotate_left
          ·intro hCont
           refine two_ (i := 0) (j := 8) (Ni := some 77) (Nj := some 85) (tb_ 18 23791) (tb_ 18 24046) rfl rfl rfl rfl (two_of HT_.out (by kernel_rfl)) (by decide) (by decide) (fun K hK => ?_) (fun K hK => ?_)
           ·skip
            refine Kd.R_lit_step k65 _ 65 ?hg (N := 77) ?hd (xs := ([] : List (S65))) (inner := []) (ok := fun _ => True) (okp := fun _ => True) ?hr ?hp (fun _ hk => hk) trivial (Below.refl _ _) (Nat.le_refl _) (by simp) ?_; (case hd => rfl); (case hg => rfl); (case hr => first | (go_simp; done) | (go_simp; rfl)); (case hp => exact (Reps.none _ _))
            intro v692 w40 ho41 hb hg_ hnew_
            clear hg_ hnew_
            (first | rw [← Ny691.out] at ho41 | (simp only [Int.reduceToNat] at ho41; rw [← Ny691.out] at ho41))
            have HO693 := Aside0.mk (Kd.R_lower ho41 (below_size hb_))
            replace HB := Aside0.mk (below_step hb_ hb)
            clear hb ho41
            refine hK.out _ _ trivial (fun hHeld => ?_)
            clear hK K
            refine norm_ (a' := ?_) ?_ ?_
            rotate_left
            ·show Act.put _ (some 77) _ = _
             simp only [Act.put, List.setIfInBounds_toArray, List.set_cons_zero, List.set_cons_succ, i64_w, i32_w]
             rfl
            refine two_ (i := 4) (j := 8) (Ni := some 81) (Nj := some 85) (tb_ 18 23807) (tb_ 18 24047) rfl rfl rfl rfl (two_of HT_.out (by kernel_rfl)) (by decide) (by decide) (fun K hK => ?_) (fun K hK => ?_)
            ·skip
             refine Kd.R_append_rows_step k65 (w0 := w) w.heap.size (by rfl) (.tmp 77) (.tmp 80) 51 65 (.agg #[(.int .i64 0), (.string ⟨#[]⟩)]) 24 rfl Try.underlying51 info65 rfl (by decide) (by omega) v692 y691 y694 _ _ _ (fun _ => True) (fun _ => False) rfl rfl ?aO ?aR (fun _ _ h => h) (fun _ h => h.elim) ?aF ?aB ?aS ?aL ?_
             (case aR => repeat (first | exact (Kd.C_below HR697.out HB.out) | (with_reducible refine Kd.C_alloc ?_ _) | (with_reducible refine Kd.C_drewN ?_ _) | (with_reducible refine Kd.C_drew ?_)))
             (case aB => exact hb_)
             (case aF => exact (fun _ _ => trivial))
             (case aO => exact (kR_ HO693.out))
             (case aS => exact (below_size hb_))
             (case aL => have := LMc32.out; omega)
             intro v699 w42 ho hb hg hat
             rw [← Ny698.out] at ho
             have n0_ := Aside0.mk (hb)
             have n1_ := Aside0.mk (ho)
             clear HB
             clear HO693
             have HB := n0_
             have HO700 := n1_
             clear n0_ n1_
             clear ho hb hg hat
             refine hK.out _ _ trivial (fun hHeld => ?_)
             clear hK K
             refine norm_ (a' := ?_) ?_ ?_
             rotate_left
             ·show Act.put _ (some 81) _ = _
              simp only [Act.put, List.setIfInBounds_toArray, List.set_cons_zero, List.set_cons_succ, i64_w, i32_w]
              rfl
             refine one_ (i := 8) (N := some 85) (tb_ 18 24063) rfl rfl (one_of HT_.out (by kernel_rfl)) (by decide) (fun K hK => ?_)
             refine Kd.R_lit_step k65 _ 65 ?hg (N := 85) ?hd (xs := ([(⟨t675, a1⟩ : S65)] : List (S65))) (inner := [.int .i64 t675, .string a1]) (ok := fun _ => True) (okp := fun _ => True) ?hr ?hp (fun _ hk => hk) trivial (Below.refl _ _) (Nat.le_refl _) (by simp) ?_; (case hd => rfl); (case hg => rfl); (case hr => first | (go_simp; done) | (go_simp; rfl)); (case hp => exact (Reps.c2 (show Kd.M k65 _ _ _ (⟨t675, a1⟩ : S65) [.int .i64 t675, .string a1] from (k65_mkM _ _ _ (⟨t675, a1⟩ : S65) )) (Reps.none _ _)))
             intro v702 w43 ho44 hb hg_ hnew_
             clear hg_ hnew_
             (first | rw [← Ny701.out] at ho44 | (simp only [Int.reduceToNat] at ho44; rw [← Ny701.out] at ho44))
             have HO703 := Aside0.mk (Kd.R_lower (Kd.R_new' ho44 (Kd.R_lt (kR_ HO700.out))) (below_size hb_))
             replace HO700 := Aside0.mk (Kd.R_elder' (kR_ HO700.out) (Kd.R_base ho44) hb)
             replace HB := Aside0.mk (below_step hb_ hb)
             clear hb ho44
             refine hK.out _ _ trivial (fun hHeld => ?_)
             clear hK K
             refine norm_ (a' := ?_) ?_ ?_
             rotate_left
             ·show Act.put _ (some 85) _ = _
              simp only [Act.put, List.setIfInBounds_toArray, List.set_cons_zero, List.set_cons_succ, i64_w, i32_w]
              rfl
             exact norm_ (by simp only [putAll, Act.put, List.setIfInBounds_toArray, List.set_cons_zero, List.set_cons_succ]) (hCont (v692, v699, v702) _ ⟨(by refine kR_ ?_; exact Kd.R_mono HO700.out (fun _ hk => hk.2)), (by refine kR_ ?_; exact Kd.R_mono HO703.out (fun _ hk => hk.2)), hb_⟩)
            ·skip
             refine Kd.R_lit_step k65 _ 65 ?hg (N := 85) ?hd (xs := ([(⟨t675, a1⟩ : S65)] : List (S65))) (inner := [.int .i64 t675, .string a1]) (ok := fun _ => True) (okp := fun _ => True) ?hr ?hp (fun _ hk => hk) trivial (Below.refl _ _) (Nat.le_refl _) (by simp) ?_; (case hd => rfl); (case hg => rfl); (case hr => first | (go_simp; done) | (go_simp; rfl)); (case hp => exact (Reps.c2 (show Kd.M k65 _ _ _ (⟨t675, a1⟩ : S65) [.int .i64 t675, .string a1] from (k65_mkM _ _ _ (⟨t675, a1⟩ : S65) )) (Reps.none _ _)))
             intro v702 w42 ho43 hb hg_ hnew_
             clear hg_ hnew_
             (first | rw [← Ny701.out] at ho43 | (simp only [Int.reduceToNat] at ho43; rw [← Ny701.out] at ho43))
             have HO703 := Aside0.mk (Kd.R_lower (Kd.R_new' ho43 (Kd.R_lt (kR_ HO693.out))) (below_size hb_))
             replace HO693 := Aside0.mk (Kd.R_elder' (kR_ HO693.out) (Kd.R_base ho43) hb)
             replace HB := Aside0.mk (below_step hb_ hb)
             clear hb ho43
             refine hK.out _ _ trivial (fun hHeld => ?_)
             clear hK K
             refine norm_ (a' := ?_) ?_ ?_
             rotate_left
             ·show Act.put _ (some 85) _ = _
              simp only [Act.put, List.setIfInBounds_toArray, List.set_cons_zero, List.set_cons_succ, i64_w, i32_w]
              rfl
             refine one_ (i := 4) (N := some 81) (tb_ 18 24063) rfl rfl (one_of HT_.out (by kernel_rfl)) (by decide) (fun K hK => ?_)
             refine Kd.R_append_rows_step k65 (w0 := w) w.heap.size (by rfl) (.tmp 77) (.tmp 80) 51 65 (.agg #[(.int .i64 0), (.string ⟨#[]⟩)]) 24 rfl Try.underlying51 info65 rfl (by decide) (by omega) v692 y691 y694 _ _ _ (fun k_ => some k_ ≠ (v702 : Value).ownBlock) (fun _ => False) rfl rfl ?aO ?aR (fun _ _ h => h) (fun _ h => h.elim) ?aF ?aB ?aS ?aL ?_
             (case aR => repeat (first | exact (Kd.C_below HR697.out HB.out) | (with_reducible refine Kd.C_alloc ?_ _) | (with_reducible refine Kd.C_drewN ?_ _) | (with_reducible refine Kd.C_drew ?_)))
             (case aB => exact hb_)
             (case aF => exact (fun k_ hk => Kd.fresh' (Kd.R_lt (kR_ HO703.out)) k_ hk))
             (case aO => exact (by refine kR_ ?_; exact Kd.R_mono HO693.out (fun _ hk => hk.2)))
             (case aS => exact (below_size hb_))
             (case aL => have := LMc32.out; omega)
             intro v699 w44 ho hb hg hat
             rw [← Ny698.out] at ho
             have n0_ := Aside0.mk (Kd.R_after (ok := (fun _ => True)) (kR_ HO703.out) hg hat)
             have n1_ := Aside0.mk (hb)
             have n2_ := Aside0.mk (ho)
             clear HO703
             clear HB
             clear HO693
             have HO703 := n0_
             have HB := n1_
             have HO700 := n2_
             clear n0_ n1_ n2_
             clear ho hb hg hat
             refine hK.out _ _ trivial (fun hHeld => ?_)
             clear hK K
             refine norm_ (a' := ?_) ?_ ?_
             rotate_left
             ·show Act.put _ (some 81) _ = _
              simp only [Act.put, List.setIfInBounds_toArray, List.set_cons_zero, List.set_cons_succ, i64_w, i32_w]
              rfl
             exact norm_ (by simp only [putAll, Act.put, List.setIfInBounds_toArray, List.set_cons_zero, List.set_cons_succ]) (hCont (v692, v699, v702) _ ⟨(kR_ HO700.out), (by refine kR_ ?_; exact Kd.R_mono HO703.out (fun _ hk => hk.2)), hb_⟩)
           ·skip
            refine Kd.R_lit_step k65 _ 65 ?hg (N := 85) ?hd (xs := ([(⟨t675, a1⟩ : S65)] : List (S65))) (inner := [.int .i64 t675, .string a1]) (ok := fun _ => True) (okp := fun _ => True) ?hr ?hp (fun _ hk => hk) trivial (Below.refl _ _) (Nat.le_refl _) (by simp) ?_; (case hd => rfl); (case hg => rfl); (case hr => first | (go_simp; done) | (go_simp; rfl)); (case hp => exact (Reps.c2 (show Kd.M k65 _ _ _ (⟨t675, a1⟩ : S65) [.int .i64 t675, .string a1] from (k65_mkM _ _ _ (⟨t675, a1⟩ : S65) )) (Reps.none _ _)))
            intro v702 w40 ho41 hb hg_ hnew_
            clear hg_ hnew_
            (first | rw [← Ny701.out] at ho41 | (simp only [Int.reduceToNat] at ho41; rw [← Ny701.out] at ho41))
            have HO703 := Aside0.mk (Kd.R_lower ho41 (below_size hb_))
            replace HB := Aside0.mk (below_step hb_ hb)
            clear hb ho41
            refine hK.out _ _ trivial (fun hHeld => ?_)
            clear hK K
            refine norm_ (a' := ?_) ?_ ?_
            rotate_left
            ·show Act.put _ (some 85) _ = _
             simp only [Act.put, List.setIfInBounds_toArray, List.set_cons_zero, List.set_cons_succ, i64_w, i32_w]
             rfl
            refine one_ (i := 0) (N := some 77) (tb_ 18 24047) rfl rfl (one_of HT_.out (by kernel_rfl)) (by decide) (fun K hK => ?_)
            refine Kd.R_lit_step k65 _ 65 ?hg (N := 77) ?hd (xs := ([] : List (S65))) (inner := []) (ok := fun _ => True) (okp := fun _ => True) ?hr ?hp (fun _ hk => hk) trivial (Below.refl _ _) (Nat.le_refl _) (by simp) ?_; (case hd => rfl); (case hg => rfl); (case hr => first | (go_simp; done) | (go_simp; rfl)); (case hp => exact (Reps.none _ _))
            intro v692 w42 ho43 hb hg_ hnew_
            clear hg_ hnew_
            (first | rw [← Ny691.out] at ho43 | (simp only [Int.reduceToNat] at ho43; rw [← Ny691.out] at ho43))
            have HO693 := Aside0.mk (Kd.R_lower (Kd.R_new' ho43 (Kd.R_lt (kR_ HO703.out))) (below_size hb_))
            replace HO703 := Aside0.mk (Kd.R_elder' (kR_ HO703.out) (Kd.R_base ho43) hb)
            replace HB := Aside0.mk (below_step hb_ hb)
            clear hb ho43
            refine hK.out _ _ trivial (fun hHeld => ?_)
            clear hK K
            refine norm_ (a' := ?_) ?_ ?_
            rotate_left
            ·show Act.put _ (some 77) _ = _
             simp only [Act.put, List.setIfInBounds_toArray, List.set_cons_zero, List.set_cons_succ, i64_w, i32_w]
             rfl
            refine one_ (i := 4) (N := some 81) (tb_ 18 24063) rfl rfl (one_of HT_.out (by kernel_rfl)) (by decide) (fun K hK => ?_)
            refine Kd.R_append_rows_step k65 (w0 := w) w.heap.size (by rfl) (.tmp 77) (.tmp 80) 51 65 (.agg #[(.int .i64 0), (.string ⟨#[]⟩)]) 24 rfl Try.underlying51 info65 rfl (by decide) (by omega) v692 y691 y694 _ _ _ (fun k_ => some k_ ≠ (v702 : Value).ownBlock) (fun _ => False) rfl rfl ?aO ?aR (fun _ _ h => h) (fun _ h => h.elim) ?aF ?aB ?aS ?aL ?_
            (case aR => repeat (first | exact (Kd.C_below HR697.out HB.out) | (with_reducible refine Kd.C_alloc ?_ _) | (with_reducible refine Kd.C_drewN ?_ _) | (with_reducible refine Kd.C_drew ?_)))
            (case aB => exact hb_)
            (case aF => exact (fun k_ hk => Kd.fresh' (Kd.R_lt (kR_ HO703.out)) k_ hk))
            (case aO => exact (by refine kR_ ?_; exact Kd.R_mono HO693.out (fun _ hk => hk.2)))
            (case aS => exact (below_size hb_))
            (case aL => have := LMc32.out; omega)
            intro v699 w44 ho hb hg hat
            rw [← Ny698.out] at ho
            have n0_ := Aside0.mk (Kd.R_after (ok := (fun _ => True)) (kR_ HO703.out) hg hat)
            have n1_ := Aside0.mk (hb)
            have n2_ := Aside0.mk (ho)
            clear HO703
            clear HB
            clear HO693
            have HO703 := n0_
            have HB := n1_
            have HO700 := n2_
            clear n0_ n1_ n2_
            clear ho hb hg hat
            refine hK.out _ _ trivial (fun hHeld => ?_)
            clear hK K
            refine norm_ (a' := ?_) ?_ ?_
            rotate_left
            ·show Act.put _ (some 81) _ = _
             simp only [Act.put, List.setIfInBounds_toArray, List.set_cons_zero, List.set_cons_succ, i64_w, i32_w]
             rfl
            exact norm_ (by simp only [putAll, Act.put, List.setIfInBounds_toArray, List.set_cons_zero, List.set_cons_succ]) (hCont (v692, v699, v702) _ ⟨(kR_ HO700.out), (by refine kR_ ?_; exact Kd.R_mono HO703.out (fun _ hk => hk.2)), hb_⟩)
          rintro ⟨v692, v699, v702⟩ w45 ⟨h0_, h1_, h2_⟩
          have n0_ : Aside0 (Kd.R k65 65 w45 w.heap.size (fun k_ => some k_ ≠ (v702 : Value).ownBlock) v699 y698) := ⟨h0_⟩
          have n1_ : Aside0 (Kd.R k65 65 w45 w.heap.size (fun k_ => some k_ ≠ (v699 : Value).ownBlock) v702 y701) := ⟨h1_⟩
          have n2_ : Aside0 (Below w.heap.size w w45) := ⟨h2_⟩
          clear HB
          clear h0_ h1_ h2_
          have HO700 := n0_
          have HO703 := n1_
          have HB := n2_
          clear n0_ n1_ n2_
          have hHeld := trivial
          obtain ⟨Ao47, co47, eo47⟩ := Kd.R_slice HO703.out
          (first | subst eo47 | (injection eo47 with f1_ f2_ f3_; have f4_ := f1_.symm; have f5_ := f3_.symm; clear f1_ f2_ f3_; subst f4_; subst f5_))
          refine norm_ (a' := ?_) ?_ ?_
          rotate_left
          ·simp only [putAll, Act.put, List.setIfInBounds_toArray, List.set_cons_zero, List.set_cons_succ]
           rfl
          refine one_ (i := 9) (N := some 86) (tb_ 18 24575) rfl rfl (one_of HT_.out (by kernel_rfl)) (by decide) (fun K hK => ?_)
          refine Kd.R_append_rows_step k65 (w0 := w) w.heap.size (by rfl) (.tmp 81) (.tmp 85) 51 65 (.agg #[(.int .i64 0), (.string ⟨#[]⟩)]) 24 rfl Try.underlying51 info65 rfl (by decide) (by omega) v699 y698 y701 _ _ _ (fun k_ => some k_ ≠ (.slice Ao47 y701.length co47 : Value).ownBlock) (fun _ => False) rfl rfl ?aO ?aR (fun _ _ h => h) (fun _ h => h.elim) ?aF ?aB ?aS ?aL ?_
          (case aR => repeat (first | exact (Kd.R_reads' HO703.out).2.2 | (with_reducible refine Kd.C_alloc ?_ _) | (with_reducible refine Kd.C_drewN ?_ _) | (with_reducible refine Kd.C_drew ?_)))
          (case aB => exact hb_)
          (case aF => exact (fun k_ hk => Kd.fresh' (Kd.R_lt (kR_ HO703.out)) k_ hk))
          (case aO => exact (kR_ HO700.out))
          (case aS => exact (below_size hb_))
          (case aL => have := LMc33.out; omega)
          intro v705 w46 ho hb hg hat
          rw [← Ny704.out] at ho
          have n0_ := Aside0.mk (Kd.R_after (ok := (fun _ => True)) (by refine kR_ ?_; exact Kd.R_mono HO703.out (fun _ hk => ⟨trivial, hk⟩)) hg hat)
          have n1_ := Aside0.mk (hb)
          have n2_ := Aside0.mk (ho)
          clear HO703
          clear HB
          clear HO700
          have HO703 := n0_
          have HB := n1_
          have HO706 := n2_
          clear n0_ n1_ n2_
          clear ho hb hg hat
          refine hK.out _ _ trivial (fun hHeld => ?_)
          clear hK K
          refine norm_ (a' := ?_) ?_ ?_
          rotate_left
          ·show Act.put _ (some 86) _ = _
           simp only [Act.put, List.setIfInBounds_toArray, List.set_cons_zero, List.set_cons_succ, i64_w, i32_w]
           rfl
          refine one_ (i := 13) (N := some 90) (tf_ 15 3) rfl rfl (one_of HT_.out (by kernel_rfl)) (by decide) (fun K hK => ?_)
          refine Kd.R_append_rows_step k65 (w0 := w) w.heap.size (by rfl) (.tmp 86) (.tmp 89) 51 65 (.agg #[(.int .i64 0), (.string ⟨#[]⟩)]) 24 rfl Try.underlying51 info65 rfl (by decide) (by omega) v705 y704 y707 _ _ _ (fun k_ => some k_ ≠ (.slice Ao47 y701.length co47 : Value).ownBlock) (fun _ => False) rfl rfl ?aO ?aR (fun _ _ h => h) (fun _ h => h.elim) ?aF ?aB ?aS ?aL ?_
          (case aR => repeat (first | exact (Kd.C_below HR710.out HB.out) | (with_reducible refine Kd.C_alloc ?_ _) | (with_reducible refine Kd.C_drewN ?_ _) | (with_reducible refine Kd.C_drew ?_)))
          (case aB => exact hb_)
          (case aF => exact (fun k_ hk => Kd.fresh' (Kd.R_lt (kR_ HO703.out)) k_ hk))
          (case aO => exact (kR_ HO706.out))
          (case aS => exact (below_size hb_))
          (case aL => have := LMc36.out; omega)
          intro v712 w48 ho hb hg hat
          rw [← Ny711.out] at ho
          have n0_ := Aside0.mk (Kd.R_after (ok := (fun _ => True)) (kR_ HO703.out) hg hat)
          have n1_ := Aside0.mk (hb)
          have n2_ := Aside0.mk (ho)
          clear HO703
          clear HB
          clear HO706
          have HO703 := n0_
          have HB := n1_
          have HO713 := n2_
          clear n0_ n1_ n2_
          clear ho hb hg hat
          refine hK.out _ _ trivial (fun hHeld => ?_)
          clear hK K
          refine norm_ (a' := ?_) ?_ ?_
          rotate_left
          ·show Act.put _ (some 90) _ = _
           simp only [Act.put, List.setIfInBounds_toArray, List.set_cons_zero, List.set_cons_succ, i64_w, i32_w]
           rfl
          refine paA_ 15 4 16 2 ?_
          refine paA_ 16 5 17 1 ?_
          refine paA_ 17 6 18 0 ?_
          refine done_ (done_of HT_.out (by kernel_rfl)) ?_
          try go_wp2
          go_ret3
          exact ⟨_, er_, by refine kR_ ?_; exact Kd.R_mono HO713.out (fun _ hk => trivial), hb_⟩
 ·replace c4 := Bool.eq_false_iff.mpr c4
  subst c4
  have H1 : (some ((([] : List (S65))), (-1), false)) = some (r1, r2, r3) := by rw [if_neg (show ¬ (false = true) by decide)] at H; exact H
  clear H
  have H := H1
  clear H1
  obtain ⟨y672, hy672⟩ : ∃ y_ : List (S65), y_ = (([] : List (S65))) := ⟨_, rfl⟩
  replace H : (some (y672, (-1), false)) = some (r1, r2, r3) := hq_ hy672 H
  have Ny672 := Aside0.mk hy672
  clear hy672
  simp only [Option.some.injEq, Prod.mk.injEq] at H
  obtain ⟨rfl, rfl, rfl⟩ := H
  go_enter Try.func57, Try.ntmps57
  go_wp2_with (first | ((with_reducible refine gate_callee (f := 83) rfl ?_); refine gl_ (some 11) Try.func83 #[.slice A0 l0.length c0] ?_; (with_reducible refine (spec_StoreValid.calls k _ _ l0 false _ ?side1 ?side2 A3.out).mono ?_); (case side1 => exact kC_ HR0.out); (case side2 => exact HC0.out); rintro e w49 ⟨rfl, hb⟩; refine ⟨_, rfl, ?_⟩; replace HB := Aside0.mk (below_step hb_ hb); (try clear hb); (try clear hk)) | ((with_reducible refine gate_dst (N := 13) rfl ?_); (try (refine gate_guard (by rfl) ?_; dsimp only)); refine Kd.R_lit k65 _ 65 ?hg (N := 13) ?hd (xs := ([] : List (S65))) (inner := []) (ok := fun _ => True) (okp := fun _ => True) ?hr ?hp (fun _ hk => hk) trivial (Below.refl _ _) (Nat.le_refl _) (by simp) ?_; (case hd => rfl); (case hg => rfl); (case hr => first | (go_simp; done) | (go_simp; rfl)); (case hp => exact (Reps.none _ _)); intro v673 w50 ho51 hb hg_ hnew_; clear hg_ hnew_; (first | rw [← Ny672.out] at ho51 | (simp only [Int.reduceToNat] at ho51; rw [← Ny672.out] at ho51)); have HO674 := Aside0.mk (Kd.R_lower ho51 (below_size hb_)); replace HB := Aside0.mk (below_step hb_ hb); clear hb ho51))
  go_ret3
  exact ⟨_, er_, by refine kR_ ?_; exact HO674.out, hb_⟩
/-! ### impl_PrintOf: function 52 -/
def impl_PrintOf.l0 : Nat → ByteArray → Int → Int → Option (Int)
 | 0, _, _, _ => none
 | k + 1, x0, x3, x4 => if x4 < (x0.size : Int) then (if 0 ≤ x4 then (impl_PrintOf.l0 k x0 (Int.tmod (wrap64 ((wrap64 (x3 * 257)) + (wrap64 (bt x0 x4)))) 16777213) (wrap64 (x4 + 1))) else (none)) else (some x3)
def impl_PrintOf.f (k : Nat) (a0 : ByteArray) : Option (Int) := (impl_TextValid.f k a0).bind fun t730 => (if t730 = true then (impl_PrintOf.l0 k a0 1 0) else (some (-1)))
set_option maxHeartbeats 8000000 in
set_option maxRecDepth 100000 in
theorem impl_PrintOf.calls (k : Nat) (a0 : ByteArray) (r : Int) (w : World) (h : impl_PrintOf.f k a0 = some r) :
  Calls Try.prog 52 #[.string a0] w fun e w' => e = .returned (.int .i64 r) ∧ Drawn0 w w' := by
 have H : ((impl_TextValid.f k a0).bind fun t730 => (if t730 = true then (impl_PrintOf.l0 k a0 1 0) else (some (-1)))) = some r := h
 clear h
 replace H := Option.bind_eq_some_iff.mp H
 obtain ⟨t730, A20, H⟩ := H
 replace H : (if t730 = true then (impl_PrintOf.l0 k a0 1 0) else (some (-1))) = some r := H
 have A2 := Aside0.mk A20
 clear A20
 by_cases c3 : t730 = true
 ·subst c3
  have H1 : (impl_PrintOf.l0 k a0 1 0) = some r := by rw [if_pos rfl] at H; exact H
  clear H
  have H := H1
  clear H1
  have H' := Aside0.mk H
  clear H
  go_enter Try.func52, Try.ntmps52
  go_wp2_with (first | ((with_reducible refine gate_callee (f := 68) rfl ?_); refine gl_ (some 6) Try.func68 #[.string a0] ?_; (with_reducible refine (impl_TextValid.calls k a0 true _ A2.out).mono ?_); rintro e w' ⟨rfl, ⟨nd, rfl⟩⟩; refine ⟨_, rfl, ?_⟩))
  go_loopg [3, 4] k (fun kq v3 v4 w' => ∃ (x3_1 : Int) (x4_1 : Int), v3 = .int .i64 x3_1 ∧ v4 = .int .i64 x4_1 ∧ Aside0 (impl_PrintOf.l0 kq a0 x3_1 x4_1 = some r) ∧ Aside0 (kq ≤ k) ∧ Drawn0 w w')
  case atStart => exact ⟨(1), (0), rs_, rs_, H', ⟨Nat.le_refl _⟩, dw_⟩
  case round =>
   clear H'
   try clear p2
   try clear c3
   obtain ⟨x3_1, x4_1, rfl, rfl, HA, HK1, ⟨m1, rfl⟩⟩ := hrel
   cases gk with
   | zero => exact absurd HA.out (by simp [impl_PrintOf.l0])
   | succ k1 =>
    have H := HA.out
    clear HA
    simp only [impl_PrintOf.l0] at H
    by_cases c4 : x4_1 < (a0.size : Int)
    ·rw [if_pos c4] at H
     have c4b0 : decide (x4_1 < (a0.size : Int)) = true := decide_eq_true c4
     clear c4
     by_cases c5 : 0 ≤ x4_1; rotate_left
     ·rw [if_neg c5] at H; exact absurd H (by simp)
     rw [if_pos c5] at H
     have c5b0 : decide (0 ≤ x4_1) = true := decide_eq_true c5
     clear c5
     have H' := Aside0.mk H
     clear H
     have p6 : 0 ≤ (x4_1 : Int) := dt_
     have q6 : x4_1 < (a0.size : Int) := dt_
     have hx6 := bt_at a0 x4_1
     replace p6 := eq_true p6
     replace q6 := eq_true q6
     go_wp2
     go_roundg k1
     case measure => have := HK1.out; omega
     case rel => exact ⟨(Int.tmod (wrap64 ((wrap64 (x3_1 * 257)) + (wrap64 (bt a0 x4_1)))) 16777213), (wrap64 (x4_1 + 1)), rs_, rs_, H', ⟨by have := HK1.out; omega⟩, dw_⟩
    ·rw [if_neg c4] at H
     have c4b0 : decide (x4_1 < (a0.size : Int)) = false := decide_eq_false c4
     clear c4
     obtain rfl := Option.some.inj H
     go_wp2
     go_ret
     exact ⟨rs_, dw_⟩
 ·replace c3 := Bool.eq_false_iff.mpr c3
  subst c3
  have H1 : (some (-1)) = some r := by rw [if_neg (show ¬ (false = true) by decide)] at H; exact H
  clear H
  have H := H1
  clear H1
  obtain rfl := Option.some.inj H
  go_enter Try.func52, Try.ntmps52
  go_wp2_with (first | ((with_reducible refine gate_callee (f := 68) rfl ?_); refine gl_ (some 6) Try.func68 #[.string a0] ?_; (with_reducible refine (impl_TextValid.calls k a0 false _ A2.out).mono ?_); rintro e w' ⟨rfl, ⟨nd, rfl⟩⟩; refine ⟨_, rfl, ?_⟩))
  go_ret
  exact ⟨rs_, dw_⟩
/-! ### impl_StoreValid: function 53 -/
mutual
def impl_StoreValid.l0 : Nat → List (S65) → List (S65) → Int → Int → Option (Bool)
 | 0, _, _, _, _ => none
 | k + 1, x0, x8, x9, x10 => if x10 < x9 then (if 0 ≤ x10 then (if x10 < (x8.length : Int) then ((impl_TextValid.f k ((rd_T65 x8 x10).f1)).bind fun t733 => (if t733 = true then ((impl_PrintOf.f k ((rd_T65 x8 x10).f1)).bind fun t734 => (impl_StoreValid.j1 k x0 x10 x8 x9 x10 (((rd_T65 x8 x10).f0) != t734) ((rd_T65 x8 x10).f0) ((rd_T65 x8 x10).f1))) else (impl_StoreValid.j1 k x0 x10 x8 x9 x10 true ((rd_T65 x8 x10).f0) ((rd_T65 x8 x10).f1)))) else (none)) else (none)) else (some true)
def impl_StoreValid.j1 : Nat → List (S65) → Int → List (S65) → Int → Int → Bool → Int → ByteArray → Option (Bool)
 | 0, _, _, _, _, _, _, _, _ => none
 | k + 1, x0, x3, x8, x9, x10, x26, x733000, x733001 => if x26 = true then (some false) else (if x3 > 0 then (if 0 ≤ (wrap64 (x3 - 1)) then (if (wrap64 (x3 - 1)) < (x0.length : Int) then (if ((rd_T65 x0 (wrap64 (x3 - 1))).f0) ≥ x733000 then (some false) else (impl_StoreValid.l0 k x0 x8 x9 (wrap64 (x10 + 1)))) else (none)) else (none)) else (impl_StoreValid.l0 k x0 x8 x9 (wrap64 (x10 + 1))))
end
def impl_StoreValid.f (k : Nat) (l0 : List (S65)) : Option (Bool) := if (l0.length : Int) > 40 then (some false) else (impl_StoreValid.l0 k l0 l0 (l0.length : Int) 0)
set_option maxHeartbeats 8000000 in
set_option maxRecDepth 100000 in
theorem impl_StoreValid.calls (k : Nat) (A0 : Option Addr) (c0 : Nat) (l0 : List (S65)) (r : Bool) (w : World) (hr0 : Kd.C k65 w A0 l0.length l0) (hc0 : l0.length ≤ c0) (h : impl_StoreValid.f k l0 = some r) :
  Calls Try.prog 53 #[.slice A0 l0.length c0] w fun e w' => e = .returned (.bool r) ∧ Below w.heap.size w w' := by
 have hu65 := Try.underlying65
 have HR0 := Aside0.mk hr0
 have HC0 := Aside0.mk hc0
 clear hr0 hc0
 have HB := Aside0.mk (Below.refl w.heap.size w)
 have H : (if (l0.length : Int) > 40 then (some false) else (impl_StoreValid.l0 k l0 l0 (l0.length : Int) 0)) = some r := h
 clear h
 by_cases c2 : (l0.length : Int) > 40
 ·rw [if_pos c2] at H
  have c2b0 : decide (40 < (l0.length : Int)) = true := decide_eq_true c2
  have c2b1 : decide (40 < l0.length) = true := decide_eq_true (by omega)
  clear c2
  obtain rfl := Option.some.inj H
  go_enter Try.func53, Try.ntmps53
  go_wp2
  repeat (go_quiet (fail); try go_wp2)
  go_ret
  exact ⟨er_, hb_⟩
 ·rw [if_neg c2] at H
  have c2b0 : decide (40 < (l0.length : Int)) = false := decide_eq_false c2
  have c2b1 : decide (40 < l0.length) = false := decide_eq_false (by omega)
  clear c2
  have H' := Aside0.mk H
  clear H
  go_enter Try.func53, Try.ntmps53
  go_wp2
  repeat (go_quiet (fail); try go_wp2)
  go_loopg [10] k (fun kq v10 w' => ∃ (x10_1 : Int), v10 = .int .i64 x10_1 ∧ Aside0 (impl_StoreValid.l0 kq l0 l0 (l0.length : Int) x10_1 = some r) ∧ Aside0 (kq ≤ k) ∧ Aside0 (Below w.heap.size w w'))
  case atStart => exact ⟨(0), rs_, H', ⟨Nat.le_refl _⟩, ⟨hb_⟩⟩
  case round =>
   clear H'
   try clear c2
   try clear c2b0
   try clear c2b1
   try clear p2
   obtain ⟨x10_1, rfl, HA, HK1, HB⟩ := hrel
   cases gk with
   | zero => exact absurd HA.out (by simp [impl_StoreValid.l0])
   | succ k1 =>
    have H := HA.out
    clear HA
    simp only [impl_StoreValid.l0] at H
    by_cases c3 : x10_1 < (l0.length : Int)
    ·rw [if_pos c3] at H
     have c3b0 : decide (x10_1 < (l0.length : Int)) = true := decide_eq_true c3
     clear c3
     by_cases c4 : 0 ≤ x10_1; rotate_left
     ·rw [if_neg c4] at H; exact absurd H (by simp)
     rw [if_pos c4] at H
     have c4b0 : decide (0 ≤ x10_1) = true := decide_eq_true c4
     clear c4
     by_cases c5 : x10_1 < (l0.length : Int); rotate_left
     ·rw [if_neg c5] at H; exact absurd H (by simp)
     rw [if_pos c5] at H
     have c5b0 : decide (x10_1 < (l0.length : Int)) = true := decide_eq_true c5
     clear c5
     have HC6 := Aside0.mk H
     clear H
     have p731 : 0 ≤ (x10_1 : Int) := dt_
     have q731 : x10_1 < (l0.length : Int) := dt_
     obtain ⟨ad731, e731, hx731_0, hx731_1⟩ := at_T65 HR0.out x10_1 p731 q731
     cases e731
     replace hx731_0 := cb_ HB.out hx731_0
     replace hx731_1 := cb_ HB.out hx731_1
     replace p731 := eq_true p731
     replace q731 := eq_true q731
     go_upto_region 6 with (first | ((with_reducible refine gate_dst (N := 4) rfl ?_); refine box_event ?hg (N := 4) ?hd (cs := #[.int .i64 0, .string (⟨#[]⟩ : ByteArray)]) (t := 65) ?hr ?_; (case hd => rfl); (case hg => rfl); (case hr => first | (go_simp; done) | (go_simp; rfl)); intro gb732 hg w7 hbox hb; have n0_ := Aside0.mk (below_step hb_ hb); have n1_ := Aside0.mk (hbox); have n2_ := Aside0.mk ((by rw [hg]; exact (below_size hb_) : w.heap.size ≤ gb732)); have n3_ := Aside0.mk ((by rw [hg]; exact (below_size hb_) : w.heap.size ≤ gb732)); clear HB; have HB := n0_; have BK732 := n1_; have GW732 := n2_; have GE732 := n3_; clear n0_ n1_ n2_ n3_; clear hb hbox hg; have hcz8_0 : w7.cell? ⟨gb732, 0, none⟩ = some (.int .i64 0) := (blk_cell BK732.out 0).trans rfl; have hcz8_1 : w7.cell? ⟨gb732, 1, none⟩ = some (.string (⟨#[]⟩ : ByteArray)) := (blk_cell BK732.out 1).trans rfl; have hfz8_0 := blk_frozen BK732.out 0; have hfz8_1 := blk_frozen BK732.out 1))
     repeat (go_quiet (first | ((with_reducible refine gate_dst (N := 4) rfl ?_); refine box_event ?hg (N := 4) ?hd (cs := #[.int .i64 0, .string (⟨#[]⟩ : ByteArray)]) (t := 65) ?hr ?_; (case hd => rfl); (case hg => rfl); (case hr => first | (go_simp; done) | (go_simp; rfl)); intro gb732 hg w7 hbox hb; have n0_ := Aside0.mk (below_step hb_ hb); have n1_ := Aside0.mk (hbox); have n2_ := Aside0.mk ((by rw [hg]; exact (below_size hb_) : w.heap.size ≤ gb732)); have n3_ := Aside0.mk ((by rw [hg]; exact (below_size hb_) : w.heap.size ≤ gb732)); clear HB; have HB := n0_; have BK732 := n1_; have GW732 := n2_; have GE732 := n3_; clear n0_ n1_ n2_ n3_; clear hb hbox hg; have hcz8_0 : w7.cell? ⟨gb732, 0, none⟩ = some (.int .i64 0) := (blk_cell BK732.out 0).trans rfl; have hcz8_1 : w7.cell? ⟨gb732, 1, none⟩ = some (.string (⟨#[]⟩ : ByteArray)) := (blk_cell BK732.out 1).trans rfl; have hfz8_0 := blk_frozen BK732.out 0; have hfz8_1 := blk_frozen BK732.out 1)); go_upto_region 6 with (first | ((with_reducible refine gate_dst (N := 4) rfl ?_); refine box_event ?hg (N := 4) ?hd (cs := #[.int .i64 0, .string (⟨#[]⟩ : ByteArray)]) (t := 65) ?hr ?_; (case hd => rfl); (case hg => rfl); (case hr => first | (go_simp; done) | (go_simp; rfl)); intro gb732 hg w7 hbox hb; have n0_ := Aside0.mk (below_step hb_ hb); have n1_ := Aside0.mk (hbox); have n2_ := Aside0.mk ((by rw [hg]; exact (below_size hb_) : w.heap.size ≤ gb732)); have n3_ := Aside0.mk ((by rw [hg]; exact (below_size hb_) : w.heap.size ≤ gb732)); clear HB; have HB := n0_; have BK732 := n1_; have GW732 := n2_; have GE732 := n3_; clear n0_ n1_ n2_ n3_; clear hb hbox hg; have hcz8_0 : w7.cell? ⟨gb732, 0, none⟩ = some (.int .i64 0) := (blk_cell BK732.out 0).trans rfl; have hcz8_1 : w7.cell? ⟨gb732, 1, none⟩ = some (.string (⟨#[]⟩ : ByteArray)) := (blk_cell BK732.out 1).trans rfl; have hfz8_0 := blk_frozen BK732.out 0; have hfz8_1 := blk_frozen BK732.out 1)))
     (try simp only [Act.put, List.setIfInBounds_toArray, List.set_cons_zero, List.set_cons_succ])
     go_cut [26] (fun v26 wc => ∃ (kq : Nat) (x26_5 : Bool), v26 = .bool x26_5 ∧ Aside0 (impl_StoreValid.j1 kq l0 x10_1 l0 (l0.length : Int) x10_1 x26_5 ((rd_T65 l0 x10_1).f0) ((rd_T65 l0 x10_1).f1) = some r) ∧ Aside0 (kq ≤ k1) ∧ Aside0 (wc.heap[gb732]? = some (.cells #[.int .i64 ((rd_T65 l0 x10_1).f0), .string ((rd_T65 l0 x10_1).f1)] 65 (0, 0))) ∧ Aside0 (Below w.heap.size w wc))
     case first =>
      have H := HC6.out
      clear HC6
      replace H := Option.bind_eq_some_iff.mp H
      obtain ⟨t733, A90, H⟩ := H
      replace H : (if t733 = true then ((impl_PrintOf.f k1 ((rd_T65 l0 x10_1).f1)).bind fun t734 => (impl_StoreValid.j1 k1 l0 x10_1 l0 (l0.length : Int) x10_1 (((rd_T65 l0 x10_1).f0) != t734) ((rd_T65 l0 x10_1).f0) ((rd_T65 l0 x10_1).f1))) else (impl_StoreValid.j1 k1 l0 x10_1 l0 (l0.length : Int) x10_1 true ((rd_T65 l0 x10_1).f0) ((rd_T65 l0 x10_1).f1))) = some r := H
      have A9 := Aside0.mk A90
      clear A90
      by_cases c10 : t733 = true
      ·subst c10
       have H1 : ((impl_PrintOf.f k1 ((rd_T65 l0 x10_1).f1)).bind fun t734 => (impl_StoreValid.j1 k1 l0 x10_1 l0 (l0.length : Int) x10_1 (((rd_T65 l0 x10_1).f0) != t734) ((rd_T65 l0 x10_1).f0) ((rd_T65 l0 x10_1).f1))) = some r := by rw [if_pos rfl] at H; exact H
       clear H
       have H := H1
       clear H1
       replace H := Option.bind_eq_some_iff.mp H
       obtain ⟨t734, A110, H⟩ := H
       replace H : (impl_StoreValid.j1 k1 l0 x10_1 l0 (l0.length : Int) x10_1 (((rd_T65 l0 x10_1).f0) != t734) ((rd_T65 l0 x10_1).f0) ((rd_T65 l0 x10_1).f1)) = some r := H
       have A11 := Aside0.mk A110
       clear A110
       have H' := Aside0.mk H
       clear H
       have hcz12_0 : w7.cell? ⟨gb732, 0, none⟩ = some (.int .i64 0) := (blk_cell BK732.out 0).trans rfl
       have hcz12_1 : w7.cell? ⟨gb732, 1, none⟩ = some (.string (⟨#[]⟩ : ByteArray)) := (blk_cell BK732.out 1).trans rfl
       have hfz12_0 := blk_frozen BK732.out 0
       have hfz12_1 := blk_frozen BK732.out 1
       go_wp2_with (first | (go_at_call 68; (with_reducible refine (impl_TextValid.calls k1 ((rd_T65 l0 x10_1).f1) true _ A9.out).mono ?_); rintro e w' ⟨rfl, ⟨nd, rfl⟩⟩; (try first | exact ⟨rfl, _, World.drewN_drewN _ _ _⟩ | exact ⟨rfl, _, Eq.trans (World.drewN_drewN _ _ _) (congrArg (World.drewN _) (Nat.add_assoc _ _ _))⟩)) | (go_at_call 52; (with_reducible refine (impl_PrintOf.calls k1 ((rd_T65 l0 x10_1).f1) t734 _ A11.out).mono ?_); rintro e w' ⟨rfl, ⟨nd, rfl⟩⟩; (try first | exact ⟨rfl, _, World.drewN_drewN _ _ _⟩ | exact ⟨rfl, _, Eq.trans (World.drewN_drewN _ _ _) (congrArg (World.drewN _) (Nat.add_assoc _ _ _))⟩)))
       repeat (go_quiet (first | (go_at_call 68; (with_reducible refine (impl_TextValid.calls k1 ((rd_T65 l0 x10_1).f1) true _ A9.out).mono ?_); rintro e w' ⟨rfl, ⟨nd, rfl⟩⟩; (try first | exact ⟨rfl, _, World.drewN_drewN _ _ _⟩ | exact ⟨rfl, _, Eq.trans (World.drewN_drewN _ _ _) (congrArg (World.drewN _) (Nat.add_assoc _ _ _))⟩)) | (go_at_call 52; (with_reducible refine (impl_PrintOf.calls k1 ((rd_T65 l0 x10_1).f1) t734 _ A11.out).mono ?_); rintro e w' ⟨rfl, ⟨nd, rfl⟩⟩; (try first | exact ⟨rfl, _, World.drewN_drewN _ _ _⟩ | exact ⟨rfl, _, Eq.trans (World.drewN_drewN _ _ _) (congrArg (World.drewN _) (Nat.add_assoc _ _ _))⟩))); try go_wp2_with (first | (go_at_call 68; (with_reducible refine (impl_TextValid.calls k1 ((rd_T65 l0 x10_1).f1) true _ A9.out).mono ?_); rintro e w' ⟨rfl, ⟨nd, rfl⟩⟩; (try first | exact ⟨rfl, _, World.drewN_drewN _ _ _⟩ | exact ⟨rfl, _, Eq.trans (World.drewN_drewN _ _ _) (congrArg (World.drewN _) (Nat.add_assoc _ _ _))⟩)) | (go_at_call 52; (with_reducible refine (impl_PrintOf.calls k1 ((rd_T65 l0 x10_1).f1) t734 _ A11.out).mono ?_); rintro e w' ⟨rfl, ⟨nd, rfl⟩⟩; (try first | exact ⟨rfl, _, World.drewN_drewN _ _ _⟩ | exact ⟨rfl, _, Eq.trans (World.drewN_drewN _ _ _) (congrArg (World.drewN _) (Nat.add_assoc _ _ _))⟩))))
       go_meet
       case rel => exact ⟨_, ((((rd_T65 l0 x10_1).f0) != t734)), rs_, H', ⟨by have := HK1.out; first | omega | exact Nat.le_refl _⟩, ⟨by (with_reducible repeat (first | refine blk_drewN ?_ _ | refine blk_drew ?_ | refine blk_alloc ?_ _)); refine blk_put (cs := #[.int .i64 ((rd_T65 l0 x10_1).f0), .string (⟨#[]⟩ : ByteArray)]) ?_ 1 _ rfl; (with_reducible repeat (first | refine blk_drewN ?_ _ | refine blk_drew ?_ | refine blk_alloc ?_ _)); refine blk_put (cs := #[.int .i64 0, .string (⟨#[]⟩ : ByteArray)]) ?_ 0 _ rfl; (with_reducible repeat (first | refine blk_drewN ?_ _ | refine blk_drew ?_ | refine blk_alloc ?_ _)); exact BK732.out⟩, ⟨by repeat (first | (with_reducible first | exact HB.out | apply below_alloc | apply pw_below_drewN | apply below_drew1 | refine below_set ?_ GE732.out) | exact HB.out)⟩⟩
      ·replace c10 := Bool.eq_false_iff.mpr c10
       subst c10
       have H1 : (impl_StoreValid.j1 k1 l0 x10_1 l0 (l0.length : Int) x10_1 true ((rd_T65 l0 x10_1).f0) ((rd_T65 l0 x10_1).f1)) = some r := by rw [if_neg (show ¬ (false = true) by decide)] at H; exact H
       clear H
       have H := H1
       clear H1
       have H' := Aside0.mk H
       clear H
       have hcz13_0 : w7.cell? ⟨gb732, 0, none⟩ = some (.int .i64 0) := (blk_cell BK732.out 0).trans rfl
       have hcz13_1 : w7.cell? ⟨gb732, 1, none⟩ = some (.string (⟨#[]⟩ : ByteArray)) := (blk_cell BK732.out 1).trans rfl
       have hfz13_0 := blk_frozen BK732.out 0
       have hfz13_1 := blk_frozen BK732.out 1
       go_wp2_with (first | (go_at_call 68; (with_reducible refine (impl_TextValid.calls k1 ((rd_T65 l0 x10_1).f1) false _ A9.out).mono ?_); rintro e w' ⟨rfl, ⟨nd, rfl⟩⟩; (try first | exact ⟨rfl, _, World.drewN_drewN _ _ _⟩ | exact ⟨rfl, _, Eq.trans (World.drewN_drewN _ _ _) (congrArg (World.drewN _) (Nat.add_assoc _ _ _))⟩)))
       repeat (go_quiet (first | (go_at_call 68; (with_reducible refine (impl_TextValid.calls k1 ((rd_T65 l0 x10_1).f1) false _ A9.out).mono ?_); rintro e w' ⟨rfl, ⟨nd, rfl⟩⟩; (try first | exact ⟨rfl, _, World.drewN_drewN _ _ _⟩ | exact ⟨rfl, _, Eq.trans (World.drewN_drewN _ _ _) (congrArg (World.drewN _) (Nat.add_assoc _ _ _))⟩))); try go_wp2_with (first | (go_at_call 68; (with_reducible refine (impl_TextValid.calls k1 ((rd_T65 l0 x10_1).f1) false _ A9.out).mono ?_); rintro e w' ⟨rfl, ⟨nd, rfl⟩⟩; (try first | exact ⟨rfl, _, World.drewN_drewN _ _ _⟩ | exact ⟨rfl, _, Eq.trans (World.drewN_drewN _ _ _) (congrArg (World.drewN _) (Nat.add_assoc _ _ _))⟩))))
       go_meet
       case rel => exact ⟨_, (true), rs_, H', ⟨by have := HK1.out; first | omega | exact Nat.le_refl _⟩, ⟨by (with_reducible repeat (first | refine blk_drewN ?_ _ | refine blk_drew ?_ | refine blk_alloc ?_ _)); refine blk_put (cs := #[.int .i64 ((rd_T65 l0 x10_1).f0), .string (⟨#[]⟩ : ByteArray)]) ?_ 1 _ rfl; (with_reducible repeat (first | refine blk_drewN ?_ _ | refine blk_drew ?_ | refine blk_alloc ?_ _)); refine blk_put (cs := #[.int .i64 0, .string (⟨#[]⟩ : ByteArray)]) ?_ 0 _ rfl; (with_reducible repeat (first | refine blk_drewN ?_ _ | refine blk_drew ?_ | refine blk_alloc ?_ _)); exact BK732.out⟩, ⟨by repeat (first | (with_reducible first | exact HB.out | apply below_alloc | apply pw_below_drewN | apply below_drew1 | refine below_set ?_ GE732.out) | exact HB.out)⟩⟩
     case rest =>
      clear HC6
      try clear c1
      try clear c2
      try clear c2b0
      try clear c2b1
      try clear p2
      try clear c3
      try clear c3b0
      try clear c4
      try clear c4b0
      try clear c5
      try clear c5b0
      try clear p7
      try clear q7
      try clear hx7
      try clear c10
      try clear hcz12_0
      try clear hcz12_1
      try clear hcz13_0
      try clear hcz13_1
      try clear hcz8_0
      try clear hcz8_1
      try clear hfz12_0
      try clear hfz12_1
      try clear hfz13_0
      try clear hfz13_1
      try clear hfz8_0
      try clear hfz8_1
      try clear hx731_0
      try clear hx731_1
      try clear p2
      try clear p731
      try clear q731
      obtain ⟨kq, x26_5, rfl, HA, HJ5, BK732, HB⟩ := hcut
      cases kq with
      | zero => exact absurd HA.out (by simp [impl_StoreValid.j1])
      | succ kj5 =>
       have H := HA.out
       clear HA
       simp only [impl_StoreValid.j1] at H
       by_cases c14 : x26_5 = true
       ·subst c14
        have H1 : (some false) = some r := by rw [if_pos rfl] at H; exact H
        clear H
        have H := H1
        clear H1
        obtain rfl := Option.some.inj H
        go_wp2
        repeat (go_quiet (fail); try go_wp2)
        go_ret
        exact ⟨er_, hs_ GE732.out⟩
       ·replace c14 := Bool.eq_false_iff.mpr c14
        subst c14
        have H1 : (if x10_1 > 0 then (if 0 ≤ (wrap64 (x10_1 - 1)) then (if (wrap64 (x10_1 - 1)) < (l0.length : Int) then (if ((rd_T65 l0 (wrap64 (x10_1 - 1))).f0) ≥ ((rd_T65 l0 x10_1).f0) then (some false) else (impl_StoreValid.l0 kj5 l0 l0 (l0.length : Int) (wrap64 (x10_1 + 1)))) else (none)) else (none)) else (impl_StoreValid.l0 kj5 l0 l0 (l0.length : Int) (wrap64 (x10_1 + 1)))) = some r := by rw [if_neg (show ¬ (false = true) by decide)] at H; exact H
        clear H
        have H := H1
        clear H1
        by_cases c15 : x10_1 > 0
        ·rw [if_pos c15] at H
         have c15b0 : decide (0 < x10_1) = true := decide_eq_true c15
         clear c15
         obtain ⟨ji16, hji16⟩ : ∃ j_ : Int, (wrap64 (x10_1 - 1)) = j_ := ⟨_, rfl⟩
         replace H : (if 0 ≤ (ji16) then (if (ji16) < (l0.length : Int) then (if ((rd_T65 l0 (ji16)).f0) ≥ ((rd_T65 l0 x10_1).f0) then (some false) else (impl_StoreValid.l0 kj5 l0 l0 (l0.length : Int) (wrap64 (x10_1 + 1)))) else (none)) else (none)) = some r := by first | (rw [hji16] at H; exact H) | (simp only [hji16] at H ⊢; exact H)
         have hji16w : (IntKind.i64.wrap (x10_1 - 1)) = ji16 := (i64_w _).trans hji16
         by_cases c17 : 0 ≤ (ji16); rotate_left
         ·rw [if_neg c17] at H; exact absurd H (by simp)
         rw [if_pos c17] at H
         have c17b0 : decide (0 ≤ (ji16)) = true := decide_eq_true c17
         clear c17
         by_cases c18 : (ji16) < (l0.length : Int); rotate_left
         ·rw [if_neg c18] at H; exact absurd H (by simp)
         rw [if_pos c18] at H
         have c18b0 : decide ((ji16) < (l0.length : Int)) = true := decide_eq_true c18
         clear c18
         by_cases c19 : ((rd_T65 l0 (ji16)).f0) ≥ ((rd_T65 l0 x10_1).f0)
         ·rw [if_pos c19] at H
          have c19b0 : decide (((rd_T65 l0 x10_1).f0) ≤ ((rd_T65 l0 (ji16)).f0)) = true := decide_eq_true c19
          clear c19
          obtain rfl := Option.some.inj H
          have p735 : 0 ≤ ((ji16) : Int) := dt_
          have q735 : (ji16) < (l0.length : Int) := dt_
          obtain ⟨ad735, e735, hx735_0, hx735_1⟩ := at_T65 HR0.out (ji16) p735 q735
          obtain rfl : ad731 = ad735 := (by injection e735)
          replace hx735_0 := cb_ HB.out hx735_0
          replace hx735_1 := cb_ HB.out hx735_1
          replace p735 := eq_true p735
          replace q735 := eq_true q735
          have hcz20_0 : wc.cell? ⟨gb732, 0, none⟩ = some (.int .i64 ((rd_T65 l0 x10_1).f0)) := (blk_cell BK732.out 0).trans rfl
          have hcz20_1 : wc.cell? ⟨gb732, 1, none⟩ = some (.string ((rd_T65 l0 x10_1).f1)) := (blk_cell BK732.out 1).trans rfl
          have hfz20_0 := blk_frozen BK732.out 0
          have hfz20_1 := blk_frozen BK732.out 1
          go_wp2
          repeat (go_quiet (fail); try go_wp2)
          go_ret
          exact ⟨by first | rfl | (simp [errW_none, errW_some] <;> rfl) | (simp only [← hji16]; first | rfl | (simp [errW_none, errW_some] <;> rfl)) | (simp [*, errW_none, errW_some] <;> rfl), hs_ GE732.out⟩
         ·rw [if_neg c19] at H
          have c19b0 : decide (((rd_T65 l0 x10_1).f0) ≤ ((rd_T65 l0 (ji16)).f0)) = false := decide_eq_false c19
          clear c19
          have H' := Aside0.mk H
          clear H
          have p735 : 0 ≤ ((ji16) : Int) := dt_
          have q735 : (ji16) < (l0.length : Int) := dt_
          obtain ⟨ad735, e735, hx735_0, hx735_1⟩ := at_T65 HR0.out (ji16) p735 q735
          obtain rfl : ad731 = ad735 := (by injection e735)
          replace hx735_0 := cb_ HB.out hx735_0
          replace hx735_1 := cb_ HB.out hx735_1
          replace p735 := eq_true p735
          replace q735 := eq_true q735
          have hcz21_0 : wc.cell? ⟨gb732, 0, none⟩ = some (.int .i64 ((rd_T65 l0 x10_1).f0)) := (blk_cell BK732.out 0).trans rfl
          have hcz21_1 : wc.cell? ⟨gb732, 1, none⟩ = some (.string ((rd_T65 l0 x10_1).f1)) := (blk_cell BK732.out 1).trans rfl
          have hfz21_0 := blk_frozen BK732.out 0
          have hfz21_1 := blk_frozen BK732.out 1
          go_wp2
          repeat (go_quiet (fail); try go_wp2)
          go_roundg kj5
          case measure => have := HK1.out; have := HJ5.out; omega
          case rel => exact ⟨(wrap64 (x10_1 + 1)), rs_, H', ⟨by have := HK1.out; have := HJ5.out; omega⟩, ⟨by repeat (first | (with_reducible first | exact HB.out | apply below_alloc | apply pw_below_drewN | apply below_drew1 | refine below_set ?_ GE732.out) | exact HB.out)⟩⟩
        ·rw [if_neg c15] at H
         have c15b0 : decide (0 < x10_1) = false := decide_eq_false c15
         clear c15
         have H' := Aside0.mk H
         clear H
         go_wp2
         repeat (go_quiet (fail); try go_wp2)
         go_roundg kj5
         case measure => have := HK1.out; have := HJ5.out; omega
         case rel => exact ⟨(wrap64 (x10_1 + 1)), rs_, H', ⟨by have := HK1.out; have := HJ5.out; omega⟩, ⟨by repeat (first | (with_reducible first | exact HB.out | apply below_alloc | apply pw_below_drewN | apply below_drew1 | refine below_set ?_ GE732.out) | exact HB.out)⟩⟩
    ·rw [if_neg c3] at H
     have c3b0 : decide (x10_1 < (l0.length : Int)) = false := decide_eq_false c3
     clear c3
     obtain rfl := Option.some.inj H
     go_wp2
     repeat (go_quiet (fail); try go_wp2)
     go_ret
     exact ⟨er_, hb_⟩
/-! ### slices_Clone_Piece: function 80 (by a text of my own) -/
def slices_Clone_Piece.f (l0 : List (S65)) : Option (List (S65)) := if l0.length * 24 ≤ 140737488355328 then some l0 else none
set_option maxHeartbeats 8000000 in
set_option maxRecDepth 100000 in
theorem slices_Clone_Piece.calls (A0 : Option Addr) (c0 : Nat) (l0 : List (S65)) (r : List (S65)) (w : World) (hr0 : Kd.C k65 w A0 l0.length l0) (hc0 : l0.length ≤ c0) (h : slices_Clone_Piece.f l0 = some r) :
  Calls Try.prog 80 #[.slice A0 l0.length c0] w fun e w' => ∃ v0_ : Value, e = .returned (v0_) ∧ Kd.R k65 65 w' w.heap.size (fun _ => True) v0_ r ∧ Below w.heap.size w w' := by
 unfold slices_Clone_Piece.f at h
 by_cases hbig : l0.length * 24 ≤ 140737488355328
 case neg => rw [if_neg hbig] at h; cases h
 rw [if_pos hbig] at h
 obtain rfl := Option.some.inj h
 clear h
 have q : ∀ (w : World) (a : Option Addr) (n c n' c' : Nat), (binOp .eql 51 (.slice a n c) (.slice none n' c')).run Try.prog w = .ok (.bool a.isNone) w := fun w a n c n' c' => Lib.run_eql_slice_nil w _ _ a n c n' c' Try.underlying51
 cases A0 with
 | none =>
  obtain ⟨rfl, _⟩ := KdW.nil_of_none hr0
  clear hr0
  go_enter Try.func80, Try.ntmps80
  go_wp2
  go_ret
  exact ⟨_, rfl, Kd.R_nil _ _ _ _ _, Below.refl _ _⟩
 | some ad =>
  obtain ⟨inner, hreps, hcell⟩ := ReadsRow.inner_ hr0
  have hn1 := hr0.2.1
  have hl : inner.length = l0.length * 2 := hreps.1
  have h1 : ∀ u ∈ inner, u.oneCell' = true := KdW.reps_one hreps (by decide) (fun _ _ h => Kd.K_one k65 h)
  have A : Aside0 (∀ j u, inner[j]? = some u → w.cell? (ad.add j) = some u) := ⟨hcell⟩
  have RP : Aside0 (Reps (Kd.K k65 w) (Kd.sz k65) l0 inner) := ⟨hreps⟩
  clear hcell hreps hr0
  obtain ⟨i0, hi, hz0, hz1, hz2⟩ := info_parts info65
  go_enter Try.func80, Try.ntmps80
  go_wp2_with (at_builtin; refine wpList_append_own _ rfl _ _ 51 rfl w.heap.size 65 i0 _ 2 24 Try.underlying51 hi hz0 hz1 hz2 rfl (by decide) _ _ _ rfl (World.ownsRow_made w #[] 0 (Nat.le_refl _) (Nat.zero_le _) (by simp)) ad l0.length c0 inner rfl ?qc1 ?qc2 ?qc3 ?qc4 ?qc5 ?qc6 ?_)
  case qc1 => exact hl
  case qc2 => exact fun j u hj => Lib.cell?_alloc_some _ (A.out j u hj)
  case qc3 => exact h1
  case qc4 => rw [Nat.zero_add]; simpa [maxLen] using hn1
  case qc5 => rw [Nat.zero_add]; exact hbig
  case qc6 => simp
  intro v' w1 hown hgrow hnil
  go_wp2
  go_ret
  have hb : Below w.heap.size w w1 := ((Below.refl _ w).alloc (Nat.le_refl _) _).grown hgrow (by simp) (by intro k hk; simp [Value.ownBlock] at hk; omega)
  exact ⟨v', rfl, ⟨fun _ _ => trivial, inner, by exact hown, RP.out.imp_ (fun p c hp => hp)⟩, hb⟩
/-! ### cmp_isNaN_int: function 101 -/
def cmp_isNaN_int.f (a0 : Int) : Option (Bool) := some (a0 != a0)
set_option maxHeartbeats 8000000 in
set_option maxRecDepth 100000 in
theorem cmp_isNaN_int.calls (a0 : Int) (r : Bool) (w : World) (h : cmp_isNaN_int.f a0 = some r) :
  Calls Try.prog 101 #[.int .i64 a0] w fun e w' => e = .returned (.bool r) ∧ Drawn0 w w' := by
 have H : (some (a0 != a0)) = some r := h
 clear h
 obtain rfl := Option.some.inj H
 go_enter Try.func101, Try.ntmps101
 go_wp2
 go_ret
 exact ⟨rs_, dw_⟩
/-! ### cmp_Compare_int: function 93 -/
def cmp_Compare_int.f (a0 : Int) (a1 : Int) : Option (Int) := (cmp_isNaN_int.f a0).bind fun t736 => ((cmp_isNaN_int.f a1).bind fun t737 => (if t736 = true then (if t737 = true then (some 0) else (some (-1))) else (if t737 = true then (some 1) else (if a0 < a1 then (some (-1)) else (if a0 > a1 then (some 1) else (some 0))))))
set_option maxHeartbeats 8000000 in
set_option maxRecDepth 100000 in
theorem cmp_Compare_int.calls (a0 : Int) (a1 : Int) (r : Int) (w : World) (h : cmp_Compare_int.f a0 a1 = some r) :
  Calls Try.prog 93 #[.int .i64 a0, .int .i64 a1] w fun e w' => e = .returned (.int .i64 r) ∧ Drawn0 w w' := by
 have H : ((cmp_isNaN_int.f a0).bind fun t736 => ((cmp_isNaN_int.f a1).bind fun t737 => (if t736 = true then (if t737 = true then (some 0) else (some (-1))) else (if t737 = true then (some 1) else (if a0 < a1 then (some (-1)) else (if a0 > a1 then (some 1) else (some 0))))))) = some r := h
 clear h
 replace H := Option.bind_eq_some_iff.mp H
 obtain ⟨t736, A30, H⟩ := H
 replace H : ((cmp_isNaN_int.f a1).bind fun t737 => (if t736 = true then (if t737 = true then (some 0) else (some (-1))) else (if t737 = true then (some 1) else (if a0 < a1 then (some (-1)) else (if a0 > a1 then (some 1) else (some 0)))))) = some r := H
 have A3 := Aside0.mk A30
 clear A30
 replace H := Option.bind_eq_some_iff.mp H
 obtain ⟨t737, A40, H⟩ := H
 replace H : (if t736 = true then (if t737 = true then (some 0) else (some (-1))) else (if t737 = true then (some 1) else (if a0 < a1 then (some (-1)) else (if a0 > a1 then (some 1) else (some 0))))) = some r := H
 have A4 := Aside0.mk A40
 clear A40
 by_cases c5 : t736 = true
 ·subst c5
  have H1 : (if t737 = true then (some 0) else (some (-1))) = some r := by rw [if_pos rfl] at H; exact H
  clear H
  have H := H1
  clear H1
  by_cases c6 : t737 = true
  ·subst c6
   have H1 : (some 0) = some r := by rw [if_pos rfl] at H; exact H
   clear H
   have H := H1
   clear H1
   obtain rfl := Option.some.inj H
   go_enter Try.func93, Try.ntmps93
   go_wp2_with (first | ((with_reducible refine gate_callee (f := 101) rfl ?_); refine gl_ (some 8) Try.func101 #[.int .i64 a0] ?_; (with_reducible refine (cmp_isNaN_int.calls a0 true _ A3.out).mono ?_); rintro e w' ⟨rfl, ⟨nd, rfl⟩⟩; refine ⟨_, rfl, ?_⟩) | ((with_reducible refine gate_callee (f := 101) rfl ?_); refine gl_ (some 10) Try.func101 #[.int .i64 a1] ?_; (with_reducible refine (cmp_isNaN_int.calls a1 true _ A4.out).mono ?_); rintro e w' ⟨rfl, ⟨nd, rfl⟩⟩; refine ⟨_, rfl, ?_⟩))
   go_ret
   exact ⟨rs_, dw_⟩
  ·replace c6 := Bool.eq_false_iff.mpr c6
   subst c6
   have H1 : (some (-1)) = some r := by rw [if_neg (show ¬ (false = true) by decide)] at H; exact H
   clear H
   have H := H1
   clear H1
   obtain rfl := Option.some.inj H
   go_enter Try.func93, Try.ntmps93
   go_wp2_with (first | ((with_reducible refine gate_callee (f := 101) rfl ?_); refine gl_ (some 8) Try.func101 #[.int .i64 a0] ?_; (with_reducible refine (cmp_isNaN_int.calls a0 true _ A3.out).mono ?_); rintro e w' ⟨rfl, ⟨nd, rfl⟩⟩; refine ⟨_, rfl, ?_⟩) | ((with_reducible refine gate_callee (f := 101) rfl ?_); refine gl_ (some 10) Try.func101 #[.int .i64 a1] ?_; (with_reducible refine (cmp_isNaN_int.calls a1 false _ A4.out).mono ?_); rintro e w' ⟨rfl, ⟨nd, rfl⟩⟩; refine ⟨_, rfl, ?_⟩))
   go_ret
   exact ⟨rs_, dw_⟩
 ·replace c5 := Bool.eq_false_iff.mpr c5
  subst c5
  have H1 : (if t737 = true then (some 1) else (if a0 < a1 then (some (-1)) else (if a0 > a1 then (some 1) else (some 0)))) = some r := by rw [if_neg (show ¬ (false = true) by decide)] at H; exact H
  clear H
  have H := H1
  clear H1
  by_cases c7 : t737 = true
  ·subst c7
   have H1 : (some 1) = some r := by rw [if_pos rfl] at H; exact H
   clear H
   have H := H1
   clear H1
   obtain rfl := Option.some.inj H
   go_enter Try.func93, Try.ntmps93
   go_wp2_with (first | ((with_reducible refine gate_callee (f := 101) rfl ?_); refine gl_ (some 8) Try.func101 #[.int .i64 a0] ?_; (with_reducible refine (cmp_isNaN_int.calls a0 false _ A3.out).mono ?_); rintro e w' ⟨rfl, ⟨nd, rfl⟩⟩; refine ⟨_, rfl, ?_⟩) | ((with_reducible refine gate_callee (f := 101) rfl ?_); refine gl_ (some 10) Try.func101 #[.int .i64 a1] ?_; (with_reducible refine (cmp_isNaN_int.calls a1 true _ A4.out).mono ?_); rintro e w' ⟨rfl, ⟨nd, rfl⟩⟩; refine ⟨_, rfl, ?_⟩))
   go_ret
   exact ⟨rs_, dw_⟩
  ·replace c7 := Bool.eq_false_iff.mpr c7
   subst c7
   have H1 : (if a0 < a1 then (some (-1)) else (if a0 > a1 then (some 1) else (some 0))) = some r := by rw [if_neg (show ¬ (false = true) by decide)] at H; exact H
   clear H
   have H := H1
   clear H1
   by_cases c8 : a0 < a1
   ·rw [if_pos c8] at H
    have c8b0 : decide (a0 < a1) = true := decide_eq_true c8
    clear c8
    obtain rfl := Option.some.inj H
    go_enter Try.func93, Try.ntmps93
    go_wp2_with (first | ((with_reducible refine gate_callee (f := 101) rfl ?_); refine gl_ (some 8) Try.func101 #[.int .i64 a0] ?_; (with_reducible refine (cmp_isNaN_int.calls a0 false _ A3.out).mono ?_); rintro e w' ⟨rfl, ⟨nd, rfl⟩⟩; refine ⟨_, rfl, ?_⟩) | ((with_reducible refine gate_callee (f := 101) rfl ?_); refine gl_ (some 10) Try.func101 #[.int .i64 a1] ?_; (with_reducible refine (cmp_isNaN_int.calls a1 false _ A4.out).mono ?_); rintro e w' ⟨rfl, ⟨nd, rfl⟩⟩; refine ⟨_, rfl, ?_⟩))
    go_ret
    exact ⟨rs_, dw_⟩
   ·rw [if_neg c8] at H
    have c8b0 : decide (a0 < a1) = false := decide_eq_false c8
    clear c8
    by_cases c9 : a0 > a1
    ·rw [if_pos c9] at H
     have c9b0 : decide (a1 < a0) = true := decide_eq_true c9
     clear c9
     obtain rfl := Option.some.inj H
     go_enter Try.func93, Try.ntmps93
     go_wp2_with (first | ((with_reducible refine gate_callee (f := 101) rfl ?_); refine gl_ (some 8) Try.func101 #[.int .i64 a0] ?_; (with_reducible refine (cmp_isNaN_int.calls a0 false _ A3.out).mono ?_); rintro e w' ⟨rfl, ⟨nd, rfl⟩⟩; refine ⟨_, rfl, ?_⟩) | ((with_reducible refine gate_callee (f := 101) rfl ?_); refine gl_ (some 10) Try.func101 #[.int .i64 a1] ?_; (with_reducible refine (cmp_isNaN_int.calls a1 false _ A4.out).mono ?_); rintro e w' ⟨rfl, ⟨nd, rfl⟩⟩; refine ⟨_, rfl, ?_⟩))
     go_ret
     exact ⟨rs_, dw_⟩
    ·rw [if_neg c9] at H
     have c9b0 : decide (a1 < a0) = false := decide_eq_false c9
     clear c9
     obtain rfl := Option.some.inj H
     go_enter Try.func93, Try.ntmps93
     go_wp2_with (first | ((with_reducible refine gate_callee (f := 101) rfl ?_); refine gl_ (some 8) Try.func101 #[.int .i64 a0] ?_; (with_reducible refine (cmp_isNaN_int.calls a0 false _ A3.out).mono ?_); rintro e w' ⟨rfl, ⟨nd, rfl⟩⟩; refine ⟨_, rfl, ?_⟩) | ((with_reducible refine gate_callee (f := 101) rfl ?_); refine gl_ (some 10) Try.func101 #[.int .i64 a1] ?_; (with_reducible refine (cmp_isNaN_int.calls a1 false _ A4.out).mono ?_); rintro e w' ⟨rfl, ⟨nd, rfl⟩⟩; refine ⟨_, rfl, ?_⟩))
     go_ret
     exact ⟨rs_, dw_⟩
/-! ### impl_findPiece_1: function 92 -/
def impl_findPiece_1.f (a0_0 : Int) (a0_1 : ByteArray) (a1 : Int) : Option (Int) := (cmp_Compare_int.f a0_0 a1).bind fun t739 => (some t739)
set_option maxHeartbeats 8000000 in
set_option maxRecDepth 100000 in
theorem impl_findPiece_1.calls (a0_0 : Int) (a0_1 : ByteArray) (a1 : Int) (r : Int) (w : World) (h : impl_findPiece_1.f a0_0 a0_1 a1 = some r) :
  Calls Try.prog 92 #[.agg #[.int .i64 a0_0, .string a0_1], .int .i64 a1] w fun e w' => e = .returned (.int .i64 r) ∧ Below w.heap.size w w' := by
 have hu65 := Try.underlying65
 have HB := Aside0.mk (Below.refl w.heap.size w)
 have H : ((cmp_Compare_int.f a0_0 a1).bind fun t739 => (some t739)) = some r := h
 clear h
 replace H := Option.bind_eq_some_iff.mp H
 obtain ⟨t739, A30, H⟩ := H
 replace H : (some t739) = some r := H
 have A3 := Aside0.mk A30
 clear A30
 obtain rfl := Option.some.inj H
 go_enter Try.func92, Try.ntmps92
 go_wp2_with (first | ((with_reducible refine gate_dst (N := 2) rfl ?_); refine box_event ?hg (N := 2) ?hd (cs := #[.int .i64 a0_0, .string a0_1]) (t := 65) ?hr ?_; (case hd => rfl); (case hg => rfl); (case hr => first | (go_simp; done) | (go_simp; rfl)); intro gb738 hg w4 hbox hb; have n0_ := Aside0.mk (below_step hb_ hb); have n1_ := Aside0.mk (hbox); have n2_ := Aside0.mk ((by rw [hg]; exact (below_size hb_) : w.heap.size ≤ gb738)); have n3_ := Aside0.mk ((by rw [hg]; exact (below_size hb_) : w.heap.size ≤ gb738)); clear HB; have HB := n0_; have BK738 := n1_; have GW738 := n2_; have GE738 := n3_; clear n0_ n1_ n2_ n3_; clear hb hbox hg; have hcz5_0 : w4.cell? ⟨gb738, 0, none⟩ = some (.int .i64 a0_0) := (blk_cell BK738.out 0).trans rfl; have hcz5_1 : w4.cell? ⟨gb738, 1, none⟩ = some (.string a0_1) := (blk_cell BK738.out 1).trans rfl; have hfz5_0 := blk_frozen BK738.out 0; have hfz5_1 := blk_frozen BK738.out 1) | ((with_reducible refine gate_callee (f := 93) rfl ?_); refine gl_ (some 8) Try.func93 #[.int .i64 a0_0, .int .i64 a1] ?_; (with_reducible refine (cmp_Compare_int.calls a0_0 a1 t739 _ A3.out).mono ?_); rintro e w' ⟨rfl, ⟨nd, rfl⟩⟩; refine ⟨_, rfl, ?_⟩))
 go_ret
 exact ⟨er_, hs_ GE738.out⟩
/-! ### impl_findPiece: function 81, with its search and its comparison (by a text of my own) -/
def impl_findPiece.l0 : Nat → List (S65) → Int → Int → Int → Option Int
 | 0, _, _, _, _ => none
 | k + 1, xs, t, i, j => if i < j then (if 0 ≤ i then (if j ≤ (xs.length : Int) ∧ (xs.length : Int) ≤ 4611686018427387903 then ((impl_findPiece_1.f (rd_T65 xs ((i + j) / 2)).f0 (rd_T65 xs ((i + j) / 2)).f1 t).bind fun c => (if c < 0 then impl_findPiece.l0 k xs t ((i + j) / 2 + 1) j else impl_findPiece.l0 k xs t i ((i + j) / 2))) else none) else none) else some i
def impl_findPiece.f (k : Nat) (xs : List (S65)) (t : Int) : Option (Int × Bool) := (impl_findPiece.l0 k xs t 0 (xs.length : Int)).bind fun i => (if 0 ≤ i then (if i < (xs.length : Int) then ((impl_findPiece_1.f (rd_T65 xs i).f0 (rd_T65 xs i).f1 t).bind fun c => some (i, c == 0)) else some (i, false)) else none)
set_option maxHeartbeats 8000000 in
set_option maxRecDepth 100000 in
theorem impl_findPiece.search (k : Nat) (A0 : Option Addr) (c0 : Nat) (l0 : List (S65)) (t : Int) (r1 : Int) (r2 : Bool) (w : World) (hr0 : Kd.C k65 w A0 l0.length l0) (hc0 : l0.length ≤ c0) (h : impl_findPiece.f k l0 t = some (r1, r2)) :
  Calls Try.prog 91 #[.slice A0 l0.length c0, .int .i64 t, .func (.func 92) #[] #[]] w fun e w' => e = .returned (.tuple #[.int .i64 r1, .bool r2]) ∧ Below w.heap.size w w' := by
 have hn := hr0.2.1
 have HR0 := Aside0.mk hr0
 have HC0 := Aside0.mk hc0
 clear hr0 hc0
 have HB := Aside0.mk (Below.refl w.heap.size w)
 unfold impl_findPiece.f at h
 replace h := Option.bind_eq_some_iff.mp h
 obtain ⟨res, hl, hres⟩ := h
 have HL := Aside0.mk hl
 have HE := Aside0.mk hres
 clear hl hres
 go_enter Try.func91, Try.ntmps91
 go_wp2
 go_loopg [9, 10] k (fun kq s9 s10 w' => ∃ (i j : Int), s9 = .int .i64 i ∧ s10 = .int .i64 j ∧ Aside0 (impl_findPiece.l0 kq l0 t i j = some res) ∧ Aside0 (kq ≤ k) ∧ Aside0 (Below w.heap.size w w'))
 case atStart => exact ⟨0, l0.length, rfl, rfl, HL, ⟨Nat.le_refl _⟩, HB⟩
 case round =>
  clear HL HB
  obtain ⟨i, j, rfl, rfl, HA, HK, HB⟩ := hrel
  cases gk with
  | zero => exact absurd HA.out (by simp [impl_findPiece.l0])
  | succ k1 =>
   have H := HA.out
   clear HA
   simp only [impl_findPiece.l0] at H
   by_cases hij : i < j
   ·rw [if_pos hij] at H
    by_cases h0 : 0 ≤ i
    case neg => rw [if_neg h0] at H; cases H
    rw [if_pos h0] at H
    by_cases h1 : j ≤ (l0.length : Int) ∧ (l0.length : Int) ≤ 4611686018427387903
    case neg => rw [if_neg h1] at H; cases H
    rw [if_pos h1] at H
    replace H := Option.bind_eq_some_iff.mp H
    obtain ⟨c, hc, H⟩ := H
    have hw : wrap64 (i + j) = i + j := by unfold wrap64; omega
    obtain ⟨ad, e, hx0, hx1⟩ := at_T65 HR0.out ((i + j) / 2) (by omega) (by omega)
    cases e
    replace hx0 := cb_ HB.out hx0
    replace hx1 := cb_ HB.out hx1
    have HC := Aside0.mk hc
    clear hc
    have lo2 : 0 ≤ (i + j) / 2 := by omega
    have hi2 : (i + j) / 2 < (l0.length : Int) := by omega
    by_cases hcz : c < 0
    ·rw [if_pos hcz] at H
     have HH := Aside0.mk H
     clear H
     go_wp2_with fail
     refine (impl_findPiece_1.calls _ _ _  c _ HC.out).mono ?_
     rintro e w' ⟨rfl, hb⟩
     have HB2 := Aside0.mk (below_step HB.out hb)
     clear HB hb
     have HB := HB2
     clear HB2
     go_wp2
     go_roundg k1
     case measure => have := HK.out; omega
     case rel => exact ⟨(i + j) / 2 + 1, j, rfl, rfl, HH, ⟨by have := HK.out; omega⟩, HB⟩
    ·rw [if_neg hcz] at H
     have HH := Aside0.mk H
     clear H
     go_wp2_with fail
     refine (impl_findPiece_1.calls _ _ _  c _ HC.out).mono ?_
     rintro e w' ⟨rfl, hb⟩
     have HB2 := Aside0.mk (below_step HB.out hb)
     clear HB hb
     have HB := HB2
     clear HB2
     go_wp2
     go_roundg k1
     case measure => have := HK.out; omega
     case rel => exact ⟨i, (i + j) / 2, rfl, rfl, HH, ⟨by have := HK.out; omega⟩, HB⟩
   ·rw [if_neg hij] at H
    obtain rfl := Option.some.inj H
    have E := HE.out
    clear HE H
    by_cases h0 : 0 ≤ i
    case neg => rw [if_neg h0] at E; cases E
    rw [if_pos h0] at E
    by_cases hin : i < (l0.length : Int)
    ·rw [if_pos hin] at E
     replace E := Option.bind_eq_some_iff.mp E
     obtain ⟨c, hc, E⟩ := E
     obtain ⟨rfl, rfl⟩ := Prod.mk.inj (Option.some.inj E)
     obtain ⟨ad, e, hx0, hx1⟩ := at_T65 HR0.out i h0 hin
     cases e
     replace hx0 := cb_ HB.out hx0
     replace hx1 := cb_ HB.out hx1
     have HC := Aside0.mk hc
     clear hc E
     go_wp2_with fail
     refine (impl_findPiece_1.calls _ _ _  c _ HC.out).mono ?_
     rintro e w' ⟨rfl, hb⟩
     have HB2 := Aside0.mk (below_step HB.out hb)
     clear HB hb
     have HB := HB2
     clear HB2
     go_wp2
     go_ret2
     exact ⟨rfl, HB.out⟩
    ·rw [if_neg hin] at E
     obtain ⟨rfl, rfl⟩ := Prod.mk.inj (Option.some.inj E)
     clear E
     go_wp2
     go_ret2
     exact ⟨rfl, HB.out⟩
set_option maxHeartbeats 4000000 in
theorem impl_findPiece.calls (k : Nat) (A0 : Option Addr) (c0 : Nat) (l0 : List (S65)) (a1 : Int) (r1 : Int) (r2 : Bool) (w : World) (hr0 : Kd.C k65 w A0 l0.length l0) (hc0 : l0.length ≤ c0) (h : impl_findPiece.f k l0 a1 = some (r1, r2)) :
  Calls Try.prog 81 #[.slice A0 l0.length c0, .int .i64 a1] w fun e w' => e = .returned (.tuple #[.int .i64 r1, .bool r2]) ∧ Below w.heap.size w w' := by
 go_enter Try.func81, Try.ntmps81
 go_wp2_with fail
 refine (impl_findPiece.search k _ _ _ _ _ _ _ hr0 hc0 h).mono ?_
 rintro e w' ⟨rfl, hb⟩
 have HB := Aside0.mk hb
 clear hb
 go_wp2
 go_ret2
 exact ⟨rfl, HB.out⟩
end Go.Proofs.Ytcbmkonigclceaa.P
