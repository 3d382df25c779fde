-- The functions of the seat as plain Lean functions, made by the kit's print.py for all laws at once. Not trusted: Lean checks it.
import Derived.Test.YtjgbidklkhohfaaPx0
namespace Go.Proofs.Ytjgbidklkhohfaa.P
open Go.RowKit Go.Proofs.YtjgbidklkhohfaaW.PrintWords Go.Proofs.YtjgbidklkhohfaaW.PrintLast Go.Proofs.YtjgbidklkhohfaaW.PrintMore
attribute [local go_sem] max2_int min2_int max_two min_two max_three min_three max_four min_four   -- for this text's walks alone
set_option linter.unusedVariables false
set_option linter.unusedSimpArgs false
/-! ### spec_StoreValid: function 25 -/
def spec_StoreValid.l0 : Nat → List (S45) → Int → Option (Bool)
 | 0, _, _ => none
 | k + 1, x0, x3 => if x3 < (x0.length : Int) then (if 0 ≤ x3 then ((spec_TextValid.f k ((rd_T45 x0 x3).f1)).bind fun t129 => (if t129 = true then ((spec_PrintOf.f k ((rd_T45 x0 x3).f1)).bind fun t131 => (if t131 = ((rd_T45 x0 x3).f0) then (if x3 > 0 then (if 0 ≤ (wrap64 (x3 - 1)) then (if (wrap64 (x3 - 1)) < (x0.length : Int) then (if ((rd_T45 x0 x3).f0) ≤ ((rd_T45 x0 (wrap64 (x3 - 1))).f0) then (some false) else (spec_StoreValid.l0 k x0 (wrap64 (x3 + 1)))) else (none)) else (none)) else (spec_StoreValid.l0 k x0 (wrap64 (x3 + 1)))) else (some false))) else (some false))) else (none)) else (some (decide ((x0.length : Int) ≤ 40)))
def spec_StoreValid.f (k : Nat) (l0 : List (S45)) : Option (Bool) := spec_StoreValid.l0 k l0 0
theorem spec_StoreValid.mono_l : ∀ k, (∀ y0 y1, LeO (spec_StoreValid.l0 k y0 y1) (spec_StoreValid.l0 (k + 1) y0 y1))
 | 0 => fun _ _ r h => by simp [spec_StoreValid.l0] at h
 | k + 1 => by
  have ih0 := spec_StoreValid.mono_l k
  ·intro y0 y1
   unfold spec_StoreValid.l0
   repeat' first
   | (with_reducible exact ih0 _ _)
   | (with_reducible exact spec_PrintOf.mono _ _)
   | (with_reducible exact spec_TextValid.mono _ _)
   | (with_reducible exact LeO.refl _)
   | (with_reducible exact LeO.none _)
   | (with_reducible refine LeO.ite ?_ ?_)
   | (with_reducible refine LeO.bind ?_ (fun _ => ?_))
   | exact ih0 _ _
   | exact spec_PrintOf.mono _ _
   | exact spec_TextValid.mono _ _
   | exact LeO.none _
   | refine LeO.ite ?_ ?_
   | refine LeO.bind ?_ (fun _ => ?_)
theorem spec_StoreValid.mono : ∀ a0 k, LeO (spec_StoreValid.f k a0) (spec_StoreValid.f (k + 1) a0) := by
 intro a0 k
 have ih0 := spec_StoreValid.mono_l k
 unfold spec_StoreValid.f
 repeat' first
   | (with_reducible exact ih0 _ _)
   | (with_reducible exact spec_PrintOf.mono _ _)
   | (with_reducible exact spec_TextValid.mono _ _)
   | (with_reducible exact LeO.refl _)
   | (with_reducible exact LeO.none _)
   | (with_reducible refine LeO.ite ?_ ?_)
   | (with_reducible refine LeO.bind ?_ (fun _ => ?_))
   | exact ih0 _ _
   | exact spec_PrintOf.mono _ _
   | exact spec_TextValid.mono _ _
   | exact LeO.none _
   | refine LeO.ite ?_ ?_
   | refine LeO.bind ?_ (fun _ => ?_)
def spec_StoreValid.T4 : Bool × List (List Nat × List Nat) := (true, [([], []), ([], []), ([0, 1], [0, 1]), ([2], [2]), ([3], [3]), ([4], [4]), ([5], [5]), ([6, 5], [6]), ([7], [7]), ([7], [7]), ([8, 9, 7], [7, 8, 9]), ([10, 7], [7, 10]), ([11, 7], [7, 11]), ([12, 7, 7], [7, 12]), ([7], [7]), ([7], [7]), ([14, 15, 7], [7, 14, 15]), ([16, 7], [7, 16]), ([17, 7], [7, 17]), ([13, 18, 7], [7, 13, 18]), ([7, 19], [7, 19]), ([20, 13], [20]), ([21], [21]), ([22, 21], [21, 22]), ([23, 21, 21], [21, 23]), ([24], [24]), ([24], [24]), ([25, 26, 24], [24, 25, 26]), ([27, 24], [24, 27]), ([28, 24], [24, 28]), ([24], [24]), ([24], [24]), ([31, 24], [24, 31]), ([30, 32, 24], [24, 30, 32]), ([33, 24], [24, 33]), ([34, 24], [24, 34]), ([29, 35, 24], [24, 29, 35]), ([24, 36, 21], [21, 24, 36]), ([21, 37], [21, 37])])
def spec_StoreValid.B4 : List Nat := [0, 0, 3, 7, 15, 31, 63, 127, 255, 255, 1023, 2047, 4095, 8191, 255, 255, 49407, 114943, 246015, 524287, 1048575, 2097151, 4194303, 8388607, 16777215, 33554431, 33554431, 134217727, 268435455, 536870911, 33554431, 33554431, 2181038079, 7549747199, 16139681791, 33319550975, 68719476735, 137438953471, 274877906943]
theorem spec_StoreValid.tab4 : rtab .any (opsOf Try.f25 4) = spec_StoreValid.T4 := by kernel_rfl
theorem spec_StoreValid.bits4 : waitsOk spec_StoreValid.T4.2 spec_StoreValid.B4 = true := by kernel_rfl
set_option maxHeartbeats 8000000 in
set_option maxRecDepth 100000 in
theorem spec_StoreValid.calls (k : Nat) (A0 : Option Addr) (c0 : Nat) (l0 : List (S45)) (r : Bool) (w : World) (hr0 : Kd.C k45 w A0 l0.length l0) (hc0 : l0.length ≤ c0) (h : spec_StoreValid.f k l0 = some r) :
  Calls Try.prog 25 #[.slice A0 l0.length c0] w fun e w' => e = .returned (.bool r) ∧ Below w.heap.size w w' := by
 have HR0 := Aside0.mk hr0
 have HC0 := Aside0.mk hc0
 clear hr0 hc0
 have HB := Aside0.mk (Below.refl w.heap.size w)
 have H : (spec_StoreValid.l0 k l0 0) = some r := h
 clear h
 have H' := Aside0.mk H
 clear H
 go_enter Try.func25, Try.ntmps25
 go_wp2
 go_loopg [3] k (fun kq v3 w' => ∃ (x3_1 : Int), v3 = .int .i64 x3_1 ∧ Aside0 (spec_StoreValid.l0 kq l0 x3_1 = some r) ∧ Aside0 (kq ≤ k) ∧ Aside0 (Below w.heap.size w w'))
 case atStart => exact ⟨(0), rs_, H', ⟨Nat.le_refl _⟩, ⟨hb_⟩⟩
 case round =>
  clear H'
  obtain ⟨x3_1, rfl, HA, HK1, HB⟩ := hrel
  cases gk with
  | zero => exact absurd HA.out (by simp [spec_StoreValid.l0])
  | succ k1 =>
   have H := HA.out
   clear HA
   simp only [spec_StoreValid.l0] at H
   by_cases c2 : x3_1 < (l0.length : Int)
   ·rw [if_pos c2] at H
    have c2b0 : decide (x3_1 < (l0.length : Int)) = true := decide_eq_true c2
    clear c2
    by_cases c3 : 0 ≤ x3_1; rotate_left
    ·rw [if_neg c3] at H; exact absurd H (by simp)
    rw [if_pos c3] at H
    have c3b0 : decide (0 ≤ x3_1) = true := decide_eq_true c3
    clear c3
    replace H := Option.bind_eq_some_iff.mp H
    obtain ⟨t129, A40, H⟩ := H
    replace H : (if t129 = true then ((spec_PrintOf.f k1 ((rd_T45 l0 x3_1).f1)).bind fun t131 => (if t131 = ((rd_T45 l0 x3_1).f0) then (if x3_1 > 0 then (if 0 ≤ (wrap64 (x3_1 - 1)) then (if (wrap64 (x3_1 - 1)) < (l0.length : Int) then (if ((rd_T45 l0 x3_1).f0) ≤ ((rd_T45 l0 (wrap64 (x3_1 - 1))).f0) then (some false) else (spec_StoreValid.l0 k1 l0 (wrap64 (x3_1 + 1)))) else (none)) else (none)) else (spec_StoreValid.l0 k1 l0 (wrap64 (x3_1 + 1)))) else (some false))) else (some false)) = some r := H
    have A4 := Aside0.mk A40
    clear A40
    by_cases c5 : t129 = true
    ·subst c5
     have H1 : ((spec_PrintOf.f k1 ((rd_T45 l0 x3_1).f1)).bind fun t131 => (if t131 = ((rd_T45 l0 x3_1).f0) then (if x3_1 > 0 then (if 0 ≤ (wrap64 (x3_1 - 1)) then (if (wrap64 (x3_1 - 1)) < (l0.length : Int) then (if ((rd_T45 l0 x3_1).f0) ≤ ((rd_T45 l0 (wrap64 (x3_1 - 1))).f0) then (some false) else (spec_StoreValid.l0 k1 l0 (wrap64 (x3_1 + 1)))) else (none)) else (none)) else (spec_StoreValid.l0 k1 l0 (wrap64 (x3_1 + 1)))) else (some false))) = some r := by rw [if_pos rfl] at H; exact H
     clear H
     have H := H1
     clear H1
     replace H := Option.bind_eq_some_iff.mp H
     obtain ⟨t131, A60, H⟩ := H
     replace H : (if t131 = ((rd_T45 l0 x3_1).f0) then (if x3_1 > 0 then (if 0 ≤ (wrap64 (x3_1 - 1)) then (if (wrap64 (x3_1 - 1)) < (l0.length : Int) then (if ((rd_T45 l0 x3_1).f0) ≤ ((rd_T45 l0 (wrap64 (x3_1 - 1))).f0) then (some false) else (spec_StoreValid.l0 k1 l0 (wrap64 (x3_1 + 1)))) else (none)) else (none)) else (spec_StoreValid.l0 k1 l0 (wrap64 (x3_1 + 1)))) else (some false)) = some r := H
     have A6 := Aside0.mk A60
     clear A60
     by_cases c7 : t131 = ((rd_T45 l0 x3_1).f0)
     ·rw [if_pos c7] at H
      have c7b0 : (t131 == ((rd_T45 l0 x3_1).f0)) = true := beq_iff_eq.mpr c7
      have c7b1 : (t131 != ((rd_T45 l0 x3_1).f0)) = false := bne_eq_false_iff_eq.mpr c7
      clear c7
      by_cases c8 : x3_1 > 0
      ·rw [if_pos c8] at H
       have c8b0 : decide (0 < x3_1) = true := decide_eq_true c8
       clear c8
       obtain ⟨ji9, hji9⟩ : ∃ j_ : Int, (wrap64 (x3_1 - 1)) = j_ := ⟨_, rfl⟩
       replace H : (if 0 ≤ (ji9) then (if (ji9) < (l0.length : Int) then (if ((rd_T45 l0 x3_1).f0) ≤ ((rd_T45 l0 (ji9)).f0) then (some false) else (spec_StoreValid.l0 k1 l0 (wrap64 (x3_1 + 1)))) else (none)) else (none)) = some r := by first | (rw [hji9] at H; exact H) | (simp only [hji9] at H ⊢; exact H)
       (try rw [hji9] at A4)
       (try rw [hji9] at A6)
       have hji9w : (IntKind.i64.wrap (x3_1 - 1)) = ji9 := (i64_w _).trans hji9
       by_cases c10 : 0 ≤ (ji9); rotate_left
       ·rw [if_neg c10] at H; exact absurd H (by simp)
       rw [if_pos c10] at H
       have c10b0 : decide (0 ≤ (ji9)) = true := decide_eq_true c10
       clear c10
       by_cases c11 : (ji9) < (l0.length : Int); rotate_left
       ·rw [if_neg c11] at H; exact absurd H (by simp)
       rw [if_pos c11] at H
       have c11b0 : decide ((ji9) < (l0.length : Int)) = true := decide_eq_true c11
       clear c11
       by_cases c12 : ((rd_T45 l0 x3_1).f0) ≤ ((rd_T45 l0 (ji9)).f0)
       ·rw [if_pos c12] at H
        have c12b0 : decide (((rd_T45 l0 x3_1).f0) ≤ ((rd_T45 l0 (ji9)).f0)) = true := decide_eq_true c12
        clear c12
        obtain rfl := Option.some.inj H
        try go_wp2
        replace HB := Aside0.mk (below_drew1 HB.out)
        have p128 : 0 ≤ (x3_1 : Int) := dt_
        have q128 : x3_1 < (l0.length : Int) := dt_
        obtain ⟨ad128, e128, hx128_0, hx128_1⟩ := at_T45 HR0.out x3_1 p128 q128
        have hw128_1 := hx128_1
        have hw128_0 := hx128_0
        cases e128
        replace hx128_0 := cb_ HB.out hx128_0
        replace hx128_1 := cb_ HB.out hx128_1
        replace p128 := eq_true p128
        replace q128 := eq_true q128
        have p130 : 0 ≤ (x3_1 : Int) := dt_
        have q130 : x3_1 < (l0.length : Int) := dt_
        obtain ⟨ad130, e130, hx130_0, hx130_1⟩ := at_T45 HR0.out x3_1 p130 q130
        have hw130_1 := hx130_1
        have hw130_0 := hx130_0
        obtain rfl : ad128 = ad130 := (by injection e130)
        replace hx130_0 := cb_ HB.out hx130_0
        replace hx130_1 := cb_ HB.out hx130_1
        replace p130 := eq_true p130
        replace q130 := eq_true q130
        have p132 : 0 ≤ (x3_1 : Int) := dt_
        have q132 : x3_1 < (l0.length : Int) := dt_
        obtain ⟨ad132, e132, hx132_0, hx132_1⟩ := at_T45 HR0.out x3_1 p132 q132
        have hw132_1 := hx132_1
        have hw132_0 := hx132_0
        obtain rfl : ad128 = ad132 := (by injection e132)
        replace hx132_0 := cb_ HB.out hx132_0
        replace hx132_1 := cb_ HB.out hx132_1
        replace p132 := eq_true p132
        replace q132 := eq_true q132
        have p133 : 0 ≤ (x3_1 : Int) := dt_
        have q133 : x3_1 < (l0.length : Int) := dt_
        obtain ⟨ad133, e133, hx133_0, hx133_1⟩ := at_T45 HR0.out x3_1 p133 q133
        have hw133_1 := hx133_1
        have hw133_0 := hx133_0
        obtain rfl : ad128 = ad133 := (by injection e133)
        replace hx133_0 := cb_ HB.out hx133_0
        replace hx133_1 := cb_ HB.out hx133_1
        replace p133 := eq_true p133
        replace q133 := eq_true q133
        have p134 : 0 ≤ ((ji9) : Int) := dt_
        have q134 : (ji9) < (l0.length : Int) := dt_
        obtain ⟨ad134, e134, hx134_0, hx134_1⟩ := at_T45 HR0.out (ji9) p134 q134
        have hw134_1 := hx134_1
        have hw134_0 := hx134_0
        obtain rfl : ad128 = ad134 := (by injection e134)
        replace hx134_0 := cb_ HB.out hx134_0
        replace hx134_1 := cb_ HB.out hx134_1
        replace p134 := eq_true p134
        replace q134 := eq_true q134
        refine start_ (n := 39) (S := fun w' => w'.cell? (ad128.add ((x3_1).toNat * 2)) = some (.int .i64 ((rd_T45 l0 x3_1).f0)) ∧ w'.cell? ⟨(ad128.add ((x3_1).toNat * 2)).block, (ad128.add ((x3_1).toNat * 2)).off + 1, none⟩ = some (.string ((rd_T45 l0 x3_1).f1)) ∧ w'.cell? (ad128.add ((x3_1).toNat * 2)) = some (.int .i64 ((rd_T45 l0 x3_1).f0)) ∧ w'.cell? ⟨(ad128.add ((x3_1).toNat * 2)).block, (ad128.add ((x3_1).toNat * 2)).off + 1, none⟩ = some (.string ((rd_T45 l0 x3_1).f1)) ∧ w'.cell? (ad128.add ((x3_1).toNat * 2)) = some (.int .i64 ((rd_T45 l0 x3_1).f0)) ∧ w'.cell? ⟨(ad128.add ((x3_1).toNat * 2)).block, (ad128.add ((x3_1).toNat * 2)).off + 1, none⟩ = some (.string ((rd_T45 l0 x3_1).f1)) ∧ w'.cell? (ad128.add ((x3_1).toNat * 2)) = some (.int .i64 ((rd_T45 l0 x3_1).f0)) ∧ w'.cell? ⟨(ad128.add ((x3_1).toNat * 2)).block, (ad128.add ((x3_1).toNat * 2)).off + 1, none⟩ = some (.string ((rd_T45 l0 x3_1).f1)) ∧ w'.cell? (ad128.add (((ji9)).toNat * 2)) = some (.int .i64 ((rd_T45 l0 (ji9)).f0)) ∧ w'.cell? ⟨(ad128.add (((ji9)).toNat * 2)).block, (ad128.add (((ji9)).toNat * 2)).off + 1, none⟩ = some (.string ((rd_T45 l0 (ji9)).f1))) (ds := []) (tf_ 0 39) (by kernel_rfl) rfl rfl ⟨(cb_ HB.out hw128_0), (cb_ HB.out hw128_1), (cb_ HB.out hw130_0), (cb_ HB.out hw130_1), (cb_ HB.out hw132_0), (cb_ HB.out hw132_1), (cb_ HB.out hw133_0), (cb_ HB.out hw133_1), (cb_ HB.out hw134_0), (cb_ HB.out hw134_1)⟩ (fun hHeld => ?_); refine with_tabW spec_StoreValid.tab4 spec_StoreValid.bits4 (fun HT_ HW_ => ?_)
        generalize wr.drew = w13 at HB hx128_0 hx128_1 hx130_0 hx130_1 hx132_0 hx132_1 hx133_0 hx133_1 hx134_0 hx134_1 hHeld ⊢
        refine paA_ 0 10 1 38 ?_
        refine paA_ 1 11 2 37 ?_
        refine paA_ 2 12 3 36 ?_
        refine paA_ 3 13 4 35 ?_
        refine ta10_ (i := 4) (N := some 14) (tf_ 5 34) ?_
        refine one_ (i := 5) (N := some 15) (tf_ 6 33) rfl rfl (one_of HT_.out (by kernel_rfl)) (by decide) (fun K hK => ?_)
        refine goes_ Try.func40 (by kernel_rfl) rfl #[.string ((rd_T45 l0 x3_1).f1)] (by rfl) rfl rfl sl_ ?_
        with_reducible refine (spec_TextValid.calls k1 ((rd_T45 l0 x3_1).f1) true _ A4.out).mono ?_
        rintro e w' ⟨rfl, ⟨nd, rfl⟩⟩
        refine ⟨_, rfl, ?_⟩
        refine hK.out _ _ ⟨(cb_ HB.out hw128_0), (cb_ HB.out hw128_1), (cb_ HB.out hw130_0), (cb_ HB.out hw130_1), (cb_ HB.out hw132_0), (cb_ HB.out hw132_1), (cb_ HB.out hw133_0), (cb_ HB.out hw133_1), (cb_ HB.out hw134_0), (cb_ HB.out hw134_1)⟩ (fun hHeld => ?_)
        clear hK K
        refine norm_ (a' := ?_) ?_ ?_
        rotate_left
        ·show Act.put _ (some 15) _ = _
         simp only [Act.put, List.setIfInBounds_toArray, List.set_cons_zero, List.set_cons_succ, i64_w, i32_w]
         rfl
        refine paA_ 6 16 7 32 ?_
        refine paA_ 7 17 8 31 ?_
        refine paA_ 8 18 9 30 ?_
        refine paA_ 9 19 10 29 ?_
        refine paA_ 10 20 11 28 ?_
        refine paA_ 11 21 12 27 ?_
        refine pa_ (i := 14) (N := some 24) (tb_ 39 20479) ?_
        refine pa_ (i := 15) (N := some 25) (tb_ 39 53247) ?_
        refine pa_ (i := 16) (N := some 26) (tb_ 39 118783) ?_
        refine pa_ (i := 17) (N := some 27) (tb_ 39 249855) ?_
        refine ta10_ (i := 12) (N := some 22) (tb_ 39 253951) ?_
        refine ta10_ (i := 18) (N := some 28) (tb_ 39 516095) ?_
        refine one_ (i := 13) (N := some 23) (tf_ 19 20) rfl rfl (one_of HT_.out (by kernel_rfl)) (by decide) (fun K hK => ?_)
        refine goes_ Try.func38 (by kernel_rfl) rfl #[.string ((rd_T45 l0 x3_1).f1)] (by rfl) rfl rfl sl_ ?_
        with_reducible refine (spec_PrintOf.calls k1 ((rd_T45 l0 x3_1).f1) t131 _ A6.out).mono ?_
        rintro e w' ⟨rfl, ⟨nd, rfl⟩⟩
        refine ⟨_, rfl, ?_⟩
        refine hK.out _ _ ⟨(cb_ HB.out hw128_0), (cb_ HB.out hw128_1), (cb_ HB.out hw130_0), (cb_ HB.out hw130_1), (cb_ HB.out hw132_0), (cb_ HB.out hw132_1), (cb_ HB.out hw133_0), (cb_ HB.out hw133_1), (cb_ HB.out hw134_0), (cb_ HB.out hw134_1)⟩ (fun hHeld => ?_)
        clear hK K
        refine norm_ (a' := ?_) ?_ ?_
        rotate_left
        ·show Act.put _ (some 23) _ = _
         simp only [Act.put, List.setIfInBounds_toArray, List.set_cons_zero, List.set_cons_succ, i64_w, i32_w]
         rfl
        refine paA_ 19 29 20 19 ?_
        refine paA_ 20 30 21 18 ?_
        refine paA_ 21 31 22 17 ?_
        refine paA_ 22 32 23 16 ?_
        refine paA_ 23 33 24 15 ?_
        refine paA_ 24 34 25 14 ?_
        refine paA_ 25 35 26 13 ?_
        refine paA_ 26 36 27 12 ?_
        refine paA_ 27 37 28 11 ?_
        refine paA_ 28 38 29 10 ?_
        refine pa_ (i := 30) (N := some 40) (tb_ 39 1610612735) ?_
        refine pa_ (i := 31) (N := some 41) (tb_ 39 3758096383) ?_
        refine pa_ (i := 32) (N := some 42) (tb_ 39 8053063679) ?_
        refine pa_ (i := 33) (N := some 43) (tb_ 39 16642998271) ?_
        refine pa_ (i := 34) (N := some 44) (tb_ 39 33822867455) ?_
        refine ta10_ (i := 29) (N := some 39) (tf_ 35 4) ?_
        refine ta10_ (i := 35) (N := some 45) (tf_ 36 3) ?_
        refine paA_ 36 46 37 2 ?_
        refine paA_ 37 47 38 1 ?_
        refine paA_ 38 48 39 0 ?_
        refine done_ (done_of HT_.out (by kernel_rfl)) ?_
        try go_wp2
        go_ret
        exact ⟨by first | rfl | (simp [errW_none, errW_some] <;> rfl) | (simp only [← hji9]; first | rfl | (simp [errW_none, errW_some] <;> rfl)) | (simp [*, errW_none, errW_some] <;> rfl), hb_⟩
       ·rw [if_neg c12] at H
        have c12b0 : decide (((rd_T45 l0 x3_1).f0) ≤ ((rd_T45 l0 (ji9)).f0)) = false := decide_eq_false c12
        clear c12
        have H' := Aside0.mk H
        clear H
        try go_wp2
        replace HB := Aside0.mk (below_drew1 HB.out)
        have p128 : 0 ≤ (x3_1 : Int) := dt_
        have q128 : x3_1 < (l0.length : Int) := dt_
        obtain ⟨ad128, e128, hx128_0, hx128_1⟩ := at_T45 HR0.out x3_1 p128 q128
        have hw128_1 := hx128_1
        have hw128_0 := hx128_0
        cases e128
        replace hx128_0 := cb_ HB.out hx128_0
        replace hx128_1 := cb_ HB.out hx128_1
        replace p128 := eq_true p128
        replace q128 := eq_true q128
        have p130 : 0 ≤ (x3_1 : Int) := dt_
        have q130 : x3_1 < (l0.length : Int) := dt_
        obtain ⟨ad130, e130, hx130_0, hx130_1⟩ := at_T45 HR0.out x3_1 p130 q130
        have hw130_1 := hx130_1
        have hw130_0 := hx130_0
        obtain rfl : ad128 = ad130 := (by injection e130)
        replace hx130_0 := cb_ HB.out hx130_0
        replace hx130_1 := cb_ HB.out hx130_1
        replace p130 := eq_true p130
        replace q130 := eq_true q130
        have p132 : 0 ≤ (x3_1 : Int) := dt_
        have q132 : x3_1 < (l0.length : Int) := dt_
        obtain ⟨ad132, e132, hx132_0, hx132_1⟩ := at_T45 HR0.out x3_1 p132 q132
        have hw132_1 := hx132_1
        have hw132_0 := hx132_0
        obtain rfl : ad128 = ad132 := (by injection e132)
        replace hx132_0 := cb_ HB.out hx132_0
        replace hx132_1 := cb_ HB.out hx132_1
        replace p132 := eq_true p132
        replace q132 := eq_true q132
        have p133 : 0 ≤ (x3_1 : Int) := dt_
        have q133 : x3_1 < (l0.length : Int) := dt_
        obtain ⟨ad133, e133, hx133_0, hx133_1⟩ := at_T45 HR0.out x3_1 p133 q133
        have hw133_1 := hx133_1
        have hw133_0 := hx133_0
        obtain rfl : ad128 = ad133 := (by injection e133)
        replace hx133_0 := cb_ HB.out hx133_0
        replace hx133_1 := cb_ HB.out hx133_1
        replace p133 := eq_true p133
        replace q133 := eq_true q133
        have p134 : 0 ≤ ((ji9) : Int) := dt_
        have q134 : (ji9) < (l0.length : Int) := dt_
        obtain ⟨ad134, e134, hx134_0, hx134_1⟩ := at_T45 HR0.out (ji9) p134 q134
        have hw134_1 := hx134_1
        have hw134_0 := hx134_0
        obtain rfl : ad128 = ad134 := (by injection e134)
        replace hx134_0 := cb_ HB.out hx134_0
        replace hx134_1 := cb_ HB.out hx134_1
        replace p134 := eq_true p134
        replace q134 := eq_true q134
        refine start_ (n := 39) (S := fun w' => w'.cell? (ad128.add ((x3_1).toNat * 2)) = some (.int .i64 ((rd_T45 l0 x3_1).f0)) ∧ w'.cell? ⟨(ad128.add ((x3_1).toNat * 2)).block, (ad128.add ((x3_1).toNat * 2)).off + 1, none⟩ = some (.string ((rd_T45 l0 x3_1).f1)) ∧ w'.cell? (ad128.add ((x3_1).toNat * 2)) = some (.int .i64 ((rd_T45 l0 x3_1).f0)) ∧ w'.cell? ⟨(ad128.add ((x3_1).toNat * 2)).block, (ad128.add ((x3_1).toNat * 2)).off + 1, none⟩ = some (.string ((rd_T45 l0 x3_1).f1)) ∧ w'.cell? (ad128.add ((x3_1).toNat * 2)) = some (.int .i64 ((rd_T45 l0 x3_1).f0)) ∧ w'.cell? ⟨(ad128.add ((x3_1).toNat * 2)).block, (ad128.add ((x3_1).toNat * 2)).off + 1, none⟩ = some (.string ((rd_T45 l0 x3_1).f1)) ∧ w'.cell? (ad128.add ((x3_1).toNat * 2)) = some (.int .i64 ((rd_T45 l0 x3_1).f0)) ∧ w'.cell? ⟨(ad128.add ((x3_1).toNat * 2)).block, (ad128.add ((x3_1).toNat * 2)).off + 1, none⟩ = some (.string ((rd_T45 l0 x3_1).f1)) ∧ w'.cell? (ad128.add (((ji9)).toNat * 2)) = some (.int .i64 ((rd_T45 l0 (ji9)).f0)) ∧ w'.cell? ⟨(ad128.add (((ji9)).toNat * 2)).block, (ad128.add (((ji9)).toNat * 2)).off + 1, none⟩ = some (.string ((rd_T45 l0 (ji9)).f1))) (ds := []) (tf_ 0 39) (by kernel_rfl) rfl rfl ⟨(cb_ HB.out hw128_0), (cb_ HB.out hw128_1), (cb_ HB.out hw130_0), (cb_ HB.out hw130_1), (cb_ HB.out hw132_0), (cb_ HB.out hw132_1), (cb_ HB.out hw133_0), (cb_ HB.out hw133_1), (cb_ HB.out hw134_0), (cb_ HB.out hw134_1)⟩ (fun hHeld => ?_); refine with_tabW spec_StoreValid.tab4 spec_StoreValid.bits4 (fun HT_ HW_ => ?_)
        generalize wr.drew = w14 at HB hx128_0 hx128_1 hx130_0 hx130_1 hx132_0 hx132_1 hx133_0 hx133_1 hx134_0 hx134_1 hHeld ⊢
        refine paA_ 0 10 1 38 ?_
        refine paA_ 1 11 2 37 ?_
        refine paA_ 2 12 3 36 ?_
        refine paA_ 3 13 4 35 ?_
        refine ta10_ (i := 4) (N := some 14) (tf_ 5 34) ?_
        refine one_ (i := 5) (N := some 15) (tf_ 6 33) rfl rfl (one_of HT_.out (by kernel_rfl)) (by decide) (fun K hK => ?_)
        refine goes_ Try.func40 (by kernel_rfl) rfl #[.string ((rd_T45 l0 x3_1).f1)] (by rfl) rfl rfl sl_ ?_
        with_reducible refine (spec_TextValid.calls k1 ((rd_T45 l0 x3_1).f1) true _ A4.out).mono ?_
        rintro e w' ⟨rfl, ⟨nd, rfl⟩⟩
        refine ⟨_, rfl, ?_⟩
        refine hK.out _ _ ⟨(cb_ HB.out hw128_0), (cb_ HB.out hw128_1), (cb_ HB.out hw130_0), (cb_ HB.out hw130_1), (cb_ HB.out hw132_0), (cb_ HB.out hw132_1), (cb_ HB.out hw133_0), (cb_ HB.out hw133_1), (cb_ HB.out hw134_0), (cb_ HB.out hw134_1)⟩ (fun hHeld => ?_)
        clear hK K
        refine norm_ (a' := ?_) ?_ ?_
        rotate_left
        ·show Act.put _ (some 15) _ = _
         simp only [Act.put, List.setIfInBounds_toArray, List.set_cons_zero, List.set_cons_succ, i64_w, i32_w]
         rfl
        refine paA_ 6 16 7 32 ?_
        refine paA_ 7 17 8 31 ?_
        refine paA_ 8 18 9 30 ?_
        refine paA_ 9 19 10 29 ?_
        refine paA_ 10 20 11 28 ?_
        refine paA_ 11 21 12 27 ?_
        refine pa_ (i := 14) (N := some 24) (tb_ 39 20479) ?_
        refine pa_ (i := 15) (N := some 25) (tb_ 39 53247) ?_
        refine pa_ (i := 16) (N := some 26) (tb_ 39 118783) ?_
        refine pa_ (i := 17) (N := some 27) (tb_ 39 249855) ?_
        refine ta10_ (i := 12) (N := some 22) (tb_ 39 253951) ?_
        refine ta10_ (i := 18) (N := some 28) (tb_ 39 516095) ?_
        refine one_ (i := 13) (N := some 23) (tf_ 19 20) rfl rfl (one_of HT_.out (by kernel_rfl)) (by decide) (fun K hK => ?_)
        refine goes_ Try.func38 (by kernel_rfl) rfl #[.string ((rd_T45 l0 x3_1).f1)] (by rfl) rfl rfl sl_ ?_
        with_reducible refine (spec_PrintOf.calls k1 ((rd_T45 l0 x3_1).f1) t131 _ A6.out).mono ?_
        rintro e w' ⟨rfl, ⟨nd, rfl⟩⟩
        refine ⟨_, rfl, ?_⟩
        refine hK.out _ _ ⟨(cb_ HB.out hw128_0), (cb_ HB.out hw128_1), (cb_ HB.out hw130_0), (cb_ HB.out hw130_1), (cb_ HB.out hw132_0), (cb_ HB.out hw132_1), (cb_ HB.out hw133_0), (cb_ HB.out hw133_1), (cb_ HB.out hw134_0), (cb_ HB.out hw134_1)⟩ (fun hHeld => ?_)
        clear hK K
        refine norm_ (a' := ?_) ?_ ?_
        rotate_left
        ·show Act.put _ (some 23) _ = _
         simp only [Act.put, List.setIfInBounds_toArray, List.set_cons_zero, List.set_cons_succ, i64_w, i32_w]
         rfl
        refine paA_ 19 29 20 19 ?_
        refine paA_ 20 30 21 18 ?_
        refine paA_ 21 31 22 17 ?_
        refine paA_ 22 32 23 16 ?_
        refine paA_ 23 33 24 15 ?_
        refine paA_ 24 34 25 14 ?_
        refine paA_ 25 35 26 13 ?_
        refine paA_ 26 36 27 12 ?_
        refine paA_ 27 37 28 11 ?_
        refine paA_ 28 38 29 10 ?_
        refine pa_ (i := 30) (N := some 40) (tb_ 39 1610612735) ?_
        refine pa_ (i := 31) (N := some 41) (tb_ 39 3758096383) ?_
        refine pa_ (i := 32) (N := some 42) (tb_ 39 8053063679) ?_
        refine pa_ (i := 33) (N := some 43) (tb_ 39 16642998271) ?_
        refine pa_ (i := 34) (N := some 44) (tb_ 39 33822867455) ?_
        refine ta10_ (i := 29) (N := some 39) (tf_ 35 4) ?_
        refine ta10_ (i := 35) (N := some 45) (tf_ 36 3) ?_
        refine paA_ 36 46 37 2 ?_
        refine paA_ 37 47 38 1 ?_
        refine paA_ 38 48 39 0 ?_
        refine done_ (done_of HT_.out (by kernel_rfl)) ?_
        try go_wp2
        go_roundg k1
        case measure => have := HK1.out; omega
        case rel => exact ⟨(wrap64 (x3_1 + 1)), rs_, H', ⟨by have := HK1.out; omega⟩, ⟨hb_⟩⟩
      ·rw [if_neg c8] at H
       have c8b0 : decide (0 < x3_1) = false := decide_eq_false c8
       clear c8
       have H' := Aside0.mk H
       clear H
       try go_wp2
       replace HB := Aside0.mk (below_drew1 HB.out)
       have p128 : 0 ≤ (x3_1 : Int) := dt_
       have q128 : x3_1 < (l0.length : Int) := dt_
       obtain ⟨ad128, e128, hx128_0, hx128_1⟩ := at_T45 HR0.out x3_1 p128 q128
       have hw128_1 := hx128_1
       have hw128_0 := hx128_0
       cases e128
       replace hx128_0 := cb_ HB.out hx128_0
       replace hx128_1 := cb_ HB.out hx128_1
       replace p128 := eq_true p128
       replace q128 := eq_true q128
       have p130 : 0 ≤ (x3_1 : Int) := dt_
       have q130 : x3_1 < (l0.length : Int) := dt_
       obtain ⟨ad130, e130, hx130_0, hx130_1⟩ := at_T45 HR0.out x3_1 p130 q130
       have hw130_1 := hx130_1
       have hw130_0 := hx130_0
       obtain rfl : ad128 = ad130 := (by injection e130)
       replace hx130_0 := cb_ HB.out hx130_0
       replace hx130_1 := cb_ HB.out hx130_1
       replace p130 := eq_true p130
       replace q130 := eq_true q130
       have p132 : 0 ≤ (x3_1 : Int) := dt_
       have q132 : x3_1 < (l0.length : Int) := dt_
       obtain ⟨ad132, e132, hx132_0, hx132_1⟩ := at_T45 HR0.out x3_1 p132 q132
       have hw132_1 := hx132_1
       have hw132_0 := hx132_0
       obtain rfl : ad128 = ad132 := (by injection e132)
       replace hx132_0 := cb_ HB.out hx132_0
       replace hx132_1 := cb_ HB.out hx132_1
       replace p132 := eq_true p132
       replace q132 := eq_true q132
       refine start_ (n := 39) (S := fun w' => w'.cell? (ad128.add ((x3_1).toNat * 2)) = some (.int .i64 ((rd_T45 l0 x3_1).f0)) ∧ w'.cell? ⟨(ad128.add ((x3_1).toNat * 2)).block, (ad128.add ((x3_1).toNat * 2)).off + 1, none⟩ = some (.string ((rd_T45 l0 x3_1).f1)) ∧ w'.cell? (ad128.add ((x3_1).toNat * 2)) = some (.int .i64 ((rd_T45 l0 x3_1).f0)) ∧ w'.cell? ⟨(ad128.add ((x3_1).toNat * 2)).block, (ad128.add ((x3_1).toNat * 2)).off + 1, none⟩ = some (.string ((rd_T45 l0 x3_1).f1)) ∧ w'.cell? (ad128.add ((x3_1).toNat * 2)) = some (.int .i64 ((rd_T45 l0 x3_1).f0)) ∧ w'.cell? ⟨(ad128.add ((x3_1).toNat * 2)).block, (ad128.add ((x3_1).toNat * 2)).off + 1, none⟩ = some (.string ((rd_T45 l0 x3_1).f1))) (ds := []) (tf_ 0 39) (by kernel_rfl) rfl rfl ⟨(cb_ HB.out hw128_0), (cb_ HB.out hw128_1), (cb_ HB.out hw130_0), (cb_ HB.out hw130_1), (cb_ HB.out hw132_0), (cb_ HB.out hw132_1)⟩ (fun hHeld => ?_); refine with_tabW spec_StoreValid.tab4 spec_StoreValid.bits4 (fun HT_ HW_ => ?_)
       generalize wr.drew = w15 at HB hx128_0 hx128_1 hx130_0 hx130_1 hx132_0 hx132_1 hHeld ⊢
       refine paA_ 0 10 1 38 ?_
       refine paA_ 1 11 2 37 ?_
       refine paA_ 2 12 3 36 ?_
       refine paA_ 3 13 4 35 ?_
       refine ta6_ (i := 4) (N := some 14) (tf_ 5 34) ?_
       refine one_ (i := 5) (N := some 15) (tf_ 6 33) rfl rfl (one_of HT_.out (by kernel_rfl)) (by decide) (fun K hK => ?_)
       refine goes_ Try.func40 (by kernel_rfl) rfl #[.string ((rd_T45 l0 x3_1).f1)] (by rfl) rfl rfl sl_ ?_
       with_reducible refine (spec_TextValid.calls k1 ((rd_T45 l0 x3_1).f1) true _ A4.out).mono ?_
       rintro e w' ⟨rfl, ⟨nd, rfl⟩⟩
       refine ⟨_, rfl, ?_⟩
       refine hK.out _ _ ⟨(cb_ HB.out hw128_0), (cb_ HB.out hw128_1), (cb_ HB.out hw130_0), (cb_ HB.out hw130_1), (cb_ HB.out hw132_0), (cb_ HB.out hw132_1)⟩ (fun hHeld => ?_)
       clear hK K
       refine norm_ (a' := ?_) ?_ ?_
       rotate_left
       ·show Act.put _ (some 15) _ = _
        simp only [Act.put, List.setIfInBounds_toArray, List.set_cons_zero, List.set_cons_succ, i64_w, i32_w]
        rfl
       refine paA_ 6 16 7 32 ?_
       refine paA_ 7 17 8 31 ?_
       refine paA_ 8 18 9 30 ?_
       refine paA_ 9 19 10 29 ?_
       refine paA_ 10 20 11 28 ?_
       refine paA_ 11 21 12 27 ?_
       refine pa_ (i := 14) (N := some 24) (tb_ 39 20479) ?_
       refine pa_ (i := 15) (N := some 25) (tb_ 39 53247) ?_
       refine pa_ (i := 16) (N := some 26) (tb_ 39 118783) ?_
       refine pa_ (i := 17) (N := some 27) (tb_ 39 249855) ?_
       refine ta6_ (i := 12) (N := some 22) (tb_ 39 253951) ?_
       refine ta6_ (i := 18) (N := some 28) (tb_ 39 516095) ?_
       refine one_ (i := 13) (N := some 23) (tf_ 19 20) rfl rfl (one_of HT_.out (by kernel_rfl)) (by decide) (fun K hK => ?_)
       refine goes_ Try.func38 (by kernel_rfl) rfl #[.string ((rd_T45 l0 x3_1).f1)] (by rfl) rfl rfl sl_ ?_
       with_reducible refine (spec_PrintOf.calls k1 ((rd_T45 l0 x3_1).f1) t131 _ A6.out).mono ?_
       rintro e w' ⟨rfl, ⟨nd, rfl⟩⟩
       refine ⟨_, rfl, ?_⟩
       refine hK.out _ _ ⟨(cb_ HB.out hw128_0), (cb_ HB.out hw128_1), (cb_ HB.out hw130_0), (cb_ HB.out hw130_1), (cb_ HB.out hw132_0), (cb_ HB.out hw132_1)⟩ (fun hHeld => ?_)
       clear hK K
       refine norm_ (a' := ?_) ?_ ?_
       rotate_left
       ·show Act.put _ (some 23) _ = _
        simp only [Act.put, List.setIfInBounds_toArray, List.set_cons_zero, List.set_cons_succ, i64_w, i32_w]
        rfl
       refine paA_ 19 29 20 19 ?_
       refine paA_ 20 30 21 18 ?_
       refine paA_ 21 31 22 17 ?_
       refine paA_ 22 32 23 16 ?_
       refine paA_ 23 33 24 15 ?_
       refine paA_ 24 34 25 14 ?_
       refine pnA_ 25 35 26 13 ?_
       refine pnA_ 26 36 27 12 ?_
       refine pnA_ 27 37 28 11 ?_
       refine pnA_ 28 38 29 10 ?_
       refine pnA_ 29 39 30 9 ?_
       refine pnA_ 30 40 31 8 ?_
       refine pnA_ 31 41 32 7 ?_
       refine pnA_ 32 42 33 6 ?_
       refine pnA_ 33 43 34 5 ?_
       refine pnA_ 34 44 35 4 ?_
       refine pnA_ 35 45 36 3 ?_
       refine pnA_ 36 46 37 2 ?_
       refine paA_ 37 47 38 1 ?_
       refine paA_ 38 48 39 0 ?_
       refine done_ (done_of HT_.out (by kernel_rfl)) ?_
       try go_wp2
       go_roundg k1
       case measure => have := HK1.out; omega
       case rel => exact ⟨(wrap64 (x3_1 + 1)), rs_, H', ⟨by have := HK1.out; omega⟩, ⟨hb_⟩⟩
     ·rw [if_neg c7] at H
      have c7b0 : (t131 == ((rd_T45 l0 x3_1).f0)) = false := beq_eq_false_iff_ne.mpr c7
      have c7b1 : (t131 != ((rd_T45 l0 x3_1).f0)) = true := bne_iff_ne.mpr c7
      obtain rfl := Option.some.inj H
      try go_wp2
      replace HB := Aside0.mk (below_drew1 HB.out)
      have p128 : 0 ≤ (x3_1 : Int) := dt_
      have q128 : x3_1 < (l0.length : Int) := dt_
      obtain ⟨ad128, e128, hx128_0, hx128_1⟩ := at_T45 HR0.out x3_1 p128 q128
      have hw128_1 := hx128_1
      have hw128_0 := hx128_0
      cases e128
      replace hx128_0 := cb_ HB.out hx128_0
      replace hx128_1 := cb_ HB.out hx128_1
      replace p128 := eq_true p128
      replace q128 := eq_true q128
      have p130 : 0 ≤ (x3_1 : Int) := dt_
      have q130 : x3_1 < (l0.length : Int) := dt_
      obtain ⟨ad130, e130, hx130_0, hx130_1⟩ := at_T45 HR0.out x3_1 p130 q130
      have hw130_1 := hx130_1
      have hw130_0 := hx130_0
      obtain rfl : ad128 = ad130 := (by injection e130)
      replace hx130_0 := cb_ HB.out hx130_0
      replace hx130_1 := cb_ HB.out hx130_1
      replace p130 := eq_true p130
      replace q130 := eq_true q130
      have p132 : 0 ≤ (x3_1 : Int) := dt_
      have q132 : x3_1 < (l0.length : Int) := dt_
      obtain ⟨ad132, e132, hx132_0, hx132_1⟩ := at_T45 HR0.out x3_1 p132 q132
      have hw132_1 := hx132_1
      have hw132_0 := hx132_0
      obtain rfl : ad128 = ad132 := (by injection e132)
      replace hx132_0 := cb_ HB.out hx132_0
      replace hx132_1 := cb_ HB.out hx132_1
      replace p132 := eq_true p132
      replace q132 := eq_true q132
      refine start_ (n := 39) (S := fun w' => w'.cell? (ad128.add ((x3_1).toNat * 2)) = some (.int .i64 ((rd_T45 l0 x3_1).f0)) ∧ w'.cell? ⟨(ad128.add ((x3_1).toNat * 2)).block, (ad128.add ((x3_1).toNat * 2)).off + 1, none⟩ = some (.string ((rd_T45 l0 x3_1).f1)) ∧ w'.cell? (ad128.add ((x3_1).toNat * 2)) = some (.int .i64 ((rd_T45 l0 x3_1).f0)) ∧ w'.cell? ⟨(ad128.add ((x3_1).toNat * 2)).block, (ad128.add ((x3_1).toNat * 2)).off + 1, none⟩ = some (.string ((rd_T45 l0 x3_1).f1)) ∧ w'.cell? (ad128.add ((x3_1).toNat * 2)) = some (.int .i64 ((rd_T45 l0 x3_1).f0)) ∧ w'.cell? ⟨(ad128.add ((x3_1).toNat * 2)).block, (ad128.add ((x3_1).toNat * 2)).off + 1, none⟩ = some (.string ((rd_T45 l0 x3_1).f1))) (ds := []) (tf_ 0 39) (by kernel_rfl) rfl rfl ⟨(cb_ HB.out hw128_0), (cb_ HB.out hw128_1), (cb_ HB.out hw130_0), (cb_ HB.out hw130_1), (cb_ HB.out hw132_0), (cb_ HB.out hw132_1)⟩ (fun hHeld => ?_); refine with_tabW spec_StoreValid.tab4 spec_StoreValid.bits4 (fun HT_ HW_ => ?_)
      generalize wr.drew = w16 at HB hx128_0 hx128_1 hx130_0 hx130_1 hx132_0 hx132_1 hHeld ⊢
      refine paA_ 0 10 1 38 ?_
      refine paA_ 1 11 2 37 ?_
      refine paA_ 2 12 3 36 ?_
      refine paA_ 3 13 4 35 ?_
      refine ta6_ (i := 4) (N := some 14) (tf_ 5 34) ?_
      refine one_ (i := 5) (N := some 15) (tf_ 6 33) rfl rfl (one_of HT_.out (by kernel_rfl)) (by decide) (fun K hK => ?_)
      refine goes_ Try.func40 (by kernel_rfl) rfl #[.string ((rd_T45 l0 x3_1).f1)] (by rfl) rfl rfl sl_ ?_
      with_reducible refine (spec_TextValid.calls k1 ((rd_T45 l0 x3_1).f1) true _ A4.out).mono ?_
      rintro e w' ⟨rfl, ⟨nd, rfl⟩⟩
      refine ⟨_, rfl, ?_⟩
      refine hK.out _ _ ⟨(cb_ HB.out hw128_0), (cb_ HB.out hw128_1), (cb_ HB.out hw130_0), (cb_ HB.out hw130_1), (cb_ HB.out hw132_0), (cb_ HB.out hw132_1)⟩ (fun hHeld => ?_)
      clear hK K
      refine norm_ (a' := ?_) ?_ ?_
      rotate_left
      ·show Act.put _ (some 15) _ = _
       simp only [Act.put, List.setIfInBounds_toArray, List.set_cons_zero, List.set_cons_succ, i64_w, i32_w]
       rfl
      refine paA_ 6 16 7 32 ?_
      refine paA_ 7 17 8 31 ?_
      refine paA_ 8 18 9 30 ?_
      refine paA_ 9 19 10 29 ?_
      refine paA_ 10 20 11 28 ?_
      refine paA_ 11 21 12 27 ?_
      refine pa_ (i := 14) (N := some 24) (tb_ 39 20479) ?_
      refine pa_ (i := 15) (N := some 25) (tb_ 39 53247) ?_
      refine pa_ (i := 16) (N := some 26) (tb_ 39 118783) ?_
      refine pa_ (i := 17) (N := some 27) (tb_ 39 249855) ?_
      refine ta6_ (i := 12) (N := some 22) (tb_ 39 253951) ?_
      refine ta6_ (i := 18) (N := some 28) (tb_ 39 516095) ?_
      refine one_ (i := 13) (N := some 23) (tf_ 19 20) rfl rfl (one_of HT_.out (by kernel_rfl)) (by decide) (fun K hK => ?_)
      refine goes_ Try.func38 (by kernel_rfl) rfl #[.string ((rd_T45 l0 x3_1).f1)] (by rfl) rfl rfl sl_ ?_
      with_reducible refine (spec_PrintOf.calls k1 ((rd_T45 l0 x3_1).f1) t131 _ A6.out).mono ?_
      rintro e w' ⟨rfl, ⟨nd, rfl⟩⟩
      refine ⟨_, rfl, ?_⟩
      refine hK.out _ _ ⟨(cb_ HB.out hw128_0), (cb_ HB.out hw128_1), (cb_ HB.out hw130_0), (cb_ HB.out hw130_1), (cb_ HB.out hw132_0), (cb_ HB.out hw132_1)⟩ (fun hHeld => ?_)
      clear hK K
      refine norm_ (a' := ?_) ?_ ?_
      rotate_left
      ·show Act.put _ (some 23) _ = _
       simp only [Act.put, List.setIfInBounds_toArray, List.set_cons_zero, List.set_cons_succ, i64_w, i32_w]
       rfl
      refine paA_ 19 29 20 19 ?_
      refine paA_ 20 30 21 18 ?_
      refine paA_ 21 31 22 17 ?_
      refine pnA_ 22 32 23 16 ?_
      refine pnA_ 23 33 24 15 ?_
      refine pnA_ 24 34 25 14 ?_
      refine pnA_ 25 35 26 13 ?_
      refine pnA_ 26 36 27 12 ?_
      refine pnA_ 27 37 28 11 ?_
      refine pnA_ 28 38 29 10 ?_
      refine pnA_ 29 39 30 9 ?_
      refine pnA_ 30 40 31 8 ?_
      refine pnA_ 31 41 32 7 ?_
      refine pnA_ 32 42 33 6 ?_
      refine pnA_ 33 43 34 5 ?_
      refine pnA_ 34 44 35 4 ?_
      refine pnA_ 35 45 36 3 ?_
      refine pnA_ 36 46 37 2 ?_
      refine pnA_ 37 47 38 1 ?_
      refine paA_ 38 48 39 0 ?_
      refine done_ (done_of HT_.out (by kernel_rfl)) ?_
      try go_wp2
      go_ret
      exact ⟨er_, hb_⟩
    ·replace c5 := Bool.eq_false_iff.mpr c5
     subst c5
     have H1 : (some false) = some r := by rw [if_neg (show ¬ (false = true) by decide)] at H; exact H
     clear H
     have H := H1
     clear H1
     obtain rfl := Option.some.inj H
     try go_wp2
     replace HB := Aside0.mk (below_drew1 HB.out)
     have p128 : 0 ≤ (x3_1 : Int) := dt_
     have q128 : x3_1 < (l0.length : Int) := dt_
     obtain ⟨ad128, e128, hx128_0, hx128_1⟩ := at_T45 HR0.out x3_1 p128 q128
     have hw128_1 := hx128_1
     have hw128_0 := hx128_0
     cases e128
     replace hx128_0 := cb_ HB.out hx128_0
     replace hx128_1 := cb_ HB.out hx128_1
     replace p128 := eq_true p128
     replace q128 := eq_true q128
     refine start_ (n := 39) (S := fun w' => w'.cell? (ad128.add ((x3_1).toNat * 2)) = some (.int .i64 ((rd_T45 l0 x3_1).f0)) ∧ w'.cell? ⟨(ad128.add ((x3_1).toNat * 2)).block, (ad128.add ((x3_1).toNat * 2)).off + 1, none⟩ = some (.string ((rd_T45 l0 x3_1).f1))) (ds := []) (tf_ 0 39) (by kernel_rfl) rfl rfl ⟨(cb_ HB.out hw128_0), (cb_ HB.out hw128_1)⟩ (fun hHeld => ?_); refine with_tabW spec_StoreValid.tab4 spec_StoreValid.bits4 (fun HT_ HW_ => ?_)
     generalize wr.drew = w17 at HB hx128_0 hx128_1 hHeld ⊢
     refine paA_ 0 10 1 38 ?_
     refine paA_ 1 11 2 37 ?_
     refine paA_ 2 12 3 36 ?_
     refine paA_ 3 13 4 35 ?_
     refine ta2_ (i := 4) (N := some 14) (tf_ 5 34) ?_
     refine one_ (i := 5) (N := some 15) (tf_ 6 33) rfl rfl (one_of HT_.out (by kernel_rfl)) (by decide) (fun K hK => ?_)
     refine goes_ Try.func40 (by kernel_rfl) rfl #[.string ((rd_T45 l0 x3_1).f1)] (by rfl) rfl rfl sl_ ?_
     with_reducible refine (spec_TextValid.calls k1 ((rd_T45 l0 x3_1).f1) false _ A4.out).mono ?_
     rintro e w' ⟨rfl, ⟨nd, rfl⟩⟩
     refine ⟨_, rfl, ?_⟩
     refine hK.out _ _ ⟨(cb_ HB.out hw128_0), (cb_ HB.out hw128_1)⟩ (fun hHeld => ?_)
     clear hK K
     refine norm_ (a' := ?_) ?_ ?_
     rotate_left
     ·show Act.put _ (some 15) _ = _
      simp only [Act.put, List.setIfInBounds_toArray, List.set_cons_zero, List.set_cons_succ, i64_w, i32_w]
      rfl
     refine paA_ 6 16 7 32 ?_
     refine paA_ 7 17 8 31 ?_
     refine pnA_ 8 18 9 30 ?_
     refine pnA_ 9 19 10 29 ?_
     refine pnA_ 10 20 11 28 ?_
     refine pnA_ 11 21 12 27 ?_
     refine pnA_ 12 22 13 26 ?_
     refine pnA_ 13 23 14 25 ?_
     refine pnA_ 14 24 15 24 ?_
     refine pnA_ 15 25 16 23 ?_
     refine pnA_ 16 26 17 22 ?_
     refine pnA_ 17 27 18 21 ?_
     refine pnA_ 18 28 19 20 ?_
     refine pnA_ 19 29 20 19 ?_
     refine paA_ 20 30 21 18 ?_
     refine paA_ 21 31 22 17 ?_
     refine pnA_ 22 32 23 16 ?_
     refine pnA_ 23 33 24 15 ?_
     refine pnA_ 24 34 25 14 ?_
     refine pnA_ 25 35 26 13 ?_
     refine pnA_ 26 36 27 12 ?_
     refine pnA_ 27 37 28 11 ?_
     refine pnA_ 28 38 29 10 ?_
     refine pnA_ 29 39 30 9 ?_
     refine pnA_ 30 40 31 8 ?_
     refine pnA_ 31 41 32 7 ?_
     refine pnA_ 32 42 33 6 ?_
     refine pnA_ 33 43 34 5 ?_
     refine pnA_ 34 44 35 4 ?_
     refine pnA_ 35 45 36 3 ?_
     refine pnA_ 36 46 37 2 ?_
     refine pnA_ 37 47 38 1 ?_
     refine paA_ 38 48 39 0 ?_
     refine done_ (done_of HT_.out (by kernel_rfl)) ?_
     try go_wp2
     go_ret
     exact ⟨er_, hb_⟩
   ·rw [if_neg c2] at H
    have c2b0 : decide (x3_1 < (l0.length : Int)) = false := decide_eq_false c2
    clear c2
    obtain rfl := Option.some.inj H
    go_wp2
    go_ret
    exact ⟨er_, hb_⟩
/-! ### spec_PutText: function 30 -/
mutual
def spec_PutText.j1 : Nat → List (S45) → ByteArray → Int → Int → Option ((List (S45)) × Int × Bool)
 | 0, _, _, _, _ => none
 | k + 1, x0, x1, x7, x8 => if x8 < (x0.length : Int) then (if 0 ≤ x8 then (spec_PutText.j2 k x0 x1 x7 x8 (((rd_T45 x0 x8).f0) == x7)) else (none)) else (spec_PutText.j2 k x0 x1 x7 x8 false)
def spec_PutText.j2 : Nat → List (S45) → ByteArray → Int → Int → Bool → Option ((List (S45)) × Int × Bool)
 | 0, _, _, _, _, _ => none
 | k + 1, x0, x1, x7, x8, x9 => if x7 < 0 then (spec_PutText.j3 k x0 x1 x7 x8 x9 true) else (if x9 = true then (if 0 ≤ x8 then (if x8 < (x0.length : Int) then (if ((rd_T45 x0 x8).f1).toList = x1.toList then (spec_PutText.j3 k x0 x1 x7 x8 x9 false) else (spec_PutText.j3 k x0 x1 x7 x8 x9 true)) else (none)) else (none)) else (spec_PutText.j3 k x0 x1 x7 x8 x9 ((x0.length : Int) == 40)))
def spec_PutText.j3 : Nat → List (S45) → ByteArray → Int → Int → Bool → Bool → Option ((List (S45)) × Int × Bool)
 | 0, _, _, _, _, _, _ => none
 | k + 1, x0, x1, x7, x8, x9, x44 => if x44 = true then ((some (([] : List (S45)) : List (S45))).bind fun y143 => (if y143.length + x0.length < 5864062014805 then (some ((y143 ++ x0), (-1), false)) else (none))) else (if x9 = true then ((some (([] : List (S45)) : List (S45))).bind fun y149 => (if y149.length + x0.length < 5864062014805 then (some ((y149 ++ x0), x7, true)) else (none))) else ((some (([] : List (S45)) : List (S45))).bind fun y155 => (if 0 ≤ x8 then (if x8 ≤ (x0.length : Int) then ((some (x0.take (x8 : Int).toNat : List (S45))).bind fun y158 => (if y155.length + y158.length < 5864062014805 then ((some (y155 ++ y158 : List (S45))).bind fun y162 => ((some (([(⟨x7, x1⟩ : S45)] : List (S45)) : List (S45))).bind fun y165 => (if y162.length + y165.length < 5864062014805 then ((some (y162 ++ y165 : List (S45))).bind fun y168 => ((some (x0.drop (x8 : Int).toNat : List (S45))).bind fun y171 => (if y168.length + y171.length < 5864062014805 then (some ((y168 ++ y171), x7, true)) else (none)))) else (none)))) else (none))) else (none)) else (none))))
def spec_PutText.l0 : Nat → List (S45) → ByteArray → Int → Int → Option ((List (S45)) × Int × Bool)
 | 0, _, _, _, _ => none
 | k + 1, x0, x1, x7, x8 => if x8 < (x0.length : Int) then (if 0 ≤ x8 then (if ((rd_T45 x0 x8).f0) < x7 then (spec_PutText.l0 k x0 x1 x7 (wrap64 (x8 + 1))) else (spec_PutText.j1 k x0 x1 x7 x8)) else (none)) else (spec_PutText.j1 k x0 x1 x7 x8)
end
def spec_PutText.f (k : Nat) (l0 : List (S45)) (a1 : ByteArray) : Option ((List (S45)) × Int × Bool) := (spec_StoreValid.f k l0).bind fun t135 => (if t135 = true then ((spec_PrintOf.f k a1).bind fun t139 => (spec_PutText.l0 k l0 a1 t139 0)) else (some ((([] : List (S45))), (-1), false)))
theorem spec_PutText.mono_l : ∀ k, (∀ y0 y1 y2 y3, LeO (spec_PutText.j1 k y0 y1 y2 y3) (spec_PutText.j1 (k + 1) y0 y1 y2 y3)) ∧ (∀ y0 y1 y2 y3 y4, LeO (spec_PutText.j2 k y0 y1 y2 y3 y4) (spec_PutText.j2 (k + 1) y0 y1 y2 y3 y4)) ∧ (∀ y0 y1 y2 y3 y4 y5, LeO (spec_PutText.j3 k y0 y1 y2 y3 y4 y5) (spec_PutText.j3 (k + 1) y0 y1 y2 y3 y4 y5)) ∧ (∀ y0 y1 y2 y3, LeO (spec_PutText.l0 k y0 y1 y2 y3) (spec_PutText.l0 (k + 1) y0 y1 y2 y3))
 | 0 => ⟨fun _ _ _ _ r h => by simp [spec_PutText.j1] at h, fun _ _ _ _ _ r h => by simp [spec_PutText.j2] at h, fun _ _ _ _ _ _ r h => by simp [spec_PutText.j3] at h, fun _ _ _ _ r h => by simp [spec_PutText.l0] at h⟩
 | k + 1 => by
  obtain ⟨ih0, ih1, ih2, ih3⟩ := spec_PutText.mono_l k
  refine ⟨?_, ?_, ?_, ?_⟩
  ·intro y0 y1 y2 y3
   unfold spec_PutText.j1
   repeat' first
   | (with_reducible exact ih0 _ _ _ _)
   | (with_reducible exact ih1 _ _ _ _ _)
   | (with_reducible exact ih2 _ _ _ _ _ _)
   | (with_reducible exact ih3 _ _ _ _)
   | (with_reducible exact spec_PrintOf.mono _ _)
   | (with_reducible exact spec_StoreValid.mono _ _)
   | (with_reducible exact LeO.refl _)
   | (with_reducible exact LeO.none _)
   | (with_reducible refine LeO.ite ?_ ?_)
   | (with_reducible refine LeO.bind ?_ (fun _ => ?_))
   | exact ih0 _ _ _ _
   | exact ih1 _ _ _ _ _
   | exact ih2 _ _ _ _ _ _
   | exact ih3 _ _ _ _
   | exact spec_PrintOf.mono _ _
   | exact spec_StoreValid.mono _ _
   | exact LeO.none _
   | refine LeO.ite ?_ ?_
   | refine LeO.bind ?_ (fun _ => ?_)
  ·intro y0 y1 y2 y3 y4
   unfold spec_PutText.j2
   repeat' first
   | (with_reducible exact ih0 _ _ _ _)
   | (with_reducible exact ih1 _ _ _ _ _)
   | (with_reducible exact ih2 _ _ _ _ _ _)
   | (with_reducible exact ih3 _ _ _ _)
   | (with_reducible exact spec_PrintOf.mono _ _)
   | (with_reducible exact spec_StoreValid.mono _ _)
   | (with_reducible exact LeO.refl _)
   | (with_reducible exact LeO.none _)
   | (with_reducible refine LeO.ite ?_ ?_)
   | (with_reducible refine LeO.bind ?_ (fun _ => ?_))
   | exact ih0 _ _ _ _
   | exact ih1 _ _ _ _ _
   | exact ih2 _ _ _ _ _ _
   | exact ih3 _ _ _ _
   | exact spec_PrintOf.mono _ _
   | exact spec_StoreValid.mono _ _
   | exact LeO.none _
   | refine LeO.ite ?_ ?_
   | refine LeO.bind ?_ (fun _ => ?_)
  ·intro y0 y1 y2 y3 y4 y5
   unfold spec_PutText.j3
   repeat' first
   | (with_reducible exact ih0 _ _ _ _)
   | (with_reducible exact ih1 _ _ _ _ _)
   | (with_reducible exact ih2 _ _ _ _ _ _)
   | (with_reducible exact ih3 _ _ _ _)
   | (with_reducible exact spec_PrintOf.mono _ _)
   | (with_reducible exact spec_StoreValid.mono _ _)
   | (with_reducible exact LeO.refl _)
   | (with_reducible exact LeO.none _)
   | (with_reducible refine LeO.ite ?_ ?_)
   | (with_reducible refine LeO.bind ?_ (fun _ => ?_))
   | exact ih0 _ _ _ _
   | exact ih1 _ _ _ _ _
   | exact ih2 _ _ _ _ _ _
   | exact ih3 _ _ _ _
   | exact spec_PrintOf.mono _ _
   | exact spec_StoreValid.mono _ _
   | exact LeO.none _
   | refine LeO.ite ?_ ?_
   | refine LeO.bind ?_ (fun _ => ?_)
  ·intro y0 y1 y2 y3
   unfold spec_PutText.l0
   repeat' first
   | (with_reducible exact ih0 _ _ _ _)
   | (with_reducible exact ih1 _ _ _ _ _)
   | (with_reducible exact ih2 _ _ _ _ _ _)
   | (with_reducible exact ih3 _ _ _ _)
   | (with_reducible exact spec_PrintOf.mono _ _)
   | (with_reducible exact spec_StoreValid.mono _ _)
   | (with_reducible exact LeO.refl _)
   | (with_reducible exact LeO.none _)
   | (with_reducible refine LeO.ite ?_ ?_)
   | (with_reducible refine LeO.bind ?_ (fun _ => ?_))
   | exact ih0 _ _ _ _
   | exact ih1 _ _ _ _ _
   | exact ih2 _ _ _ _ _ _
   | exact ih3 _ _ _ _
   | exact spec_PrintOf.mono _ _
   | exact spec_StoreValid.mono _ _
   | exact LeO.none _
   | refine LeO.ite ?_ ?_
   | refine LeO.bind ?_ (fun _ => ?_)
theorem spec_PutText.mono : ∀ a0 a1 k, LeO (spec_PutText.f k a0 a1) (spec_PutText.f (k + 1) a0 a1) := by
 intro a0 a1 k
 obtain ⟨ih0, ih1, ih2, ih3⟩ := spec_PutText.mono_l k
 unfold spec_PutText.f
 repeat' first
   | (with_reducible exact ih0 _ _ _ _)
   | (with_reducible exact ih1 _ _ _ _ _)
   | (with_reducible exact ih2 _ _ _ _ _ _)
   | (with_reducible exact ih3 _ _ _ _)
   | (with_reducible exact spec_PrintOf.mono _ _)
   | (with_reducible exact spec_StoreValid.mono _ _)
   | (with_reducible exact LeO.refl _)
   | (with_reducible exact LeO.none _)
   | (with_reducible refine LeO.ite ?_ ?_)
   | (with_reducible refine LeO.bind ?_ (fun _ => ?_))
   | exact ih0 _ _ _ _
   | exact ih1 _ _ _ _ _
   | exact ih2 _ _ _ _ _ _
   | exact ih3 _ _ _ _
   | exact spec_PrintOf.mono _ _
   | exact spec_StoreValid.mono _ _
   | exact LeO.none _
   | refine LeO.ite ?_ ?_
   | refine LeO.bind ?_ (fun _ => ?_)
def spec_PutText.T12 : Bool × List (List Nat × List Nat) := (true, [([], []), ([], []), ([], []), ([1, 2], [1, 2]), ([0, 3], [0, 3]), ([], []), ([], []), ([5, 6], [5, 6]), ([7], [7]), ([4, 8, 4], [4, 8]), ([], []), ([], []), ([10, 11], [10, 11]), ([9, 12, 9], [9, 12]), ([], []), ([13, 13, 0, 1, 2, 3, 4, 5, 6, 7, 8, 9, 10, 11, 12, 13], [13]), ([14, 15, 0, 1, 2, 3, 4, 5, 6, 7, 8, 9, 10, 11, 12, 13, 14, 15], [14]), ([16, 0, 1, 2, 3, 4, 5, 6, 7, 8, 9, 10, 11, 12, 13, 14, 15, 16], [])])
def spec_PutText.B12 : List Nat := [0, 0, 0, 6, 15, 0, 0, 96, 224, 511, 0, 0, 3072, 8191, 0, 16383, 65535, 131071]
theorem spec_PutText.tab12 : rtab .any (opsOf Try.f30 12) = spec_PutText.T12 := by kernel_rfl
theorem spec_PutText.bits12 : waitsOk spec_PutText.T12.2 spec_PutText.B12 = true := by kernel_rfl
set_option maxHeartbeats 8000000 in
set_option maxRecDepth 100000 in
theorem spec_PutText.calls (k : Nat) (A0 : Option Addr) (c0 : Nat) (l0 : List (S45)) (a1 : ByteArray) (r1 : List (S45)) (r2 : Int) (r3 : Bool) (w : World) (hr0 : Kd.C k45 w A0 l0.length l0) (hc0 : l0.length ≤ c0) (h : spec_PutText.f k l0 a1 = some (r1, r2, r3)) :
  Calls Try.prog 30 #[.slice A0 l0.length c0, .string a1] w fun e w' => ∃ v0_ : Value, e = .returned (.tuple #[v0_, .int .i64 r2, .bool r3]) ∧ Kd.R k45 45 w' w.heap.size (fun _ => True) v0_ r1 ∧ Below w.heap.size w w' := by
 have hu45 := Try.underlying45
 have HR0 := Aside0.mk hr0
 have HC0 := Aside0.mk hc0
 clear hr0 hc0
 have HB := Aside0.mk (Below.refl w.heap.size w)
 have H : ((spec_StoreValid.f k l0).bind fun t135 => (if t135 = true then ((spec_PrintOf.f k a1).bind fun t139 => (spec_PutText.l0 k l0 a1 t139 0)) else (some ((([] : List (S45))), (-1), false)))) = some (r1, r2, r3) := h
 clear h
 replace H := Option.bind_eq_some_iff.mp H
 obtain ⟨t135, A30, H⟩ := H
 replace H : (if t135 = true then ((spec_PrintOf.f k a1).bind fun t139 => (spec_PutText.l0 k l0 a1 t139 0)) else (some ((([] : List (S45))), (-1), false))) = some (r1, r2, r3) := H
 have A3 := Aside0.mk A30
 clear A30
 by_cases c4 : t135 = true
 ·subst c4
  have H1 : ((spec_PrintOf.f k a1).bind fun t139 => (spec_PutText.l0 k l0 a1 t139 0)) = some (r1, r2, r3) := by rw [if_pos rfl] at H; exact H
  clear H
  have H := H1
  clear H1
  replace H := Option.bind_eq_some_iff.mp H
  obtain ⟨t139, A50, H⟩ := H
  replace H : (spec_PutText.l0 k l0 a1 t139 0) = some (r1, r2, r3) := H
  have A5 := Aside0.mk A50
  clear A50
  have HC6 := Aside0.mk H
  clear H
  go_enter Try.func30, Try.ntmps30
  go_upto_block 0 with (first | ((with_reducible refine gate_callee (f := 25) rfl ?_); refine goesL_ (some 11) rfl rfl Try.func25 (by kernel_rfl) rfl #[.slice A0 l0.length c0] rfl sl_ ?_; (with_reducible refine (spec_StoreValid.calls k _ _ l0 true _ ?side1 ?side2 A3.out).mono ?_); (case side1 => exact kC_ HR0.out); (case side2 => exact HC0.out); rintro e w7 ⟨rfl, hb⟩; refine ⟨_, rfl, ?_⟩; replace HB := Aside0.mk (below_step hb_ hb); (try clear hb)) | ((with_reducible refine gate_callee (f := 38) rfl ?_); refine goesL_ (some 15) rfl rfl Try.func38 (by kernel_rfl) rfl #[.string a1] rfl sl_ ?_; (with_reducible refine (spec_PrintOf.calls k a1 t139 _ A5.out).mono ?_); rintro e w' ⟨rfl, ⟨nd, rfl⟩⟩; refine ⟨_, rfl, ?_⟩))
  (try simp only [Act.put, List.setIfInBounds_toArray, List.set_cons_zero, List.set_cons_succ])
  go_cut [8] (fun v8 wc => ∃ (kq : Nat) (x8_5 : Int), v8 = .int .i64 x8_5 ∧ Aside0 (spec_PutText.j1 kq l0 a1 t139 x8_5 = some (r1, r2, r3)) ∧ Aside0 (kq ≤ k) ∧ Aside0 (Below w.heap.size w wc))
  case first =>
   have H := HC6.out
   clear HC6
   have H' := Aside0.mk H
   clear H
   go_wp2
   go_loopg [8] k (fun kq v8 w' => ∃ (x8_1 : Int), v8 = .int .i64 x8_1 ∧ Aside0 (spec_PutText.l0 kq l0 a1 t139 x8_1 = some (r1, r2, r3)) ∧ Aside0 (kq ≤ k) ∧ Aside0 (Below w.heap.size w w'))
   case atStart => exact ⟨(0), rs_, H', ⟨Nat.le_refl _⟩, ⟨hb_⟩⟩
   case round =>
    clear H'
    try clear c2
    try clear p2
    try clear c3
    try clear c4
    obtain ⟨x8_1, rfl, HA, HK1, HB⟩ := hrel
    cases gk with
    | zero => exact absurd HA.out (by simp [spec_PutText.l0])
    | succ k1 =>
     have H := HA.out
     clear HA
     simp only [spec_PutText.l0] at H
     by_cases c8 : x8_1 < (l0.length : Int)
     ·rw [if_pos c8] at H
      have c8b0 : decide (x8_1 < (l0.length : Int)) = true := decide_eq_true c8
      clear c8
      (first | rw [c8b0] | (simp only [i64_w, i32_w]; rw [c8b0]) | skip)
      by_cases c9 : 0 ≤ x8_1; rotate_left
      ·rw [if_neg c9] at H; exact absurd H (by simp)
      rw [if_pos c9] at H
      have c9b0 : decide (0 ≤ x8_1) = true := decide_eq_true c9
      clear c9
      by_cases c10 : ((rd_T45 l0 x8_1).f0) < t139
      ·rw [if_pos c10] at H
       have c10b0 : decide (((rd_T45 l0 x8_1).f0) < t139) = true := decide_eq_true c10
       clear c10
       have H' := Aside0.mk H
       clear H
       have p140 : 0 ≤ (x8_1 : Int) := dt_
       have q140 : x8_1 < (l0.length : Int) := dt_
       obtain ⟨ad140, e140, hx140_0, hx140_1⟩ := at_T45 HR0.out x8_1 p140 q140
       cases e140
       replace hx140_0 := cb_ HB.out hx140_0
       replace hx140_1 := cb_ HB.out hx140_1
       replace p140 := eq_true p140
       replace q140 := eq_true q140
       go_wp2
       go_roundg k1
       case measure => have := HK1.out; omega
       case rel => exact ⟨(wrap64 (x8_1 + 1)), rs_, H', ⟨by have := HK1.out; omega⟩, ⟨hb_⟩⟩
      ·rw [if_neg c10] at H
       have c10b0 : decide (((rd_T45 l0 x8_1).f0) < t139) = false := decide_eq_false c10
       clear c10
       have H' := Aside0.mk H
       clear H
       have p140 : 0 ≤ (x8_1 : Int) := dt_
       have q140 : x8_1 < (l0.length : Int) := dt_
       obtain ⟨ad140, e140, hx140_0, hx140_1⟩ := at_T45 HR0.out x8_1 p140 q140
       cases e140
       replace hx140_0 := cb_ HB.out hx140_0
       replace hx140_1 := cb_ HB.out hx140_1
       replace p140 := eq_true p140
       replace q140 := eq_true q140
       go_wp2
       go_meet
       case rel => exact ⟨_, (x8_1), rs_, H', ⟨by have := HK1.out; first | omega | exact Nat.le_refl _⟩, ⟨hb_⟩⟩
     ·rw [if_neg c8] at H
      have c8b0 : decide (x8_1 < (l0.length : Int)) = false := decide_eq_false c8
      clear c8
      (first | rw [c8b0] | (simp only [i64_w, i32_w]; rw [c8b0]) | skip)
      have H' := Aside0.mk H
      clear H
      go_wp2
      go_meet
      case rel => exact ⟨_, (x8_1), rs_, H', ⟨by have := HK1.out; first | omega | exact Nat.le_refl _⟩, ⟨hb_⟩⟩
  case rest =>
   clear HC6
   try clear c1
   try clear p1
   try clear q1
   try clear hx1
   try clear c2
   try clear p2
   try clear c3
   try clear c4
   try clear p6
   try clear c8
   try clear c8b0
   try clear c9
   try clear c9b0
   try clear c10
   try clear c10b0
   try clear hx140_0
   try clear hx140_1
   try clear p140
   try clear p2
   try clear q140
   obtain ⟨kq, x8_5, rfl, HA, HJ5, HB⟩ := hcut
   cases kq with
   | zero => exact absurd HA.out (by simp [spec_PutText.j1])
   | succ kj5 =>
    have H := HA.out
    clear HA
    simp only [spec_PutText.j1] at H
    have HC11 := Aside0.mk H
    clear H
    go_upto_region 7 with (fail)
    go_cut [9] (fun v9 wc => ∃ (kq : Nat) (x9_10 : Bool), v9 = .bool x9_10 ∧ Aside0 (spec_PutText.j2 kq l0 a1 t139 x8_5 x9_10 = some (r1, r2, r3)) ∧ Aside0 (kq ≤ kj5) ∧ Aside0 (Below w.heap.size w wc))
    case first =>
     have H := HC11.out
     clear HC11
     by_cases c12 : x8_5 < (l0.length : Int)
     ·rw [if_pos c12] at H
      have c12b0 : decide (x8_5 < (l0.length : Int)) = true := decide_eq_true c12
      clear c12
      (first | rw [c12b0] | (simp only [i64_w, i32_w]; rw [c12b0]) | skip)
      by_cases c13 : 0 ≤ x8_5; rotate_left
      ·rw [if_neg c13] at H; exact absurd H (by simp)
      rw [if_pos c13] at H
      have c13b0 : decide (0 ≤ x8_5) = true := decide_eq_true c13
      clear c13
      have H' := Aside0.mk H
      clear H
      have p141 : 0 ≤ (x8_5 : Int) := dt_
      have q141 : x8_5 < (l0.length : Int) := dt_
      obtain ⟨ad141, e141, hx141_0, hx141_1⟩ := at_T45 HR0.out x8_5 p141 q141
      cases e141
      replace hx141_0 := cb_ HB.out hx141_0
      replace hx141_1 := cb_ HB.out hx141_1
      replace p141 := eq_true p141
      replace q141 := eq_true q141
      go_wp2
      go_meet
      case rel => exact ⟨_, ((((rd_T45 l0 x8_5).f0) == t139)), rs_, H', ⟨by have := HJ5.out; first | omega | exact Nat.le_refl _⟩, ⟨hb_⟩⟩
     ·rw [if_neg c12] at H
      have c12b0 : decide (x8_5 < (l0.length : Int)) = false := decide_eq_false c12
      clear c12
      (first | rw [c12b0] | (simp only [i64_w, i32_w]; rw [c12b0]) | skip)
      have H' := Aside0.mk H
      clear H
      go_wp2
      go_meet
      case rel => exact ⟨_, (false), rs_, H', ⟨by have := HJ5.out; first | omega | exact Nat.le_refl _⟩, ⟨hb_⟩⟩
    case rest =>
     clear HC11
     try clear c1
     try clear p1
     try clear q1
     try clear hx1
     try clear c2
     try clear p2
     try clear c3
     try clear c4
     try clear p6
     try clear c8
     try clear c8b0
     try clear c9
     try clear c9b0
     try clear c10
     try clear c10b0
     try clear c12
     try clear c12b0
     try clear c13
     try clear c13b0
     try clear hx140_0
     try clear hx140_1
     try clear hx141_0
     try clear hx141_1
     try clear p1
     try clear p140
     try clear p141
     try clear p2
     try clear p6
     try clear q1
     try clear q140
     try clear q141
     obtain ⟨kq, x9_10, rfl, HA, HJ10, HB⟩ := hcut
     cases kq with
     | zero => exact absurd HA.out (by simp [spec_PutText.j2])
     | succ kj10 =>
      have H := HA.out
      clear HA
      simp only [spec_PutText.j2] at H
      have HC14 := Aside0.mk H
      clear H
      go_upto_region 8 with (fail)
      go_cut [44] (fun v44 wc => ∃ (kq : Nat) (x44_13 : Bool), v44 = .bool x44_13 ∧ Aside0 (spec_PutText.j3 kq l0 a1 t139 x8_5 x9_10 x44_13 = some (r1, r2, r3)) ∧ Aside0 (kq ≤ kj10) ∧ Aside0 (Below w.heap.size w wc))
      case first =>
       have H := HC14.out
       clear HC14
       by_cases c15 : t139 < 0
       ·rw [if_pos c15] at H
        have c15b0 : decide (t139 < 0) = true := decide_eq_true c15
        clear c15
        (first | rw [c15b0] | (simp only [i64_w, i32_w]; rw [c15b0]) | skip)
        have H' := Aside0.mk H
        clear H
        go_wp2
        go_meet
        case rel => exact ⟨_, (true), rs_, H', ⟨by have := HJ5.out; have := HJ10.out; first | omega | exact Nat.le_refl _⟩, ⟨hb_⟩⟩
       ·rw [if_neg c15] at H
        have c15b0 : decide (t139 < 0) = false := decide_eq_false c15
        clear c15
        (first | rw [c15b0] | (simp only [i64_w, i32_w]; rw [c15b0]) | skip)
        by_cases c16 : x9_10 = true
        ·subst c16
         have H1 : (if 0 ≤ x8_5 then (if x8_5 < (l0.length : Int) then (if ((rd_T45 l0 x8_5).f1).toList = a1.toList then (spec_PutText.j3 kj10 l0 a1 t139 x8_5 true false) else (spec_PutText.j3 kj10 l0 a1 t139 x8_5 true true)) else (none)) else (none)) = some (r1, r2, r3) := by rw [if_pos rfl] at H; exact H
         clear H
         have H := H1
         clear H1
         by_cases c17 : 0 ≤ x8_5; rotate_left
         ·rw [if_neg c17] at H; exact absurd H (by simp)
         rw [if_pos c17] at H
         have c17b0 : decide (0 ≤ x8_5) = true := decide_eq_true c17
         clear c17
         by_cases c18 : x8_5 < (l0.length : Int); rotate_left
         ·rw [if_neg c18] at H; exact absurd H (by simp)
         rw [if_pos c18] at H
         have c18b0 : decide (x8_5 < (l0.length : Int)) = true := decide_eq_true c18
         clear c18
         by_cases c19 : ((rd_T45 l0 x8_5).f1).toList = a1.toList
         ·rw [if_pos c19] at H
          have c19b0 : (((rd_T45 l0 x8_5).f1).toList == a1.toList) = true := beq_iff_eq.mpr c19
          have c19b1 : (((rd_T45 l0 x8_5).f1).toList != a1.toList) = false := bne_eq_false_iff_eq.mpr c19
          clear c19
          have H' := Aside0.mk H
          clear H
          have p142 : 0 ≤ (x8_5 : Int) := dt_
          have q142 : x8_5 < (l0.length : Int) := dt_
          obtain ⟨ad142, e142, hx142_0, hx142_1⟩ := at_T45 HR0.out x8_5 p142 q142
          cases e142
          replace hx142_0 := cb_ HB.out hx142_0
          replace hx142_1 := cb_ HB.out hx142_1
          replace p142 := eq_true p142
          replace q142 := eq_true q142
          go_wp2
          go_meet
          case rel => exact ⟨_, (false), rs_, H', ⟨by have := HJ5.out; have := HJ10.out; first | omega | exact Nat.le_refl _⟩, ⟨hb_⟩⟩
         ·rw [if_neg c19] at H
          have c19b0 : (((rd_T45 l0 x8_5).f1).toList == a1.toList) = false := beq_eq_false_iff_ne.mpr c19
          have c19b1 : (((rd_T45 l0 x8_5).f1).toList != a1.toList) = true := bne_iff_ne.mpr c19
          have H' := Aside0.mk H
          clear H
          have p142 : 0 ≤ (x8_5 : Int) := dt_
          have q142 : x8_5 < (l0.length : Int) := dt_
          obtain ⟨ad142, e142, hx142_0, hx142_1⟩ := at_T45 HR0.out x8_5 p142 q142
          cases e142
          replace hx142_0 := cb_ HB.out hx142_0
          replace hx142_1 := cb_ HB.out hx142_1
          replace p142 := eq_true p142
          replace q142 := eq_true q142
          go_wp2
          go_meet
          case rel => exact ⟨_, (true), rs_, H', ⟨by have := HJ5.out; have := HJ10.out; first | omega | exact Nat.le_refl _⟩, ⟨hb_⟩⟩
        ·replace c16 := Bool.eq_false_iff.mpr c16
         subst c16
         have H1 : (spec_PutText.j3 kj10 l0 a1 t139 x8_5 false ((l0.length : Int) == 40)) = some (r1, r2, r3) := by rw [if_neg (show ¬ (false = true) by decide)] at H; exact H
         clear H
         have H := H1
         clear H1
         have H' := Aside0.mk H
         clear H
         go_wp2
         go_meet
         case rel => exact ⟨_, (((l0.length : Int) == 40)), rs_, H', ⟨by have := HJ5.out; have := HJ10.out; first | omega | exact Nat.le_refl _⟩, ⟨hb_⟩⟩
      case rest =>
       clear HC14
       try clear c1
       try clear p1
       try clear q1
       try clear hx1
       try clear c2
       try clear p2
       try clear c3
       try clear c4
       try clear p6
       try clear c8
       try clear c8b0
       try clear c9
       try clear c9b0
       try clear c10
       try clear c10b0
       try clear c12
       try clear c12b0
       try clear c13
       try clear c13b0
       try clear p14
       try clear q14
       try clear hx14
       try clear c15
       try clear c15b0
       try clear c16
       try clear c17
       try clear c17b0
       try clear c18
       try clear c18b0
       try clear c19
       try clear c19b0
       try clear c19b1
       try clear hx140_0
       try clear hx140_1
       try clear hx141_0
       try clear hx141_1
       try clear hx142_0
       try clear hx142_1
       try clear p1
       try clear p140
       try clear p141
       try clear p142
       try clear p2
       try clear p6
       try clear q1
       try clear q140
       try clear q141
       try clear q142
       obtain ⟨kq, x44_13, rfl, HA, HJ13, HB⟩ := hcut
       cases kq with
       | zero => exact absurd HA.out (by simp [spec_PutText.j3])
       | succ kj13 =>
        have H := HA.out
        clear HA
        simp only [spec_PutText.j3] at H
        by_cases c20 : x44_13 = true
        ·subst c20
         have H1 : ((some (([] : List (S45)) : List (S45))).bind fun y143 => (if y143.length + l0.length < 5864062014805 then (some ((y143 ++ l0), (-1), false)) else (none))) = some (r1, r2, r3) := by rw [if_pos rfl] at H; exact H
         clear H
         have H := H1
         clear H1
         obtain ⟨y143, hy143⟩ : ∃ y_ : List (S45), y_ = (([] : List (S45))) := ⟨_, rfl⟩
         replace H : (if y143.length + l0.length < 5864062014805 then (some ((y143 ++ l0), (-1), false)) else (none)) = some (r1, r2, r3) := hq_ hy143 H
         have Ny143 := Aside0.mk hy143
         clear hy143
         by_cases c21 : y143.length + l0.length < 5864062014805; rotate_left
         ·rw [if_neg c21] at H; exact absurd H (by simp)
         rw [if_pos c21] at H
         have LMc21 := Aside0.mk c21
         clear c21
         obtain ⟨y146, hy146⟩ : ∃ y_ : List (S45), y_ = (y143 ++ l0) := ⟨_, rfl⟩
         replace H : (some (y146, (-1), false)) = some (r1, r2, r3) := hq_ hy146 H
         have Ny146 := Aside0.mk hy146
         clear hy146
         simp only [Option.some.injEq, Prod.mk.injEq] at H
         obtain ⟨rfl, rfl, rfl⟩ := H
         go_wp2_with (first | ((with_reducible refine gate_dst (N := 68) rfl ?_); refine Kd.R_lit k45 _ 45 ?hg (N := 68) ?hd (xs := ([] : List (S45))) (inner := []) (ok := fun _ => True) (okp := fun _ => True) ?hr ?hp (fun _ hk => hk) trivial (Below.refl _ _) (Nat.le_refl _) (by simp) ?_; (case hd => rfl); (case hg => rfl); (case hr => first | (go_simp; done) | (go_simp; rfl)); (case hp => exact (Reps.none _ _)); intro v144 w22 ho23 hb hg_ hnew_; clear hg_ hnew_; (first | rw [← Ny143.out] at ho23 | (simp only [Int.reduceToNat] at ho23; rw [← Ny143.out] at ho23)); have HO145 := Aside0.mk (Kd.R_lower ho23 (below_size hb_)); replace HB := Aside0.mk (below_step hb_ hb); clear hb ho23) | ((with_reducible refine gate_builtin (b := .append) (xs := #[.tmp 68, .tmp 69]) rfl ?_); at_builtin; refine Kd.R_append_rows k45 (w0 := w) w.heap.size rfl (.tmp 68) (.tmp 69) 29 45 (.agg #[(.int .i64 0), (.string ⟨#[]⟩)]) 24 rfl Try.underlying29 info45 rfl (by decide) (by omega) v144 y143 l0 _ _ _ (fun _ => True) (fun _ => False) rfl rfl ?aO ?aR (fun _ _ h => h) (fun _ h => h.elim) ?aF ?aB ?aS ?aL ?_; (case aR => repeat (first | exact (Kd.C_below HR0.out HB.out) | (with_reducible refine Kd.C_alloc ?_ _) | (with_reducible refine Kd.C_drewN ?_ _) | (with_reducible refine Kd.C_drew ?_))); (case aB => exact hb_); (case aF => exact (fun _ _ => trivial)); (case aO => exact (kR_ HO145.out)); (case aS => exact (below_size hb_)); (case aL => have := LMc21.out; omega); intro v147 w24 ho hb hg hat; rw [← Ny146.out] at ho; have n0_ := Aside0.mk (hb); have n1_ := Aside0.mk (ho); clear HB; clear HO145; have HB := n0_; have HO148 := n1_; clear n0_ n1_; clear ho hb hg hat))
         go_ret3
         exact ⟨_, er_, by (with_reducible repeat (first | apply Kd.R_alloc | apply Kd.R_drewN | apply Kd.R_drew)); exact HO148.out, hb_⟩
        ·replace c20 := Bool.eq_false_iff.mpr c20
         subst c20
         have H1 : (if x9_10 = true then ((some (([] : List (S45)) : List (S45))).bind fun y149 => (if y149.length + l0.length < 5864062014805 then (some ((y149 ++ l0), t139, true)) else (none))) else ((some (([] : List (S45)) : List (S45))).bind fun y155 => (if 0 ≤ x8_5 then (if x8_5 ≤ (l0.length : Int) then ((some (l0.take (x8_5 : Int).toNat : List (S45))).bind fun y158 => (if y155.length + y158.length < 5864062014805 then ((some (y155 ++ y158 : List (S45))).bind fun y162 => ((some (([(⟨t139, a1⟩ : S45)] : List (S45)) : List (S45))).bind fun y165 => (if y162.length + y165.length < 5864062014805 then ((some (y162 ++ y165 : List (S45))).bind fun y168 => ((some (l0.drop (x8_5 : Int).toNat : List (S45))).bind fun y171 => (if y168.length + y171.length < 5864062014805 then (some ((y168 ++ y171), t139, true)) else (none)))) else (none)))) else (none))) else (none)) else (none)))) = some (r1, r2, r3) := by rw [if_neg (show ¬ (false = true) by decide)] at H; exact H
         clear H
         have H := H1
         clear H1
         by_cases c25 : x9_10 = true
         ·subst c25
          have H1 : ((some (([] : List (S45)) : List (S45))).bind fun y149 => (if y149.length + l0.length < 5864062014805 then (some ((y149 ++ l0), t139, true)) else (none))) = some (r1, r2, r3) := by rw [if_pos rfl] at H; exact H
          clear H
          have H := H1
          clear H1
          obtain ⟨y149, hy149⟩ : ∃ y_ : List (S45), y_ = (([] : List (S45))) := ⟨_, rfl⟩
          replace H : (if y149.length + l0.length < 5864062014805 then (some ((y149 ++ l0), t139, true)) else (none)) = some (r1, r2, r3) := hq_ hy149 H
          have Ny149 := Aside0.mk hy149
          clear hy149
          by_cases c26 : y149.length + l0.length < 5864062014805; rotate_left
          ·rw [if_neg c26] at H; exact absurd H (by simp)
          rw [if_pos c26] at H
          have LMc26 := Aside0.mk c26
          clear c26
          obtain ⟨y152, hy152⟩ : ∃ y_ : List (S45), y_ = (y149 ++ l0) := ⟨_, rfl⟩
          replace H : (some (y152, t139, true)) = some (r1, r2, r3) := hq_ hy152 H
          have Ny152 := Aside0.mk hy152
          clear hy152
          simp only [Option.some.injEq, Prod.mk.injEq] at H
          obtain ⟨rfl, rfl, rfl⟩ := H
          go_wp2_with (first | ((with_reducible refine gate_dst (N := 73) rfl ?_); refine Kd.R_lit k45 _ 45 ?hg (N := 73) ?hd (xs := ([] : List (S45))) (inner := []) (ok := fun _ => True) (okp := fun _ => True) ?hr ?hp (fun _ hk => hk) trivial (Below.refl _ _) (Nat.le_refl _) (by simp) ?_; (case hd => rfl); (case hg => rfl); (case hr => first | (go_simp; done) | (go_simp; rfl)); (case hp => exact (Reps.none _ _)); intro v150 w27 ho28 hb hg_ hnew_; clear hg_ hnew_; (first | rw [← Ny149.out] at ho28 | (simp only [Int.reduceToNat] at ho28; rw [← Ny149.out] at ho28)); have HO151 := Aside0.mk (Kd.R_lower ho28 (below_size hb_)); replace HB := Aside0.mk (below_step hb_ hb); clear hb ho28) | ((with_reducible refine gate_builtin (b := .append) (xs := #[.tmp 73, .tmp 74]) rfl ?_); at_builtin; refine Kd.R_append_rows k45 (w0 := w) w.heap.size rfl (.tmp 73) (.tmp 74) 29 45 (.agg #[(.int .i64 0), (.string ⟨#[]⟩)]) 24 rfl Try.underlying29 info45 rfl (by decide) (by omega) v150 y149 l0 _ _ _ (fun _ => True) (fun _ => False) rfl rfl ?aO ?aR (fun _ _ h => h) (fun _ h => h.elim) ?aF ?aB ?aS ?aL ?_; (case aR => repeat (first | exact (Kd.C_below HR0.out HB.out) | (with_reducible refine Kd.C_alloc ?_ _) | (with_reducible refine Kd.C_drewN ?_ _) | (with_reducible refine Kd.C_drew ?_))); (case aB => exact hb_); (case aF => exact (fun _ _ => trivial)); (case aO => exact (kR_ HO151.out)); (case aS => exact (below_size hb_)); (case aL => have := LMc26.out; omega); intro v153 w29 ho hb hg hat; rw [← Ny152.out] at ho; have n0_ := Aside0.mk (hb); have n1_ := Aside0.mk (ho); clear HB; clear HO151; have HB := n0_; have HO154 := n1_; clear n0_ n1_; clear ho hb hg hat))
          go_ret3
          exact ⟨_, er_, by (with_reducible repeat (first | apply Kd.R_alloc | apply Kd.R_drewN | apply Kd.R_drew)); exact HO154.out, hb_⟩
         ·replace c25 := Bool.eq_false_iff.mpr c25
          subst c25
          have H1 : ((some (([] : List (S45)) : List (S45))).bind fun y155 => (if 0 ≤ x8_5 then (if x8_5 ≤ (l0.length : Int) then ((some (l0.take (x8_5 : Int).toNat : List (S45))).bind fun y158 => (if y155.length + y158.length < 5864062014805 then ((some (y155 ++ y158 : List (S45))).bind fun y162 => ((some (([(⟨t139, a1⟩ : S45)] : List (S45)) : List (S45))).bind fun y165 => (if y162.length + y165.length < 5864062014805 then ((some (y162 ++ y165 : List (S45))).bind fun y168 => ((some (l0.drop (x8_5 : Int).toNat : List (S45))).bind fun y171 => (if y168.length + y171.length < 5864062014805 then (some ((y168 ++ y171), t139, true)) else (none)))) else (none)))) else (none))) else (none)) else (none))) = some (r1, r2, r3) := by rw [if_neg (show ¬ (false = true) by decide)] at H; exact H
          clear H
          have H := H1
          clear H1
          obtain ⟨y155, hy155⟩ : ∃ y_ : List (S45), y_ = (([] : List (S45))) := ⟨_, rfl⟩
          replace H : (if 0 ≤ x8_5 then (if x8_5 ≤ (l0.length : Int) then ((some (l0.take (x8_5 : Int).toNat : List (S45))).bind fun y158 => (if y155.length + y158.length < 5864062014805 then ((some (y155 ++ y158 : List (S45))).bind fun y162 => ((some (([(⟨t139, a1⟩ : S45)] : List (S45)) : List (S45))).bind fun y165 => (if y162.length + y165.length < 5864062014805 then ((some (y162 ++ y165 : List (S45))).bind fun y168 => ((some (l0.drop (x8_5 : Int).toNat : List (S45))).bind fun y171 => (if y168.length + y171.length < 5864062014805 then (some ((y168 ++ y171), t139, true)) else (none)))) else (none)))) else (none))) else (none)) else (none)) = some (r1, r2, r3) := hq_ hy155 H
          have Ny155 := Aside0.mk hy155
          clear hy155
          by_cases c30 : 0 ≤ x8_5; rotate_left
          ·rw [if_neg c30] at H; exact absurd H (by simp)
          rw [if_pos c30] at H
          have c30b0 := eq_true c30
          have c30b1 : decide (0 ≤ x8_5) = true := decide_eq_true c30
          clear c30
          by_cases c31 : x8_5 ≤ (l0.length : Int); rotate_left
          ·rw [if_neg c31] at H; exact absurd H (by simp)
          rw [if_pos c31] at H
          have c31b0 := eq_true c31
          have c31b1 : decide (x8_5 ≤ (l0.length : Int)) = true := decide_eq_true c31
          clear c31
          obtain ⟨y158, hy158⟩ : ∃ y_ : List (S45), y_ = (l0.take (x8_5 : Int).toNat) := ⟨_, rfl⟩
          replace H : (if y155.length + y158.length < 5864062014805 then ((some (y155 ++ y158 : List (S45))).bind fun y162 => ((some (([(⟨t139, a1⟩ : S45)] : List (S45)) : List (S45))).bind fun y165 => (if y162.length + y165.length < 5864062014805 then ((some (y162 ++ y165 : List (S45))).bind fun y168 => ((some (l0.drop (x8_5 : Int).toNat : List (S45))).bind fun y171 => (if y168.length + y171.length < 5864062014805 then (some ((y168 ++ y171), t139, true)) else (none)))) else (none)))) else (none)) = some (r1, r2, r3) := hq_ hy158 H
          have Ny158 := Aside0.mk hy158
          clear hy158
          by_cases c32 : y155.length + y158.length < 5864062014805; rotate_left
          ·rw [if_neg c32] at H; exact absurd H (by simp)
          rw [if_pos c32] at H
          have LMc32 := Aside0.mk c32
          clear c32
          obtain ⟨y162, hy162⟩ : ∃ y_ : List (S45), y_ = (y155 ++ y158) := ⟨_, rfl⟩
          replace H : ((some (([(⟨t139, a1⟩ : S45)] : List (S45)) : List (S45))).bind fun y165 => (if y162.length + y165.length < 5864062014805 then ((some (y162 ++ y165 : List (S45))).bind fun y168 => ((some (l0.drop (x8_5 : Int).toNat : List (S45))).bind fun y171 => (if y168.length + y171.length < 5864062014805 then (some ((y168 ++ y171), t139, true)) else (none)))) else (none))) = some (r1, r2, r3) := hq_ hy162 H
          have Ny162 := Aside0.mk hy162
          clear hy162
          obtain ⟨y165, hy165⟩ : ∃ y_ : List (S45), y_ = (([(⟨t139, a1⟩ : S45)] : List (S45))) := ⟨_, rfl⟩
          replace H : (if y162.length + y165.length < 5864062014805 then ((some (y162 ++ y165 : List (S45))).bind fun y168 => ((some (l0.drop (x8_5 : Int).toNat : List (S45))).bind fun y171 => (if y168.length + y171.length < 5864062014805 then (some ((y168 ++ y171), t139, true)) else (none)))) else (none)) = some (r1, r2, r3) := hq_ hy165 H
          have Ny165 := Aside0.mk hy165
          clear hy165
          by_cases c33 : y162.length + y165.length < 5864062014805; rotate_left
          ·rw [if_neg c33] at H; exact absurd H (by simp)
          rw [if_pos c33] at H
          have LMc33 := Aside0.mk c33
          clear c33
          obtain ⟨y168, hy168⟩ : ∃ y_ : List (S45), y_ = (y162 ++ y165) := ⟨_, rfl⟩
          replace H : ((some (l0.drop (x8_5 : Int).toNat : List (S45))).bind fun y171 => (if y168.length + y171.length < 5864062014805 then (some ((y168 ++ y171), t139, true)) else (none))) = some (r1, r2, r3) := hq_ hy168 H
          have Ny168 := Aside0.mk hy168
          clear hy168
          have c34b0 := eq_true (dt_ : 0 ≤ x8_5)
          have c35b0 := eq_true (dt_ : x8_5 ≤ (l0.length : Int))
          obtain ⟨y171, hy171⟩ : ∃ y_ : List (S45), y_ = (l0.drop (x8_5 : Int).toNat) := ⟨_, rfl⟩
          replace H : (if y168.length + y171.length < 5864062014805 then (some ((y168 ++ y171), t139, true)) else (none)) = some (r1, r2, r3) := hq_ hy171 H
          have Ny171 := Aside0.mk hy171
          clear hy171
          by_cases c36 : y168.length + y171.length < 5864062014805; rotate_left
          ·rw [if_neg c36] at H; exact absurd H (by simp)
          rw [if_pos c36] at H
          have LMc36 := Aside0.mk c36
          clear c36
          obtain ⟨y175, hy175⟩ : ∃ y_ : List (S45), y_ = (y168 ++ y171) := ⟨_, rfl⟩
          replace H : (some (y175, t139, true)) = some (r1, r2, r3) := hq_ hy175 H
          have Ny175 := Aside0.mk hy175
          clear hy175
          simp only [Option.some.injEq, Prod.mk.injEq] at H
          obtain ⟨rfl, rfl, rfl⟩ := H
          try go_wp2
          replace HB := Aside0.mk (below_drew1 HB.out)
          have q38 : (x8_5 : Int) ≤ ((l0.length : Int) : Int) := dt_
          obtain ⟨i038, hi038, _, hsz38, _⟩ := info_parts info45
          have hroom38 : l0.length ≤ c0 := HC0.out
          have hC38 : Kd.C k45 _ A0 l0.length l0 := HR0.out
          have hcut38 := cut_to (P := Try.prog) 29 45 .i64 Try.underlying29 hi038 A0 l0.length c0 x8_5 (dt_) q38 hroom38
          have hr38 := Kd.C_take (m := (x8_5 : Int).toNat) hC38 (by omega)
          have hy38 : y158.length = (x8_5 : Int).toNat := (by rw [Ny158.out, List.length_take]; omega)
          rw [← Ny158.out] at hr38
          rw [← hy38] at hcut38
          have HR161 := Aside0.mk hr38
          have HC161 := Aside0.mk (show y158.length ≤ c0 from by omega)
          clear hr38 hC38 hroom38 hi038 hsz38
          have KY38 := Aside0.mk hy38
          clear hy38
          replace q38 := eq_true q38
          have q39 : (x8_5 : Int) ≤ ((l0.length : Int) : Int) := dt_
          obtain ⟨i039, hi039, _, hsz39, _⟩ := info_parts info45
          have hroom39 : l0.length ≤ c0 := HC0.out
          have hC39 : Kd.C k45 _ A0 l0.length l0 := HR0.out
          have q039 : (0 : Int) ≤ (x8_5 : Int) := dt_
          have hcut39 := cut_from (P := Try.prog) 29 45 .i64 Try.underlying29 hi039 2 hsz39 A0 l0.length c0 x8_5 q039 q39
          have hr39 := Kd.C_drop (m := (x8_5 : Int).toNat) (c := c0) hC39 (by omega) hroom39
          obtain ⟨A39, hA39⟩ : ∃ A1, A1 = (if c0 = (x8_5 : Int).toNat then A0 else (A0 : Option Addr).map (·.add ((x8_5 : Int).toNat * 2))) := ⟨_, rfl⟩
          obtain ⟨c39, hc39⟩ : ∃ c1, c1 = c0 - (x8_5 : Int).toNat := ⟨_, rfl⟩
          have hy39 : y171.length = l0.length - (x8_5 : Int).toNat := (by rw [Ny171.out, List.length_drop] <;> omega)
          rw [show (l0).drop (x8_5 : Int).toNat = y171 from Ny171.out.symm] at hr39
          replace hr39 : Kd.C k45 _ A39 y171.length y171 := (by rw [hA39]; exact hr39)
          rw [← hy39, ← hA39, ← hc39] at hcut39
          have HR174 := Aside0.mk hr39
          have HC174 := Aside0.mk (show y171.length ≤ c39 from by rw [hy39, hc39]; exact Nat.sub_le_sub_right hroom39 _)
          clear hr39 hC39 hroom39 hi039 hsz39 hc39
          have KY39 := Aside0.mk hy39
          have KA39 := Aside0.mk hA39
          clear hy39 hA39
          replace q39 := eq_true q39
          refine start_ (n := 18) (S := fun w' => True) (ds := []) (tf_ 0 18) (by kernel_rfl) rfl rfl trivial (fun hHeld => ?_); refine with_tabW spec_PutText.tab12 spec_PutText.bits12 (fun HT_ HW_ => ?_)
          generalize wc.drew = w37 at HB HR161 HR174 hHeld ⊢
          refine pa_ (i := 1) (N := some 78) (tb_ 18 2) ?_
          refine pa_ (i := 2) (N := some 79) (tb_ 18 6) ?_
          refine pa_ (i := 3) (N := some 80) (tb_ 18 14) ?_
          refine pa_ (i := 5) (N := some 82) (tb_ 18 46) ?_
          refine pa_ (i := 6) (N := some 83) (tb_ 18 110) ?_
          refine pa_ (i := 7) (N := some 84) (tb_ 18 238) ?_
          refine pa_ (i := 10) (N := some 87) (tb_ 18 1262) ?_
          refine pa_ (i := 11) (N := some 88) (tb_ 18 3310) ?_
          refine pa_ (i := 12) (N := some 89) (tb_ 18 7406) ?_
          refine pa_ (i := 14) (N := some 91) (tb_ 18 23790) ?_
          refine join_ (σ := Value × Value × Value) 5 (tb_ 18 24063) (fun s_ => [(77, s_.1), (81, s_.2.1), (85, s_.2.2)]) (fun s_ w' => (Kd.R k45 45 w' w.heap.size (fun k_ => some k_ ≠ (s_.2.2 : Value).ownBlock) s_.2.1 y162) ∧ (Kd.R k45 45 w' w.heap.size (fun k_ => some k_ ≠ (s_.2.1 : Value).ownBlock) s_.2.2 y165) ∧ (Below w.heap.size w w')) ?_ ?_
          rotate_left
          ·intro hCont
           refine two_ (i := 0) (j := 8) (Ni := some 77) (Nj := some 85) (tb_ 18 23791) (tb_ 18 24046) rfl rfl rfl rfl (two_of HT_.out (by kernel_rfl)) (by decide) (by decide) (fun K hK => ?_) (fun K hK => ?_)
           ·skip
            refine Kd.R_lit_step k45 _ 45 ?hg (N := 77) ?hd (xs := ([] : List (S45))) (inner := []) (ok := fun _ => True) (okp := fun _ => True) ?hr ?hp (fun _ hk => hk) trivial (Below.refl _ _) (Nat.le_refl _) (by simp) ?_; (case hd => rfl); (case hg => rfl); (case hr => first | (go_simp; done) | (go_simp; rfl)); (case hp => exact (Reps.none _ _))
            intro v156 w40 ho41 hb hg_ hnew_
            clear hg_ hnew_
            (first | rw [← Ny155.out] at ho41 | (simp only [Int.reduceToNat] at ho41; rw [← Ny155.out] at ho41))
            have HO157 := Aside0.mk (Kd.R_lower ho41 (below_size hb_))
            replace HB := Aside0.mk (below_step hb_ hb)
            clear hb ho41
            refine hK.out _ _ trivial (fun hHeld => ?_)
            clear hK K
            refine norm_ (a' := ?_) ?_ ?_
            rotate_left
            ·show Act.put _ (some 77) _ = _
             simp only [Act.put, List.setIfInBounds_toArray, List.set_cons_zero, List.set_cons_succ, i64_w, i32_w]
             rfl
            refine two_ (i := 4) (j := 8) (Ni := some 81) (Nj := some 85) (tb_ 18 23807) (tb_ 18 24047) rfl rfl rfl rfl (two_of HT_.out (by kernel_rfl)) (by decide) (by decide) (fun K hK => ?_) (fun K hK => ?_)
            ·skip
             refine Kd.R_append_rows_step k45 (w0 := w) w.heap.size (by rfl) (.tmp 77) (.tmp 80) 29 45 (.agg #[(.int .i64 0), (.string ⟨#[]⟩)]) 24 rfl Try.underlying29 info45 rfl (by decide) (by omega) v156 y155 y158 _ _ _ (fun _ => True) (fun _ => False) rfl rfl ?aO ?aR (fun _ _ h => h) (fun _ h => h.elim) ?aF ?aB ?aS ?aL ?_
             (case aR => repeat (first | exact (Kd.C_below HR161.out HB.out) | (with_reducible refine Kd.C_alloc ?_ _) | (with_reducible refine Kd.C_drewN ?_ _) | (with_reducible refine Kd.C_drew ?_)))
             (case aB => exact hb_)
             (case aF => exact (fun _ _ => trivial))
             (case aO => exact (kR_ HO157.out))
             (case aS => exact (below_size hb_))
             (case aL => have := LMc32.out; omega)
             intro v163 w42 ho hb hg hat
             rw [← Ny162.out] at ho
             have n0_ := Aside0.mk (hb)
             have n1_ := Aside0.mk (ho)
             clear HB
             clear HO157
             have HB := n0_
             have HO164 := n1_
             clear n0_ n1_
             clear ho hb hg hat
             refine hK.out _ _ trivial (fun hHeld => ?_)
             clear hK K
             refine norm_ (a' := ?_) ?_ ?_
             rotate_left
             ·show Act.put _ (some 81) _ = _
              simp only [Act.put, List.setIfInBounds_toArray, List.set_cons_zero, List.set_cons_succ, i64_w, i32_w]
              rfl
             refine one_ (i := 8) (N := some 85) (tb_ 18 24063) rfl rfl (one_of HT_.out (by kernel_rfl)) (by decide) (fun K hK => ?_)
             refine Kd.R_lit_step k45 _ 45 ?hg (N := 85) ?hd (xs := ([(⟨t139, a1⟩ : S45)] : List (S45))) (inner := [.int .i64 t139, .string a1]) (ok := fun _ => True) (okp := fun _ => True) ?hr ?hp (fun _ hk => hk) trivial (Below.refl _ _) (Nat.le_refl _) (by simp) ?_; (case hd => rfl); (case hg => rfl); (case hr => first | (go_simp; done) | (go_simp; rfl)); (case hp => exact (Reps.c2 (show Kd.M k45 _ _ _ (⟨t139, a1⟩ : S45) [.int .i64 t139, .string a1] from (k45_mkM _ _ _ (⟨t139, a1⟩ : S45) )) (Reps.none _ _)))
             intro v166 w43 ho44 hb hg_ hnew_
             clear hg_ hnew_
             (first | rw [← Ny165.out] at ho44 | (simp only [Int.reduceToNat] at ho44; rw [← Ny165.out] at ho44))
             have HO167 := Aside0.mk (Kd.R_lower (Kd.R_new' ho44 (Kd.R_lt (kR_ HO164.out))) (below_size hb_))
             replace HO164 := Aside0.mk (Kd.R_elder' (kR_ HO164.out) (Kd.R_base ho44) hb)
             replace HB := Aside0.mk (below_step hb_ hb)
             clear hb ho44
             refine hK.out _ _ trivial (fun hHeld => ?_)
             clear hK K
             refine norm_ (a' := ?_) ?_ ?_
             rotate_left
             ·show Act.put _ (some 85) _ = _
              simp only [Act.put, List.setIfInBounds_toArray, List.set_cons_zero, List.set_cons_succ, i64_w, i32_w]
              rfl
             exact norm_ (by simp only [putAll, Act.put, List.setIfInBounds_toArray, List.set_cons_zero, List.set_cons_succ]) (hCont (v156, v163, v166) _ ⟨(by refine kR_ ?_; exact Kd.R_mono HO164.out (fun _ hk => hk.2)), (by refine kR_ ?_; exact Kd.R_mono HO167.out (fun _ hk => hk.2)), hb_⟩)
            ·skip
             refine Kd.R_lit_step k45 _ 45 ?hg (N := 85) ?hd (xs := ([(⟨t139, a1⟩ : S45)] : List (S45))) (inner := [.int .i64 t139, .string a1]) (ok := fun _ => True) (okp := fun _ => True) ?hr ?hp (fun _ hk => hk) trivial (Below.refl _ _) (Nat.le_refl _) (by simp) ?_; (case hd => rfl); (case hg => rfl); (case hr => first | (go_simp; done) | (go_simp; rfl)); (case hp => exact (Reps.c2 (show Kd.M k45 _ _ _ (⟨t139, a1⟩ : S45) [.int .i64 t139, .string a1] from (k45_mkM _ _ _ (⟨t139, a1⟩ : S45) )) (Reps.none _ _)))
             intro v166 w42 ho43 hb hg_ hnew_
             clear hg_ hnew_
             (first | rw [← Ny165.out] at ho43 | (simp only [Int.reduceToNat] at ho43; rw [← Ny165.out] at ho43))
             have HO167 := Aside0.mk (Kd.R_lower (Kd.R_new' ho43 (Kd.R_lt (kR_ HO157.out))) (below_size hb_))
             replace HO157 := Aside0.mk (Kd.R_elder' (kR_ HO157.out) (Kd.R_base ho43) hb)
             replace HB := Aside0.mk (below_step hb_ hb)
             clear hb ho43
             refine hK.out _ _ trivial (fun hHeld => ?_)
             clear hK K
             refine norm_ (a' := ?_) ?_ ?_
             rotate_left
             ·show Act.put _ (some 85) _ = _
              simp only [Act.put, List.setIfInBounds_toArray, List.set_cons_zero, List.set_cons_succ, i64_w, i32_w]
              rfl
             refine one_ (i := 4) (N := some 81) (tb_ 18 24063) rfl rfl (one_of HT_.out (by kernel_rfl)) (by decide) (fun K hK => ?_)
             refine Kd.R_append_rows_step k45 (w0 := w) w.heap.size (by rfl) (.tmp 77) (.tmp 80) 29 45 (.agg #[(.int .i64 0), (.string ⟨#[]⟩)]) 24 rfl Try.underlying29 info45 rfl (by decide) (by omega) v156 y155 y158 _ _ _ (fun k_ => some k_ ≠ (v166 : Value).ownBlock) (fun _ => False) rfl rfl ?aO ?aR (fun _ _ h => h) (fun _ h => h.elim) ?aF ?aB ?aS ?aL ?_
             (case aR => repeat (first | exact (Kd.C_below HR161.out HB.out) | (with_reducible refine Kd.C_alloc ?_ _) | (with_reducible refine Kd.C_drewN ?_ _) | (with_reducible refine Kd.C_drew ?_)))
             (case aB => exact hb_)
             (case aF => exact (fun k_ hk => Kd.fresh' (Kd.R_lt (kR_ HO167.out)) k_ hk))
             (case aO => exact (by refine kR_ ?_; exact Kd.R_mono HO157.out (fun _ hk => hk.2)))
             (case aS => exact (below_size hb_))
             (case aL => have := LMc32.out; omega)
             intro v163 w44 ho hb hg hat
             rw [← Ny162.out] at ho
             have n0_ := Aside0.mk (Kd.R_after (ok := (fun _ => True)) (kR_ HO167.out) hg hat)
             have n1_ := Aside0.mk (hb)
             have n2_ := Aside0.mk (ho)
             clear HO167
             clear HB
             clear HO157
             have HO167 := n0_
             have HB := n1_
             have HO164 := n2_
             clear n0_ n1_ n2_
             clear ho hb hg hat
             refine hK.out _ _ trivial (fun hHeld => ?_)
             clear hK K
             refine norm_ (a' := ?_) ?_ ?_
             rotate_left
             ·show Act.put _ (some 81) _ = _
              simp only [Act.put, List.setIfInBounds_toArray, List.set_cons_zero, List.set_cons_succ, i64_w, i32_w]
              rfl
             exact norm_ (by simp only [putAll, Act.put, List.setIfInBounds_toArray, List.set_cons_zero, List.set_cons_succ]) (hCont (v156, v163, v166) _ ⟨(kR_ HO164.out), (by refine kR_ ?_; exact Kd.R_mono HO167.out (fun _ hk => hk.2)), hb_⟩)
           ·skip
            refine Kd.R_lit_step k45 _ 45 ?hg (N := 85) ?hd (xs := ([(⟨t139, a1⟩ : S45)] : List (S45))) (inner := [.int .i64 t139, .string a1]) (ok := fun _ => True) (okp := fun _ => True) ?hr ?hp (fun _ hk => hk) trivial (Below.refl _ _) (Nat.le_refl _) (by simp) ?_; (case hd => rfl); (case hg => rfl); (case hr => first | (go_simp; done) | (go_simp; rfl)); (case hp => exact (Reps.c2 (show Kd.M k45 _ _ _ (⟨t139, a1⟩ : S45) [.int .i64 t139, .string a1] from (k45_mkM _ _ _ (⟨t139, a1⟩ : S45) )) (Reps.none _ _)))
            intro v166 w40 ho41 hb hg_ hnew_
            clear hg_ hnew_
            (first | rw [← Ny165.out] at ho41 | (simp only [Int.reduceToNat] at ho41; rw [← Ny165.out] at ho41))
            have HO167 := Aside0.mk (Kd.R_lower ho41 (below_size hb_))
            replace HB := Aside0.mk (below_step hb_ hb)
            clear hb ho41
            refine hK.out _ _ trivial (fun hHeld => ?_)
            clear hK K
            refine norm_ (a' := ?_) ?_ ?_
            rotate_left
            ·show Act.put _ (some 85) _ = _
             simp only [Act.put, List.setIfInBounds_toArray, List.set_cons_zero, List.set_cons_succ, i64_w, i32_w]
             rfl
            refine one_ (i := 0) (N := some 77) (tb_ 18 24047) rfl rfl (one_of HT_.out (by kernel_rfl)) (by decide) (fun K hK => ?_)
            refine Kd.R_lit_step k45 _ 45 ?hg (N := 77) ?hd (xs := ([] : List (S45))) (inner := []) (ok := fun _ => True) (okp := fun _ => True) ?hr ?hp (fun _ hk => hk) trivial (Below.refl _ _) (Nat.le_refl _) (by simp) ?_; (case hd => rfl); (case hg => rfl); (case hr => first | (go_simp; done) | (go_simp; rfl)); (case hp => exact (Reps.none _ _))
            intro v156 w42 ho43 hb hg_ hnew_
            clear hg_ hnew_
            (first | rw [← Ny155.out] at ho43 | (simp only [Int.reduceToNat] at ho43; rw [← Ny155.out] at ho43))
            have HO157 := Aside0.mk (Kd.R_lower (Kd.R_new' ho43 (Kd.R_lt (kR_ HO167.out))) (below_size hb_))
            replace HO167 := Aside0.mk (Kd.R_elder' (kR_ HO167.out) (Kd.R_base ho43) hb)
            replace HB := Aside0.mk (below_step hb_ hb)
            clear hb ho43
            refine hK.out _ _ trivial (fun hHeld => ?_)
            clear hK K
            refine norm_ (a' := ?_) ?_ ?_
            rotate_left
            ·show Act.put _ (some 77) _ = _
             simp only [Act.put, List.setIfInBounds_toArray, List.set_cons_zero, List.set_cons_succ, i64_w, i32_w]
             rfl
            refine one_ (i := 4) (N := some 81) (tb_ 18 24063) rfl rfl (one_of HT_.out (by kernel_rfl)) (by decide) (fun K hK => ?_)
            refine Kd.R_append_rows_step k45 (w0 := w) w.heap.size (by rfl) (.tmp 77) (.tmp 80) 29 45 (.agg #[(.int .i64 0), (.string ⟨#[]⟩)]) 24 rfl Try.underlying29 info45 rfl (by decide) (by omega) v156 y155 y158 _ _ _ (fun k_ => some k_ ≠ (v166 : Value).ownBlock) (fun _ => False) rfl rfl ?aO ?aR (fun _ _ h => h) (fun _ h => h.elim) ?aF ?aB ?aS ?aL ?_
            (case aR => repeat (first | exact (Kd.C_below HR161.out HB.out) | (with_reducible refine Kd.C_alloc ?_ _) | (with_reducible refine Kd.C_drewN ?_ _) | (with_reducible refine Kd.C_drew ?_)))
            (case aB => exact hb_)
            (case aF => exact (fun k_ hk => Kd.fresh' (Kd.R_lt (kR_ HO167.out)) k_ hk))
            (case aO => exact (by refine kR_ ?_; exact Kd.R_mono HO157.out (fun _ hk => hk.2)))
            (case aS => exact (below_size hb_))
            (case aL => have := LMc32.out; omega)
            intro v163 w44 ho hb hg hat
            rw [← Ny162.out] at ho
            have n0_ := Aside0.mk (Kd.R_after (ok := (fun _ => True)) (kR_ HO167.out) hg hat)
            have n1_ := Aside0.mk (hb)
            have n2_ := Aside0.mk (ho)
            clear HO167
            clear HB
            clear HO157
            have HO167 := n0_
            have HB := n1_
            have HO164 := n2_
            clear n0_ n1_ n2_
            clear ho hb hg hat
            refine hK.out _ _ trivial (fun hHeld => ?_)
            clear hK K
            refine norm_ (a' := ?_) ?_ ?_
            rotate_left
            ·show Act.put _ (some 81) _ = _
             simp only [Act.put, List.setIfInBounds_toArray, List.set_cons_zero, List.set_cons_succ, i64_w, i32_w]
             rfl
            exact norm_ (by simp only [putAll, Act.put, List.setIfInBounds_toArray, List.set_cons_zero, List.set_cons_succ]) (hCont (v156, v163, v166) _ ⟨(kR_ HO164.out), (by refine kR_ ?_; exact Kd.R_mono HO167.out (fun _ hk => hk.2)), hb_⟩)
          rintro ⟨v156, v163, v166⟩ w45 ⟨h0_, h1_, h2_⟩
          have n0_ : Aside0 (Kd.R k45 45 w45 w.heap.size (fun k_ => some k_ ≠ (v166 : Value).ownBlock) v163 y162) := ⟨h0_⟩
          have n1_ : Aside0 (Kd.R k45 45 w45 w.heap.size (fun k_ => some k_ ≠ (v163 : Value).ownBlock) v166 y165) := ⟨h1_⟩
          have n2_ : Aside0 (Below w.heap.size w w45) := ⟨h2_⟩
          clear HB
          clear h0_ h1_ h2_
          have HO164 := n0_
          have HO167 := n1_
          have HB := n2_
          clear n0_ n1_ n2_
          have hHeld := trivial
          obtain ⟨Ao47, co47, eo47⟩ := Kd.R_slice HO167.out
          (first | subst eo47 | (injection eo47 with f1_ f2_ f3_; have f4_ := f1_.symm; have f5_ := f3_.symm; clear f1_ f2_ f3_; subst f4_; subst f5_))
          refine norm_ (a' := ?_) ?_ ?_
          rotate_left
          ·simp only [putAll, Act.put, List.setIfInBounds_toArray, List.set_cons_zero, List.set_cons_succ]
           rfl
          refine one_ (i := 9) (N := some 86) (tb_ 18 24575) rfl rfl (one_of HT_.out (by kernel_rfl)) (by decide) (fun K hK => ?_)
          refine Kd.R_append_rows_step k45 (w0 := w) w.heap.size (by rfl) (.tmp 81) (.tmp 85) 29 45 (.agg #[(.int .i64 0), (.string ⟨#[]⟩)]) 24 rfl Try.underlying29 info45 rfl (by decide) (by omega) v163 y162 y165 _ _ _ (fun k_ => some k_ ≠ (.slice Ao47 y165.length co47 : Value).ownBlock) (fun _ => False) rfl rfl ?aO ?aR (fun _ _ h => h) (fun _ h => h.elim) ?aF ?aB ?aS ?aL ?_
          (case aR => repeat (first | exact (Kd.R_reads' HO167.out).2.2 | (with_reducible refine Kd.C_alloc ?_ _) | (with_reducible refine Kd.C_drewN ?_ _) | (with_reducible refine Kd.C_drew ?_)))
          (case aB => exact hb_)
          (case aF => exact (fun k_ hk => Kd.fresh' (Kd.R_lt (kR_ HO167.out)) k_ hk))
          (case aO => exact (kR_ HO164.out))
          (case aS => exact (below_size hb_))
          (case aL => have := LMc33.out; omega)
          intro v169 w46 ho hb hg hat
          rw [← Ny168.out] at ho
          have n0_ := Aside0.mk (Kd.R_after (ok := (fun _ => True)) (by refine kR_ ?_; exact Kd.R_mono HO167.out (fun _ hk => ⟨trivial, hk⟩)) hg hat)
          have n1_ := Aside0.mk (hb)
          have n2_ := Aside0.mk (ho)
          clear HO167
          clear HB
          clear HO164
          have HO167 := n0_
          have HB := n1_
          have HO170 := n2_
          clear n0_ n1_ n2_
          clear ho hb hg hat
          refine hK.out _ _ trivial (fun hHeld => ?_)
          clear hK K
          refine norm_ (a' := ?_) ?_ ?_
          rotate_left
          ·show Act.put _ (some 86) _ = _
           simp only [Act.put, List.setIfInBounds_toArray, List.set_cons_zero, List.set_cons_succ, i64_w, i32_w]
           rfl
          refine one_ (i := 13) (N := some 90) (tf_ 15 3) rfl rfl (one_of HT_.out (by kernel_rfl)) (by decide) (fun K hK => ?_)
          refine Kd.R_append_rows_step k45 (w0 := w) w.heap.size (by rfl) (.tmp 86) (.tmp 89) 29 45 (.agg #[(.int .i64 0), (.string ⟨#[]⟩)]) 24 rfl Try.underlying29 info45 rfl (by decide) (by omega) v169 y168 y171 _ _ _ (fun k_ => some k_ ≠ (.slice Ao47 y165.length co47 : Value).ownBlock) (fun _ => False) rfl rfl ?aO ?aR (fun _ _ h => h) (fun _ h => h.elim) ?aF ?aB ?aS ?aL ?_
          (case aR => repeat (first | exact (Kd.C_below HR174.out HB.out) | (with_reducible refine Kd.C_alloc ?_ _) | (with_reducible refine Kd.C_drewN ?_ _) | (with_reducible refine Kd.C_drew ?_)))
          (case aB => exact hb_)
          (case aF => exact (fun k_ hk => Kd.fresh' (Kd.R_lt (kR_ HO167.out)) k_ hk))
          (case aO => exact (kR_ HO170.out))
          (case aS => exact (below_size hb_))
          (case aL => have := LMc36.out; omega)
          intro v176 w48 ho hb hg hat
          rw [← Ny175.out] at ho
          have n0_ := Aside0.mk (Kd.R_after (ok := (fun _ => True)) (kR_ HO167.out) hg hat)
          have n1_ := Aside0.mk (hb)
          have n2_ := Aside0.mk (ho)
          clear HO167
          clear HB
          clear HO170
          have HO167 := n0_
          have HB := n1_
          have HO177 := n2_
          clear n0_ n1_ n2_
          clear ho hb hg hat
          refine hK.out _ _ trivial (fun hHeld => ?_)
          clear hK K
          refine norm_ (a' := ?_) ?_ ?_
          rotate_left
          ·show Act.put _ (some 90) _ = _
           simp only [Act.put, List.setIfInBounds_toArray, List.set_cons_zero, List.set_cons_succ, i64_w, i32_w]
           rfl
          refine paA_ 15 4 16 2 ?_
          refine paA_ 16 5 17 1 ?_
          refine paA_ 17 6 18 0 ?_
          refine done_ (done_of HT_.out (by kernel_rfl)) ?_
          try go_wp2
          go_ret3
          exact ⟨_, er_, by (with_reducible repeat (first | apply Kd.R_alloc | apply Kd.R_drewN | apply Kd.R_drew)); exact Kd.R_mono HO177.out (fun _ hk => trivial), hb_⟩
 ·replace c4 := Bool.eq_false_iff.mpr c4
  subst c4
  have H1 : (some ((([] : List (S45))), (-1), false)) = some (r1, r2, r3) := by rw [if_neg (show ¬ (false = true) by decide)] at H; exact H
  clear H
  have H := H1
  clear H1
  obtain ⟨y136, hy136⟩ : ∃ y_ : List (S45), y_ = (([] : List (S45))) := ⟨_, rfl⟩
  replace H : (some (y136, (-1), false)) = some (r1, r2, r3) := hq_ hy136 H
  have Ny136 := Aside0.mk hy136
  clear hy136
  simp only [Option.some.injEq, Prod.mk.injEq] at H
  obtain ⟨rfl, rfl, rfl⟩ := H
  go_enter Try.func30, Try.ntmps30
  go_wp2_with (first | ((with_reducible refine gate_callee (f := 25) rfl ?_); refine goesL_ (some 11) rfl rfl Try.func25 (by kernel_rfl) rfl #[.slice A0 l0.length c0] rfl sl_ ?_; (with_reducible refine (spec_StoreValid.calls k _ _ l0 false _ ?side1 ?side2 A3.out).mono ?_); (case side1 => exact kC_ HR0.out); (case side2 => exact HC0.out); rintro e w49 ⟨rfl, hb⟩; refine ⟨_, rfl, ?_⟩; replace HB := Aside0.mk (below_step hb_ hb); (try clear hb); (try clear hk)) | ((with_reducible refine gate_dst (N := 13) rfl ?_); refine Kd.R_lit k45 _ 45 ?hg (N := 13) ?hd (xs := ([] : List (S45))) (inner := []) (ok := fun _ => True) (okp := fun _ => True) ?hr ?hp (fun _ hk => hk) trivial (Below.refl _ _) (Nat.le_refl _) (by simp) ?_; (case hd => rfl); (case hg => rfl); (case hr => first | (go_simp; done) | (go_simp; rfl)); (case hp => exact (Reps.none _ _)); intro v137 w50 ho51 hb hg_ hnew_; clear hg_ hnew_; (first | rw [← Ny136.out] at ho51 | (simp only [Int.reduceToNat] at ho51; rw [← Ny136.out] at ho51)); have HO138 := Aside0.mk (Kd.R_lower ho51 (below_size hb_)); replace HB := Aside0.mk (below_step hb_ hb); clear hb ho51))
  go_ret3
  exact ⟨_, er_, by (with_reducible repeat (first | apply Kd.R_alloc | apply Kd.R_drewN | apply Kd.R_drew)); exact HO138.out, hb_⟩
/-! ### spec_l1In: function 50 -/
def spec_l1In.f (a0 : Int) (a1 : Int) (a2 : Int) : Option (Bool) := if a0 ≥ a1 then (some (decide (a0 ≤ a2))) else (some false)
set_option maxHeartbeats 8000000 in
set_option maxRecDepth 100000 in
theorem spec_l1In.calls (a0 : Int) (a1 : Int) (a2 : Int) (r : Bool) (w : World) (h : spec_l1In.f a0 a1 a2 = some r) :
  Calls Try.prog 50 #[.int .i64 a0, .int .i64 a1, .int .i64 a2] w fun e w' => e = .returned (.bool r) ∧ Drawn0 w w' := by
 have H : (if a0 ≥ a1 then (some (decide (a0 ≤ a2))) else (some false)) = some r := h
 clear h
 by_cases c4 : a0 ≥ a1
 ·rw [if_pos c4] at H
  have c4b0 : decide (a1 ≤ a0) = true := decide_eq_true c4
  clear c4
  obtain rfl := Option.some.inj H
  go_enter Try.func50, Try.ntmps50
  go_wp2
  go_ret
  exact ⟨by first | rfl | (simp; done) | (simp [*]; done), by repeat (first | exact Drawn0.refl _ | apply Drawn0.step)⟩
 ·rw [if_neg c4] at H
  have c4b0 : decide (a1 ≤ a0) = false := decide_eq_false c4
  clear c4
  obtain rfl := Option.some.inj H
  go_enter Try.func50, Try.ntmps50
  go_wp2
  go_ret
  exact ⟨by first | rfl | (simp; done) | (simp [*]; done), by repeat (first | exact Drawn0.refl _ | apply Drawn0.step)⟩
end Go.Proofs.Ytjgbidklkhohfaa.P
