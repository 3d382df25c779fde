-- The functions of the seat as plain Lean functions, made by the kit's print.py for all laws at once. Not trusted: Lean checks it.
import Derived.Test.YtjgbidklkhohfaaGreatDoorPx0
import Derived.Test.YtjgbidklkhohfaaGreatDoorPx1
namespace Go.Proofs.YtjgbidklkhohfaaGreatDoor.P
open Go.RowKit Go.Proofs.YtjgbidklkhohfaaGreatDoorW.PrintWords Go.Proofs.YtjgbidklkhohfaaGreatDoorW.PrintLast Go.Proofs.YtjgbidklkhohfaaGreatDoorW.PrintMore
attribute [local go_sem] max2_int min2_int max_two min_two max_three min_three max_four min_four   -- for this text's walks alone
set_option linter.unusedVariables false
set_option linter.unusedSimpArgs false
/-! ### spec_EntriesValid: function 102 -/
def spec_EntriesValid.l0 : Nat → List (S75) → Int → Option (Bool)
 | 0, _, _ => none
 | k + 1, x0, x3 => if x3 < (x0.length : Int) then (if 0 ≤ x3 then ((spec_WordValid.f k ((rd_T75 x0 x3).f0)).bind fun t121 => (if t121 = true then ((spec_l1In.f ((rd_T75 x0 x3).f1) 0 16777212).bind fun t123 => (if t123 = true then (if x3 > 0 then (if 0 ≤ (wrap64 (x3 - 1)) then (if (wrap64 (x3 - 1)) < (x0.length : Int) then (if ((Op.bytesLess (((rd_T75 x0 (wrap64 (x3 - 1))).f0).toList) (((rd_T75 x0 x3).f0).toList)) = true) then (spec_EntriesValid.l0 k x0 (wrap64 (x3 + 1))) else (some false)) else (none)) else (none)) else (spec_EntriesValid.l0 k x0 (wrap64 (x3 + 1)))) else (some false))) else (some false))) else (none)) else (some (decide ((x0.length : Int) ≤ 3)))
def spec_EntriesValid.f (k : Nat) (l0 : List (S75)) : Option (Bool) := spec_EntriesValid.l0 k l0 0
theorem spec_EntriesValid.mono_l : ∀ k, (∀ y0 y1, LeO (spec_EntriesValid.l0 k y0 y1) (spec_EntriesValid.l0 (k + 1) y0 y1))
 | 0 => fun _ _ r h => by simp [spec_EntriesValid.l0] at h
 | k + 1 => by
  have ih0 := spec_EntriesValid.mono_l k
  ·intro y0 y1
   unfold spec_EntriesValid.l0
   repeat' first
   | (with_reducible exact ih0 _ _)
   | (with_reducible exact spec_WordValid.mono _ _)
   | (with_reducible exact LeO.refl _)
   | (with_reducible exact LeO.none _)
   | (with_reducible refine LeO.ite ?_ ?_)
   | (with_reducible refine LeO.bind ?_ (fun _ => ?_))
   | exact ih0 _ _
   | exact spec_WordValid.mono _ _
   | exact LeO.none _
   | refine LeO.ite ?_ ?_
   | refine LeO.bind ?_ (fun _ => ?_)
theorem spec_EntriesValid.mono : ∀ a0 k, LeO (spec_EntriesValid.f k a0) (spec_EntriesValid.f (k + 1) a0) := by
 intro a0 k
 have ih0 := spec_EntriesValid.mono_l k
 unfold spec_EntriesValid.f
 repeat' first
   | (with_reducible exact ih0 _ _)
   | (with_reducible exact spec_WordValid.mono _ _)
   | (with_reducible exact LeO.refl _)
   | (with_reducible exact LeO.none _)
   | (with_reducible refine LeO.ite ?_ ?_)
   | (with_reducible refine LeO.bind ?_ (fun _ => ?_))
   | exact ih0 _ _
   | exact spec_WordValid.mono _ _
   | exact LeO.none _
   | refine LeO.ite ?_ ?_
   | refine LeO.bind ?_ (fun _ => ?_)
def spec_EntriesValid.T4 : Bool × List (List Nat × List Nat) := (true, [([], []), ([], []), ([0, 1], [0, 1]), ([2], [2]), ([3], [3]), ([4], [4]), ([5], [5]), ([6, 5], [6]), ([7], [7]), ([7], [7]), ([8, 9, 7], [7, 8, 9]), ([10, 7], [7, 10]), ([11, 7], [7, 11]), ([12, 7, 7], [7, 12]), ([13, 7], [7, 13]), ([7, 14], [7, 14]), ([15, 13], [15]), ([16], [16]), ([17, 16], [16, 17]), ([18, 16, 16], [16, 18]), ([19], [19]), ([19], [19]), ([20, 21, 19], [19, 20, 21]), ([22, 19], [19, 22]), ([23, 19], [19, 23]), ([19], [19]), ([19], [19]), ([26, 19], [19, 26]), ([25, 27, 19], [19, 25, 27]), ([28, 19], [19, 28]), ([29, 19], [19, 29]), ([24, 30, 19], [19, 24, 30]), ([19, 31, 16], [16, 19, 31]), ([16, 32], [16, 32])])
def spec_EntriesValid.B4 : List Nat := [0, 0, 3, 7, 15, 31, 63, 127, 255, 255, 1023, 2047, 4095, 8191, 16383, 32767, 65535, 131071, 262143, 524287, 1048575, 1048575, 4194303, 8388607, 16777215, 1048575, 1048575, 68157439, 235929599, 504365055, 1041235967, 2147483647, 4294967295, 8589934591]
theorem spec_EntriesValid.tab4 : rtab .any (opsOf Tryz.f102 4) = spec_EntriesValid.T4 := by kernel_rfl
theorem spec_EntriesValid.bits4 : waitsOk spec_EntriesValid.T4.2 spec_EntriesValid.B4 = true := by kernel_rfl
set_option maxHeartbeats 8000000 in
set_option maxRecDepth 100000 in
theorem spec_EntriesValid.calls (k : Nat) (A0 : Option Addr) (c0 : Nat) (l0 : List (S75)) (r : Bool) (w : World) (hr0 : Kd.C k75 w A0 l0.length l0) (hc0 : l0.length ≤ c0) (h : spec_EntriesValid.f k l0 = some r) :
  Calls Tryz.prog 102 #[.slice A0 l0.length c0] w fun e w' => e = .returned (.bool r) ∧ Below w.heap.size w w' := by
 have HR0 := Aside0.mk hr0
 have HC0 := Aside0.mk hc0
 clear hr0 hc0
 have HB := Aside0.mk (Below.refl w.heap.size w)
 have H : (spec_EntriesValid.l0 k l0 0) = some r := h
 clear h
 have H' := Aside0.mk H
 clear H
 go_enter Tryz.func102, Tryz.ntmps102
 go_wp2
 go_loopg [3] k (fun kq v3 w' => ∃ (x3_1 : Int), v3 = .int .i64 x3_1 ∧ Aside0 (spec_EntriesValid.l0 kq l0 x3_1 = some r) ∧ Aside0 (kq ≤ k) ∧ Aside0 (Below w.heap.size w w'))
 case atStart => exact ⟨(0), (by first | rfl | (simp; done) | (simp [*]; done)), H', ⟨Nat.le_refl _⟩, ⟨hb_⟩⟩
 case round =>
  clear H'
  try clear c1
  obtain ⟨x3_1, rfl, HA, HK1, HB⟩ := hrel
  cases gk with
  | zero => exact absurd HA.out (by simp [spec_EntriesValid.l0])
  | succ k1 =>
   have H := HA.out
   clear HA
   simp only [spec_EntriesValid.l0] at H
   by_cases c2 : x3_1 < (l0.length : Int)
   ·rw [if_pos c2] at H
    have c2b0 : decide (x3_1 < (l0.length : Int)) = true := decide_eq_true c2
    clear c2
    by_cases c3 : 0 ≤ x3_1
    ·rw [if_pos c3] at H
     have c3b0 : decide (0 ≤ x3_1) = true := decide_eq_true c3
     clear c3
     replace H := Option.bind_eq_some_iff.mp H
     obtain ⟨t121, A40, H⟩ := H
     replace H : (if t121 = true then ((spec_l1In.f ((rd_T75 l0 x3_1).f1) 0 16777212).bind fun t123 => (if t123 = true then (if x3_1 > 0 then (if 0 ≤ (wrap64 (x3_1 - 1)) then (if (wrap64 (x3_1 - 1)) < (l0.length : Int) then (if ((Op.bytesLess (((rd_T75 l0 (wrap64 (x3_1 - 1))).f0).toList) (((rd_T75 l0 x3_1).f0).toList)) = true) then (spec_EntriesValid.l0 k1 l0 (wrap64 (x3_1 + 1))) else (some false)) else (none)) else (none)) else (spec_EntriesValid.l0 k1 l0 (wrap64 (x3_1 + 1)))) else (some false))) else (some false)) = some r := H
     have A4 := Aside0.mk A40
     clear A40
     by_cases c5 : t121 = true
     ·subst c5
      have H1 : ((spec_l1In.f ((rd_T75 l0 x3_1).f1) 0 16777212).bind fun t123 => (if t123 = true then (if x3_1 > 0 then (if 0 ≤ (wrap64 (x3_1 - 1)) then (if (wrap64 (x3_1 - 1)) < (l0.length : Int) then (if ((Op.bytesLess (((rd_T75 l0 (wrap64 (x3_1 - 1))).f0).toList) (((rd_T75 l0 x3_1).f0).toList)) = true) then (spec_EntriesValid.l0 k1 l0 (wrap64 (x3_1 + 1))) else (some false)) else (none)) else (none)) else (spec_EntriesValid.l0 k1 l0 (wrap64 (x3_1 + 1)))) else (some false))) = some r := by rw [if_pos rfl] at H; exact H
      clear H
      have H := H1
      clear H1
      replace H := Option.bind_eq_some_iff.mp H
      obtain ⟨t123, A60, H⟩ := H
      replace H : (if t123 = true then (if x3_1 > 0 then (if 0 ≤ (wrap64 (x3_1 - 1)) then (if (wrap64 (x3_1 - 1)) < (l0.length : Int) then (if ((Op.bytesLess (((rd_T75 l0 (wrap64 (x3_1 - 1))).f0).toList) (((rd_T75 l0 x3_1).f0).toList)) = true) then (spec_EntriesValid.l0 k1 l0 (wrap64 (x3_1 + 1))) else (some false)) else (none)) else (none)) else (spec_EntriesValid.l0 k1 l0 (wrap64 (x3_1 + 1)))) else (some false)) = some r := H
      have A6 := Aside0.mk A60
      clear A60
      by_cases c7 : t123 = true
      ·subst c7
       have H1 : (if x3_1 > 0 then (if 0 ≤ (wrap64 (x3_1 - 1)) then (if (wrap64 (x3_1 - 1)) < (l0.length : Int) then (if ((Op.bytesLess (((rd_T75 l0 (wrap64 (x3_1 - 1))).f0).toList) (((rd_T75 l0 x3_1).f0).toList)) = true) then (spec_EntriesValid.l0 k1 l0 (wrap64 (x3_1 + 1))) else (some false)) else (none)) else (none)) else (spec_EntriesValid.l0 k1 l0 (wrap64 (x3_1 + 1)))) = some r := by rw [if_pos rfl] at H; exact H
       clear H
       have H := H1
       clear H1
       by_cases c8 : x3_1 > 0
       ·rw [if_pos c8] at H
        have c8b0 : decide (0 < x3_1) = true := decide_eq_true c8
        clear c8
        obtain ⟨ji9, hji9⟩ : ∃ j_ : Int, (wrap64 (x3_1 - 1)) = j_ := ⟨_, rfl⟩
        replace H : (if 0 ≤ (ji9) then (if (ji9) < (l0.length : Int) then (if ((Op.bytesLess (((rd_T75 l0 (ji9)).f0).toList) (((rd_T75 l0 x3_1).f0).toList)) = true) then (spec_EntriesValid.l0 k1 l0 (wrap64 (x3_1 + 1))) else (some false)) else (none)) else (none)) = some r := by first | (rw [hji9] at H; exact H) | (simp only [hji9] at H ⊢; exact H)
        (try rw [hji9] at A4)
        (try rw [hji9] at A6)
        have hji9w : (IntKind.i64.wrap (x3_1 - 1)) = ji9 := (i64_w _).trans hji9
        by_cases c10 : 0 ≤ (ji9)
        ·rw [if_pos c10] at H
         have c10b0 : decide (0 ≤ (ji9)) = true := decide_eq_true c10
         clear c10
         by_cases c11 : (ji9) < (l0.length : Int)
         ·rw [if_pos c11] at H
          have c11b0 : decide ((ji9) < (l0.length : Int)) = true := decide_eq_true c11
          clear c11
          by_cases c12 : ((Op.bytesLess (((rd_T75 l0 (ji9)).f0).toList) (((rd_T75 l0 x3_1).f0).toList)) = true)
          ·rw [if_pos c12] at H
           have c12b0 : (Op.bytesLess (((rd_T75 l0 (ji9)).f0).toList) (((rd_T75 l0 x3_1).f0).toList)) = true := c12
           clear c12
           have H' := Aside0.mk H
           clear H
           try go_wp2
           have n0_ := Aside0.mk (below_drew1 HB.out)
           clear HB
           have HB := n0_
           clear n0_
           have p120 : 0 ≤ (x3_1 : Int) := of_decide_eq_true ma_
           have q120 : x3_1 < (l0.length : Int) := of_decide_eq_true ma_
           obtain ⟨ad120, e120, hx120_0, hx120_1⟩ := at_T75 HR0.out x3_1 p120 q120
           have hw120_1 := hx120_1
           have hw120_0 := hx120_0
           cases e120
           replace hx120_0 := (HB.out.cell (World.block_lt_of_cell? w _ hx120_0)).trans hx120_0
           replace hx120_1 := (HB.out.cell (World.block_lt_of_cell? w _ hx120_1)).trans hx120_1
           replace p120 := eq_true p120
           replace q120 := eq_true q120
           have p122 : 0 ≤ (x3_1 : Int) := of_decide_eq_true ma_
           have q122 : x3_1 < (l0.length : Int) := of_decide_eq_true ma_
           obtain ⟨ad122, e122, hx122_0, hx122_1⟩ := at_T75 HR0.out x3_1 p122 q122
           have hw122_1 := hx122_1
           have hw122_0 := hx122_0
           obtain rfl : ad120 = ad122 := (by injection e122)
           replace hx122_0 := (HB.out.cell (World.block_lt_of_cell? w _ hx122_0)).trans hx122_0
           replace hx122_1 := (HB.out.cell (World.block_lt_of_cell? w _ hx122_1)).trans hx122_1
           replace p122 := eq_true p122
           replace q122 := eq_true q122
           have p124 : 0 ≤ (x3_1 : Int) := of_decide_eq_true ma_
           have q124 : x3_1 < (l0.length : Int) := of_decide_eq_true ma_
           obtain ⟨ad124, e124, hx124_0, hx124_1⟩ := at_T75 HR0.out x3_1 p124 q124
           have hw124_1 := hx124_1
           have hw124_0 := hx124_0
           obtain rfl : ad120 = ad124 := (by injection e124)
           replace hx124_0 := (HB.out.cell (World.block_lt_of_cell? w _ hx124_0)).trans hx124_0
           replace hx124_1 := (HB.out.cell (World.block_lt_of_cell? w _ hx124_1)).trans hx124_1
           replace p124 := eq_true p124
           replace q124 := eq_true q124
           have p125 : 0 ≤ ((ji9) : Int) := of_decide_eq_true ma_
           have q125 : (ji9) < (l0.length : Int) := of_decide_eq_true ma_
           obtain ⟨ad125, e125, hx125_0, hx125_1⟩ := at_T75 HR0.out (ji9) p125 q125
           have hw125_1 := hx125_1
           have hw125_0 := hx125_0
           obtain rfl : ad120 = ad125 := (by injection e125)
           replace hx125_0 := (HB.out.cell (World.block_lt_of_cell? w _ hx125_0)).trans hx125_0
           replace hx125_1 := (HB.out.cell (World.block_lt_of_cell? w _ hx125_1)).trans hx125_1
           replace p125 := eq_true p125
           replace q125 := eq_true q125
           refine start_ (n := 34) (S := fun w' => w'.cell? (ad120.add ((x3_1).toNat * 2)) = some (.string ((rd_T75 l0 x3_1).f0)) ∧ w'.cell? ⟨(ad120.add ((x3_1).toNat * 2)).block, (ad120.add ((x3_1).toNat * 2)).off + 1, none⟩ = some (.int .i64 ((rd_T75 l0 x3_1).f1)) ∧ w'.cell? (ad120.add ((x3_1).toNat * 2)) = some (.string ((rd_T75 l0 x3_1).f0)) ∧ w'.cell? ⟨(ad120.add ((x3_1).toNat * 2)).block, (ad120.add ((x3_1).toNat * 2)).off + 1, none⟩ = some (.int .i64 ((rd_T75 l0 x3_1).f1)) ∧ w'.cell? (ad120.add ((x3_1).toNat * 2)) = some (.string ((rd_T75 l0 x3_1).f0)) ∧ w'.cell? ⟨(ad120.add ((x3_1).toNat * 2)).block, (ad120.add ((x3_1).toNat * 2)).off + 1, none⟩ = some (.int .i64 ((rd_T75 l0 x3_1).f1)) ∧ w'.cell? (ad120.add (((ji9)).toNat * 2)) = some (.string ((rd_T75 l0 (ji9)).f0)) ∧ w'.cell? ⟨(ad120.add (((ji9)).toNat * 2)).block, (ad120.add (((ji9)).toNat * 2)).off + 1, none⟩ = some (.int .i64 ((rd_T75 l0 (ji9)).f1))) (ds := []) (tf_ 0 34) (by kernel_rfl) rfl rfl ⟨((HB.out.cell (World.block_lt_of_cell? w _ hw120_0)).trans hw120_0), ((HB.out.cell (World.block_lt_of_cell? w _ hw120_1)).trans hw120_1), ((HB.out.cell (World.block_lt_of_cell? w _ hw122_0)).trans hw122_0), ((HB.out.cell (World.block_lt_of_cell? w _ hw122_1)).trans hw122_1), ((HB.out.cell (World.block_lt_of_cell? w _ hw124_0)).trans hw124_0), ((HB.out.cell (World.block_lt_of_cell? w _ hw124_1)).trans hw124_1), ((HB.out.cell (World.block_lt_of_cell? w _ hw125_0)).trans hw125_0), ((HB.out.cell (World.block_lt_of_cell? w _ hw125_1)).trans hw125_1)⟩ (fun hHeld => ?_); refine with_tabW spec_EntriesValid.tab4 spec_EntriesValid.bits4 (fun HT_ HW_ => ?_)
           generalize wr.drew = w13 at HB hx120_0 hx120_1 hx122_0 hx122_1 hx124_0 hx124_1 hx125_0 hx125_1 hHeld ⊢
           refine pa_ (i := 0) (N := some 10) (tf_ 1 33) ?_
           refine pa_ (i := 1) (N := some 11) (tf_ 2 32) ?_
           refine pa_ (i := 2) (N := some 12) (tf_ 3 31) ?_
           refine pa_ (i := 3) (N := some 13) (tf_ 4 30) ?_
           refine take_ (i := 4) (N := some 14) (v := ?_) (a' := ?_) (tf_ 5 29) rfl rfl (take_ofW HT_.out HW_.out (by kernel_rfl)) (fun _ _ _ h => h) (Or.inl ⟨by rfl, ?_⟩) hHeld ?_ ?_
           rotate_left
           ·rintro w' ⟨s0, s1, s2, s3, s4, s5, s6, s7⟩
            go_simp
            with_reducible rfl
           rotate_left
           ·simp only [Act.put, List.setIfInBounds_toArray, List.set_cons_zero, List.set_cons_succ, i64_w, i32_w]
            rfl
           refine one_ (i := 5) (N := some 15) (tf_ 6 28) rfl rfl (one_of HT_.out (by kernel_rfl)) (by decide) (fun K hK => ?_)
           refine goes_ Tryz.func58 (by kernel_rfl) rfl #[.string ((rd_T75 l0 x3_1).f0)] (by rfl) rfl rfl sl_ ?_
           with_reducible refine (spec_WordValid.calls k1 ((rd_T75 l0 x3_1).f0) true _ A4.out).mono ?_
           rintro e w' ⟨rfl, ⟨nd, rfl⟩⟩
           refine ⟨_, rfl, ?_⟩
           refine hK.out _ _ ⟨((HB.out.cell (World.block_lt_of_cell? w _ hw120_0)).trans hw120_0), ((HB.out.cell (World.block_lt_of_cell? w _ hw120_1)).trans hw120_1), ((HB.out.cell (World.block_lt_of_cell? w _ hw122_0)).trans hw122_0), ((HB.out.cell (World.block_lt_of_cell? w _ hw122_1)).trans hw122_1), ((HB.out.cell (World.block_lt_of_cell? w _ hw124_0)).trans hw124_0), ((HB.out.cell (World.block_lt_of_cell? w _ hw124_1)).trans hw124_1), ((HB.out.cell (World.block_lt_of_cell? w _ hw125_0)).trans hw125_0), ((HB.out.cell (World.block_lt_of_cell? w _ hw125_1)).trans hw125_1)⟩ (fun hHeld => ?_)
           clear hK K
           refine norm_ (a' := ?_) ?_ ?_
           rotate_left
           ·show Act.put _ (some 15) _ = _
            simp only [Act.put, List.setIfInBounds_toArray, List.set_cons_zero, List.set_cons_succ, i64_w, i32_w]
            rfl
           refine pa_ (i := 6) (N := some 16) (tf_ 7 27) ?_
           refine pa_ (i := 7) (N := some 17) (tf_ 8 26) ?_
           refine pa_ (i := 8) (N := some 18) (tf_ 9 25) ?_
           refine pa_ (i := 9) (N := some 19) (tf_ 10 24) ?_
           refine pa_ (i := 10) (N := some 20) (tf_ 11 23) ?_
           refine pa_ (i := 11) (N := some 21) (tf_ 12 22) ?_
           refine take_ (i := 12) (N := some 22) (v := ?_) (a' := ?_) (tf_ 13 21) rfl rfl (take_ofW HT_.out HW_.out (by kernel_rfl)) (fun _ _ _ h => h) (Or.inl ⟨by rfl, ?_⟩) hHeld ?_ ?_
           rotate_left
           ·rintro w' ⟨s0, s1, s2, s3, s4, s5, s6, s7⟩
            go_simp
            with_reducible rfl
           rotate_left
           ·simp only [Act.put, List.setIfInBounds_toArray, List.set_cons_zero, List.set_cons_succ, i64_w, i32_w]
            rfl
           refine one_ (i := 13) (N := some 23) (tf_ 14 20) rfl rfl (one_of HT_.out (by kernel_rfl)) (by decide) (fun K hK => ?_)
           refine goes_ Tryz.func59 (by kernel_rfl) rfl #[.int .i64 ((rd_T75 l0 x3_1).f1), .int .i64 0, .int .i64 16777212] (by rfl) rfl rfl sl_ ?_
           with_reducible refine (spec_l1In.calls ((rd_T75 l0 x3_1).f1) 0 16777212 true _ A6.out).mono ?_
           rintro e w' ⟨rfl, ⟨nd, rfl⟩⟩
           refine ⟨_, rfl, ?_⟩
           refine hK.out _ _ ⟨((HB.out.cell (World.block_lt_of_cell? w _ hw120_0)).trans hw120_0), ((HB.out.cell (World.block_lt_of_cell? w _ hw120_1)).trans hw120_1), ((HB.out.cell (World.block_lt_of_cell? w _ hw122_0)).trans hw122_0), ((HB.out.cell (World.block_lt_of_cell? w _ hw122_1)).trans hw122_1), ((HB.out.cell (World.block_lt_of_cell? w _ hw124_0)).trans hw124_0), ((HB.out.cell (World.block_lt_of_cell? w _ hw124_1)).trans hw124_1), ((HB.out.cell (World.block_lt_of_cell? w _ hw125_0)).trans hw125_0), ((HB.out.cell (World.block_lt_of_cell? w _ hw125_1)).trans hw125_1)⟩ (fun hHeld => ?_)
           clear hK K
           refine norm_ (a' := ?_) ?_ ?_
           rotate_left
           ·show Act.put _ (some 23) _ = _
            simp only [Act.put, List.setIfInBounds_toArray, List.set_cons_zero, List.set_cons_succ, i64_w, i32_w]
            rfl
           refine pa_ (i := 14) (N := some 24) (tf_ 15 19) ?_
           refine pa_ (i := 15) (N := some 25) (tf_ 16 18) ?_
           refine pa_ (i := 16) (N := some 26) (tf_ 17 17) ?_
           refine pa_ (i := 17) (N := some 27) (tf_ 18 16) ?_
           refine pa_ (i := 18) (N := some 28) (tf_ 19 15) ?_
           refine pa_ (i := 19) (N := some 29) (tf_ 20 14) ?_
           refine pa_ (i := 20) (N := some 30) (tf_ 21 13) ?_
           refine pa_ (i := 21) (N := some 31) (tf_ 22 12) ?_
           refine pa_ (i := 22) (N := some 32) (tf_ 23 11) ?_
           refine pa_ (i := 23) (N := some 33) (tf_ 24 10) ?_
           refine pure_ (i := 25) (N := some 35) (v := ?_) (a' := ?_) #[true, true, true, true, true, true, true, true, true, true, true, true, true, true, true, true, true, true, true, true, true, true, true, true, false, true, false, false, false, false, false, false, false, false] rfl rfl (any_of HT_.out (by kernel_rfl)) (fun _ _ _ h => h) (Or.inl ⟨by rfl, ?_⟩) ?_ ?_; rotate_left; (intro w'; go_simp; with_reducible rfl); rotate_left; (simp only [Act.put, List.setIfInBounds_toArray, List.set_cons_zero, List.set_cons_succ, i64_w, i32_w]; rfl)
           refine pure_ (i := 26) (N := some 36) (v := ?_) (a' := ?_) #[true, true, true, true, true, true, true, true, true, true, true, true, true, true, true, true, true, true, true, true, true, true, true, true, false, true, true, false, false, false, false, false, false, false] rfl rfl (any_of HT_.out (by kernel_rfl)) (fun _ _ _ h => h) (Or.inl ⟨by rfl, ?_⟩) ?_ ?_; rotate_left; (intro w'; go_simp; with_reducible rfl); rotate_left; (simp only [Act.put, List.setIfInBounds_toArray, List.set_cons_zero, List.set_cons_succ, i64_w, i32_w]; rfl)
           refine pure_ (i := 27) (N := some 37) (v := ?_) (a' := ?_) #[true, true, true, true, true, true, true, true, true, true, true, true, true, true, true, true, true, true, true, true, true, true, true, true, false, true, true, true, false, false, false, false, false, false] rfl rfl (any_of HT_.out (by kernel_rfl)) (fun _ _ _ h => h) (Or.inl ⟨by rfl, ?_⟩) ?_ ?_; rotate_left; (intro w'; go_simp; with_reducible rfl); rotate_left; (simp only [Act.put, List.setIfInBounds_toArray, List.set_cons_zero, List.set_cons_succ, i64_w, i32_w]; rfl)
           refine pure_ (i := 28) (N := some 38) (v := ?_) (a' := ?_) #[true, true, true, true, true, true, true, true, true, true, true, true, true, true, true, true, true, true, true, true, true, true, true, true, false, true, true, true, true, false, false, false, false, false] rfl rfl (any_of HT_.out (by kernel_rfl)) (fun _ _ _ h => h) (Or.inl ⟨by rfl, ?_⟩) ?_ ?_; rotate_left; (intro w'; go_simp; with_reducible rfl); rotate_left; (simp only [Act.put, List.setIfInBounds_toArray, List.set_cons_zero, List.set_cons_succ, i64_w, i32_w]; rfl)
           refine pure_ (i := 29) (N := some 39) (v := ?_) (a' := ?_) #[true, true, true, true, true, true, true, true, true, true, true, true, true, true, true, true, true, true, true, true, true, true, true, true, false, true, true, true, true, true, false, false, false, false] rfl rfl (any_of HT_.out (by kernel_rfl)) (fun _ _ _ h => h) (Or.inl ⟨by rfl, ?_⟩) ?_ ?_; rotate_left; (intro w'; go_simp; with_reducible rfl); rotate_left; (simp only [Act.put, List.setIfInBounds_toArray, List.set_cons_zero, List.set_cons_succ, i64_w, i32_w]; rfl)
           refine take_ (i := 24) (N := some 34) (v := ?_) (a' := ?_) (tf_ 30 4) rfl rfl (take_ofW HT_.out HW_.out (by kernel_rfl)) (fun _ _ _ h => h) (Or.inl ⟨by rfl, ?_⟩) hHeld ?_ ?_
           rotate_left
           ·rintro w' ⟨s0, s1, s2, s3, s4, s5, s6, s7⟩
            go_simp
            with_reducible rfl
           rotate_left
           ·simp only [Act.put, List.setIfInBounds_toArray, List.set_cons_zero, List.set_cons_succ, i64_w, i32_w]
            rfl
           refine take_ (i := 30) (N := some 40) (v := ?_) (a' := ?_) (tf_ 31 3) rfl rfl (take_ofW HT_.out HW_.out (by kernel_rfl)) (fun _ _ _ h => h) (Or.inl ⟨by rfl, ?_⟩) hHeld ?_ ?_
           rotate_left
           ·rintro w' ⟨s0, s1, s2, s3, s4, s5, s6, s7⟩
            go_simp
            with_reducible rfl
           rotate_left
           ·simp only [Act.put, List.setIfInBounds_toArray, List.set_cons_zero, List.set_cons_succ, i64_w, i32_w]
            rfl
           refine pa_ (i := 31) (N := some 41) (tf_ 32 2) ?_
           refine pa_ (i := 32) (N := some 42) (tf_ 33 1) ?_
           refine pa_ (i := 33) (N := some 43) (tf_ 34 0) ?_
           refine done_ (done_of HT_.out (by kernel_rfl)) ?_
           try go_wp2
           go_roundg k1
           case measure => have := HK1.out; omega
           case rel => exact ⟨(wrap64 (x3_1 + 1)), (by first | rfl | (simp; done) | (simp [*]; done)), H', ⟨by have := HK1.out; omega⟩, ⟨hb_⟩⟩
          ·rw [if_neg c12] at H
           have c12b0 : (Op.bytesLess (((rd_T75 l0 (ji9)).f0).toList) (((rd_T75 l0 x3_1).f0).toList)) = false := by simpa using c12
           clear c12
           obtain rfl := Option.some.inj H
           try go_wp2
           have n0_ := Aside0.mk (below_drew1 HB.out)
           clear HB
           have HB := n0_
           clear n0_
           have p120 : 0 ≤ (x3_1 : Int) := of_decide_eq_true ma_
           have q120 : x3_1 < (l0.length : Int) := of_decide_eq_true ma_
           obtain ⟨ad120, e120, hx120_0, hx120_1⟩ := at_T75 HR0.out x3_1 p120 q120
           have hw120_1 := hx120_1
           have hw120_0 := hx120_0
           cases e120
           replace hx120_0 := (HB.out.cell (World.block_lt_of_cell? w _ hx120_0)).trans hx120_0
           replace hx120_1 := (HB.out.cell (World.block_lt_of_cell? w _ hx120_1)).trans hx120_1
           replace p120 := eq_true p120
           replace q120 := eq_true q120
           have p122 : 0 ≤ (x3_1 : Int) := of_decide_eq_true ma_
           have q122 : x3_1 < (l0.length : Int) := of_decide_eq_true ma_
           obtain ⟨ad122, e122, hx122_0, hx122_1⟩ := at_T75 HR0.out x3_1 p122 q122
           have hw122_1 := hx122_1
           have hw122_0 := hx122_0
           obtain rfl : ad120 = ad122 := (by injection e122)
           replace hx122_0 := (HB.out.cell (World.block_lt_of_cell? w _ hx122_0)).trans hx122_0
           replace hx122_1 := (HB.out.cell (World.block_lt_of_cell? w _ hx122_1)).trans hx122_1
           replace p122 := eq_true p122
           replace q122 := eq_true q122
           have p124 : 0 ≤ (x3_1 : Int) := of_decide_eq_true ma_
           have q124 : x3_1 < (l0.length : Int) := of_decide_eq_true ma_
           obtain ⟨ad124, e124, hx124_0, hx124_1⟩ := at_T75 HR0.out x3_1 p124 q124
           have hw124_1 := hx124_1
           have hw124_0 := hx124_0
           obtain rfl : ad120 = ad124 := (by injection e124)
           replace hx124_0 := (HB.out.cell (World.block_lt_of_cell? w _ hx124_0)).trans hx124_0
           replace hx124_1 := (HB.out.cell (World.block_lt_of_cell? w _ hx124_1)).trans hx124_1
           replace p124 := eq_true p124
           replace q124 := eq_true q124
           have p125 : 0 ≤ ((ji9) : Int) := of_decide_eq_true ma_
           have q125 : (ji9) < (l0.length : Int) := of_decide_eq_true ma_
           obtain ⟨ad125, e125, hx125_0, hx125_1⟩ := at_T75 HR0.out (ji9) p125 q125
           have hw125_1 := hx125_1
           have hw125_0 := hx125_0
           obtain rfl : ad120 = ad125 := (by injection e125)
           replace hx125_0 := (HB.out.cell (World.block_lt_of_cell? w _ hx125_0)).trans hx125_0
           replace hx125_1 := (HB.out.cell (World.block_lt_of_cell? w _ hx125_1)).trans hx125_1
           replace p125 := eq_true p125
           replace q125 := eq_true q125
           refine start_ (n := 34) (S := fun w' => w'.cell? (ad120.add ((x3_1).toNat * 2)) = some (.string ((rd_T75 l0 x3_1).f0)) ∧ w'.cell? ⟨(ad120.add ((x3_1).toNat * 2)).block, (ad120.add ((x3_1).toNat * 2)).off + 1, none⟩ = some (.int .i64 ((rd_T75 l0 x3_1).f1)) ∧ w'.cell? (ad120.add ((x3_1).toNat * 2)) = some (.string ((rd_T75 l0 x3_1).f0)) ∧ w'.cell? ⟨(ad120.add ((x3_1).toNat * 2)).block, (ad120.add ((x3_1).toNat * 2)).off + 1, none⟩ = some (.int .i64 ((rd_T75 l0 x3_1).f1)) ∧ w'.cell? (ad120.add ((x3_1).toNat * 2)) = some (.string ((rd_T75 l0 x3_1).f0)) ∧ w'.cell? ⟨(ad120.add ((x3_1).toNat * 2)).block, (ad120.add ((x3_1).toNat * 2)).off + 1, none⟩ = some (.int .i64 ((rd_T75 l0 x3_1).f1)) ∧ w'.cell? (ad120.add (((ji9)).toNat * 2)) = some (.string ((rd_T75 l0 (ji9)).f0)) ∧ w'.cell? ⟨(ad120.add (((ji9)).toNat * 2)).block, (ad120.add (((ji9)).toNat * 2)).off + 1, none⟩ = some (.int .i64 ((rd_T75 l0 (ji9)).f1))) (ds := []) (tf_ 0 34) (by kernel_rfl) rfl rfl ⟨((HB.out.cell (World.block_lt_of_cell? w _ hw120_0)).trans hw120_0), ((HB.out.cell (World.block_lt_of_cell? w _ hw120_1)).trans hw120_1), ((HB.out.cell (World.block_lt_of_cell? w _ hw122_0)).trans hw122_0), ((HB.out.cell (World.block_lt_of_cell? w _ hw122_1)).trans hw122_1), ((HB.out.cell (World.block_lt_of_cell? w _ hw124_0)).trans hw124_0), ((HB.out.cell (World.block_lt_of_cell? w _ hw124_1)).trans hw124_1), ((HB.out.cell (World.block_lt_of_cell? w _ hw125_0)).trans hw125_0), ((HB.out.cell (World.block_lt_of_cell? w _ hw125_1)).trans hw125_1)⟩ (fun hHeld => ?_); refine with_tabW spec_EntriesValid.tab4 spec_EntriesValid.bits4 (fun HT_ HW_ => ?_)
           generalize wr.drew = w14 at HB hx120_0 hx120_1 hx122_0 hx122_1 hx124_0 hx124_1 hx125_0 hx125_1 hHeld ⊢
           refine pa_ (i := 0) (N := some 10) (tf_ 1 33) ?_
           refine pa_ (i := 1) (N := some 11) (tf_ 2 32) ?_
           refine pa_ (i := 2) (N := some 12) (tf_ 3 31) ?_
           refine pa_ (i := 3) (N := some 13) (tf_ 4 30) ?_
           refine take_ (i := 4) (N := some 14) (v := ?_) (a' := ?_) (tf_ 5 29) rfl rfl (take_ofW HT_.out HW_.out (by kernel_rfl)) (fun _ _ _ h => h) (Or.inl ⟨by rfl, ?_⟩) hHeld ?_ ?_
           rotate_left
           ·rintro w' ⟨s0, s1, s2, s3, s4, s5, s6, s7⟩
            go_simp
            with_reducible rfl
           rotate_left
           ·simp only [Act.put, List.setIfInBounds_toArray, List.set_cons_zero, List.set_cons_succ, i64_w, i32_w]
            rfl
           refine one_ (i := 5) (N := some 15) (tf_ 6 28) rfl rfl (one_of HT_.out (by kernel_rfl)) (by decide) (fun K hK => ?_)
           refine goes_ Tryz.func58 (by kernel_rfl) rfl #[.string ((rd_T75 l0 x3_1).f0)] (by rfl) rfl rfl sl_ ?_
           with_reducible refine (spec_WordValid.calls k1 ((rd_T75 l0 x3_1).f0) true _ A4.out).mono ?_
           rintro e w' ⟨rfl, ⟨nd, rfl⟩⟩
           refine ⟨_, rfl, ?_⟩
           refine hK.out _ _ ⟨((HB.out.cell (World.block_lt_of_cell? w _ hw120_0)).trans hw120_0), ((HB.out.cell (World.block_lt_of_cell? w _ hw120_1)).trans hw120_1), ((HB.out.cell (World.block_lt_of_cell? w _ hw122_0)).trans hw122_0), ((HB.out.cell (World.block_lt_of_cell? w _ hw122_1)).trans hw122_1), ((HB.out.cell (World.block_lt_of_cell? w _ hw124_0)).trans hw124_0), ((HB.out.cell (World.block_lt_of_cell? w _ hw124_1)).trans hw124_1), ((HB.out.cell (World.block_lt_of_cell? w _ hw125_0)).trans hw125_0), ((HB.out.cell (World.block_lt_of_cell? w _ hw125_1)).trans hw125_1)⟩ (fun hHeld => ?_)
           clear hK K
           refine norm_ (a' := ?_) ?_ ?_
           rotate_left
           ·show Act.put _ (some 15) _ = _
            simp only [Act.put, List.setIfInBounds_toArray, List.set_cons_zero, List.set_cons_succ, i64_w, i32_w]
            rfl
           refine pa_ (i := 6) (N := some 16) (tf_ 7 27) ?_
           refine pa_ (i := 7) (N := some 17) (tf_ 8 26) ?_
           refine pa_ (i := 8) (N := some 18) (tf_ 9 25) ?_
           refine pa_ (i := 9) (N := some 19) (tf_ 10 24) ?_
           refine pa_ (i := 10) (N := some 20) (tf_ 11 23) ?_
           refine pa_ (i := 11) (N := some 21) (tf_ 12 22) ?_
           refine take_ (i := 12) (N := some 22) (v := ?_) (a' := ?_) (tf_ 13 21) rfl rfl (take_ofW HT_.out HW_.out (by kernel_rfl)) (fun _ _ _ h => h) (Or.inl ⟨by rfl, ?_⟩) hHeld ?_ ?_
           rotate_left
           ·rintro w' ⟨s0, s1, s2, s3, s4, s5, s6, s7⟩
            go_simp
            with_reducible rfl
           rotate_left
           ·simp only [Act.put, List.setIfInBounds_toArray, List.set_cons_zero, List.set_cons_succ, i64_w, i32_w]
            rfl
           refine one_ (i := 13) (N := some 23) (tf_ 14 20) rfl rfl (one_of HT_.out (by kernel_rfl)) (by decide) (fun K hK => ?_)
           refine goes_ Tryz.func59 (by kernel_rfl) rfl #[.int .i64 ((rd_T75 l0 x3_1).f1), .int .i64 0, .int .i64 16777212] (by rfl) rfl rfl sl_ ?_
           with_reducible refine (spec_l1In.calls ((rd_T75 l0 x3_1).f1) 0 16777212 true _ A6.out).mono ?_
           rintro e w' ⟨rfl, ⟨nd, rfl⟩⟩
           refine ⟨_, rfl, ?_⟩
           refine hK.out _ _ ⟨((HB.out.cell (World.block_lt_of_cell? w _ hw120_0)).trans hw120_0), ((HB.out.cell (World.block_lt_of_cell? w _ hw120_1)).trans hw120_1), ((HB.out.cell (World.block_lt_of_cell? w _ hw122_0)).trans hw122_0), ((HB.out.cell (World.block_lt_of_cell? w _ hw122_1)).trans hw122_1), ((HB.out.cell (World.block_lt_of_cell? w _ hw124_0)).trans hw124_0), ((HB.out.cell (World.block_lt_of_cell? w _ hw124_1)).trans hw124_1), ((HB.out.cell (World.block_lt_of_cell? w _ hw125_0)).trans hw125_0), ((HB.out.cell (World.block_lt_of_cell? w _ hw125_1)).trans hw125_1)⟩ (fun hHeld => ?_)
           clear hK K
           refine norm_ (a' := ?_) ?_ ?_
           rotate_left
           ·show Act.put _ (some 23) _ = _
            simp only [Act.put, List.setIfInBounds_toArray, List.set_cons_zero, List.set_cons_succ, i64_w, i32_w]
            rfl
           refine pa_ (i := 14) (N := some 24) (tf_ 15 19) ?_
           refine pa_ (i := 15) (N := some 25) (tf_ 16 18) ?_
           refine pa_ (i := 16) (N := some 26) (tf_ 17 17) ?_
           refine pa_ (i := 17) (N := some 27) (tf_ 18 16) ?_
           refine pa_ (i := 18) (N := some 28) (tf_ 19 15) ?_
           refine pa_ (i := 19) (N := some 29) (tf_ 20 14) ?_
           refine pa_ (i := 20) (N := some 30) (tf_ 21 13) ?_
           refine pa_ (i := 21) (N := some 31) (tf_ 22 12) ?_
           refine pa_ (i := 22) (N := some 32) (tf_ 23 11) ?_
           refine pa_ (i := 23) (N := some 33) (tf_ 24 10) ?_
           refine pure_ (i := 25) (N := some 35) (v := ?_) (a' := ?_) #[true, true, true, true, true, true, true, true, true, true, true, true, true, true, true, true, true, true, true, true, true, true, true, true, false, true, false, false, false, false, false, false, false, false] rfl rfl (any_of HT_.out (by kernel_rfl)) (fun _ _ _ h => h) (Or.inl ⟨by rfl, ?_⟩) ?_ ?_; rotate_left; (intro w'; go_simp; with_reducible rfl); rotate_left; (simp only [Act.put, List.setIfInBounds_toArray, List.set_cons_zero, List.set_cons_succ, i64_w, i32_w]; rfl)
           refine pure_ (i := 26) (N := some 36) (v := ?_) (a' := ?_) #[true, true, true, true, true, true, true, true, true, true, true, true, true, true, true, true, true, true, true, true, true, true, true, true, false, true, true, false, false, false, false, false, false, false] rfl rfl (any_of HT_.out (by kernel_rfl)) (fun _ _ _ h => h) (Or.inl ⟨by rfl, ?_⟩) ?_ ?_; rotate_left; (intro w'; go_simp; with_reducible rfl); rotate_left; (simp only [Act.put, List.setIfInBounds_toArray, List.set_cons_zero, List.set_cons_succ, i64_w, i32_w]; rfl)
           refine pure_ (i := 27) (N := some 37) (v := ?_) (a' := ?_) #[true, true, true, true, true, true, true, true, true, true, true, true, true, true, true, true, true, true, true, true, true, true, true, true, false, true, true, true, false, false, false, false, false, false] rfl rfl (any_of HT_.out (by kernel_rfl)) (fun _ _ _ h => h) (Or.inl ⟨by rfl, ?_⟩) ?_ ?_; rotate_left; (intro w'; go_simp; with_reducible rfl); rotate_left; (simp only [Act.put, List.setIfInBounds_toArray, List.set_cons_zero, List.set_cons_succ, i64_w, i32_w]; rfl)
           refine pure_ (i := 28) (N := some 38) (v := ?_) (a' := ?_) #[true, true, true, true, true, true, true, true, true, true, true, true, true, true, true, true, true, true, true, true, true, true, true, true, false, true, true, true, true, false, false, false, false, false] rfl rfl (any_of HT_.out (by kernel_rfl)) (fun _ _ _ h => h) (Or.inl ⟨by rfl, ?_⟩) ?_ ?_; rotate_left; (intro w'; go_simp; with_reducible rfl); rotate_left; (simp only [Act.put, List.setIfInBounds_toArray, List.set_cons_zero, List.set_cons_succ, i64_w, i32_w]; rfl)
           refine pure_ (i := 29) (N := some 39) (v := ?_) (a' := ?_) #[true, true, true, true, true, true, true, true, true, true, true, true, true, true, true, true, true, true, true, true, true, true, true, true, false, true, true, true, true, true, false, false, false, false] rfl rfl (any_of HT_.out (by kernel_rfl)) (fun _ _ _ h => h) (Or.inl ⟨by rfl, ?_⟩) ?_ ?_; rotate_left; (intro w'; go_simp; with_reducible rfl); rotate_left; (simp only [Act.put, List.setIfInBounds_toArray, List.set_cons_zero, List.set_cons_succ, i64_w, i32_w]; rfl)
           refine take_ (i := 24) (N := some 34) (v := ?_) (a' := ?_) (tf_ 30 4) rfl rfl (take_ofW HT_.out HW_.out (by kernel_rfl)) (fun _ _ _ h => h) (Or.inl ⟨by rfl, ?_⟩) hHeld ?_ ?_
           rotate_left
           ·rintro w' ⟨s0, s1, s2, s3, s4, s5, s6, s7⟩
            go_simp
            with_reducible rfl
           rotate_left
           ·simp only [Act.put, List.setIfInBounds_toArray, List.set_cons_zero, List.set_cons_succ, i64_w, i32_w]
            rfl
           refine take_ (i := 30) (N := some 40) (v := ?_) (a' := ?_) (tf_ 31 3) rfl rfl (take_ofW HT_.out HW_.out (by kernel_rfl)) (fun _ _ _ h => h) (Or.inl ⟨by rfl, ?_⟩) hHeld ?_ ?_
           rotate_left
           ·rintro w' ⟨s0, s1, s2, s3, s4, s5, s6, s7⟩
            go_simp
            with_reducible rfl
           rotate_left
           ·simp only [Act.put, List.setIfInBounds_toArray, List.set_cons_zero, List.set_cons_succ, i64_w, i32_w]
            rfl
           refine pa_ (i := 31) (N := some 41) (tf_ 32 2) ?_
           refine pa_ (i := 32) (N := some 42) (tf_ 33 1) ?_
           refine pa_ (i := 33) (N := some 43) (tf_ 34 0) ?_
           refine done_ (done_of HT_.out (by kernel_rfl)) ?_
           try go_wp2
           go_ret
           exact ⟨by first | rfl | (simp [errW_none, errW_some] <;> rfl) | (simp only [← hji9]; first | rfl | (simp [errW_none, errW_some] <;> rfl)) | (simp [*, errW_none, errW_some] <;> rfl), hb_⟩
         ·rw [if_neg c11] at H
          exact absurd H (by simp)
        ·rw [if_neg c10] at H
         exact absurd H (by simp)
       ·rw [if_neg c8] at H
        have c8b0 : decide (0 < x3_1) = false := decide_eq_false c8
        clear c8
        have H' := Aside0.mk H
        clear H
        try go_wp2
        have n0_ := Aside0.mk (below_drew1 HB.out)
        clear HB
        have HB := n0_
        clear n0_
        have p120 : 0 ≤ (x3_1 : Int) := of_decide_eq_true ma_
        have q120 : x3_1 < (l0.length : Int) := of_decide_eq_true ma_
        obtain ⟨ad120, e120, hx120_0, hx120_1⟩ := at_T75 HR0.out x3_1 p120 q120
        have hw120_1 := hx120_1
        have hw120_0 := hx120_0
        cases e120
        replace hx120_0 := (HB.out.cell (World.block_lt_of_cell? w _ hx120_0)).trans hx120_0
        replace hx120_1 := (HB.out.cell (World.block_lt_of_cell? w _ hx120_1)).trans hx120_1
        replace p120 := eq_true p120
        replace q120 := eq_true q120
        have p122 : 0 ≤ (x3_1 : Int) := of_decide_eq_true ma_
        have q122 : x3_1 < (l0.length : Int) := of_decide_eq_true ma_
        obtain ⟨ad122, e122, hx122_0, hx122_1⟩ := at_T75 HR0.out x3_1 p122 q122
        have hw122_1 := hx122_1
        have hw122_0 := hx122_0
        obtain rfl : ad120 = ad122 := (by injection e122)
        replace hx122_0 := (HB.out.cell (World.block_lt_of_cell? w _ hx122_0)).trans hx122_0
        replace hx122_1 := (HB.out.cell (World.block_lt_of_cell? w _ hx122_1)).trans hx122_1
        replace p122 := eq_true p122
        replace q122 := eq_true q122
        refine start_ (n := 34) (S := fun w' => w'.cell? (ad120.add ((x3_1).toNat * 2)) = some (.string ((rd_T75 l0 x3_1).f0)) ∧ w'.cell? ⟨(ad120.add ((x3_1).toNat * 2)).block, (ad120.add ((x3_1).toNat * 2)).off + 1, none⟩ = some (.int .i64 ((rd_T75 l0 x3_1).f1)) ∧ w'.cell? (ad120.add ((x3_1).toNat * 2)) = some (.string ((rd_T75 l0 x3_1).f0)) ∧ w'.cell? ⟨(ad120.add ((x3_1).toNat * 2)).block, (ad120.add ((x3_1).toNat * 2)).off + 1, none⟩ = some (.int .i64 ((rd_T75 l0 x3_1).f1))) (ds := []) (tf_ 0 34) (by kernel_rfl) rfl rfl ⟨((HB.out.cell (World.block_lt_of_cell? w _ hw120_0)).trans hw120_0), ((HB.out.cell (World.block_lt_of_cell? w _ hw120_1)).trans hw120_1), ((HB.out.cell (World.block_lt_of_cell? w _ hw122_0)).trans hw122_0), ((HB.out.cell (World.block_lt_of_cell? w _ hw122_1)).trans hw122_1)⟩ (fun hHeld => ?_); refine with_tabW spec_EntriesValid.tab4 spec_EntriesValid.bits4 (fun HT_ HW_ => ?_)
        generalize wr.drew = w15 at HB hx120_0 hx120_1 hx122_0 hx122_1 hHeld ⊢
        refine pa_ (i := 0) (N := some 10) (tf_ 1 33) ?_
        refine pa_ (i := 1) (N := some 11) (tf_ 2 32) ?_
        refine pa_ (i := 2) (N := some 12) (tf_ 3 31) ?_
        refine pa_ (i := 3) (N := some 13) (tf_ 4 30) ?_
        refine take_ (i := 4) (N := some 14) (v := ?_) (a' := ?_) (tf_ 5 29) rfl rfl (take_ofW HT_.out HW_.out (by kernel_rfl)) (fun _ _ _ h => h) (Or.inl ⟨by rfl, ?_⟩) hHeld ?_ ?_
        rotate_left
        ·rintro w' ⟨s0, s1, s2, s3⟩
         go_simp
         with_reducible rfl
        rotate_left
        ·simp only [Act.put, List.setIfInBounds_toArray, List.set_cons_zero, List.set_cons_succ, i64_w, i32_w]
         rfl
        refine one_ (i := 5) (N := some 15) (tf_ 6 28) rfl rfl (one_of HT_.out (by kernel_rfl)) (by decide) (fun K hK => ?_)
        refine goes_ Tryz.func58 (by kernel_rfl) rfl #[.string ((rd_T75 l0 x3_1).f0)] (by rfl) rfl rfl sl_ ?_
        with_reducible refine (spec_WordValid.calls k1 ((rd_T75 l0 x3_1).f0) true _ A4.out).mono ?_
        rintro e w' ⟨rfl, ⟨nd, rfl⟩⟩
        refine ⟨_, rfl, ?_⟩
        refine hK.out _ _ ⟨((HB.out.cell (World.block_lt_of_cell? w _ hw120_0)).trans hw120_0), ((HB.out.cell (World.block_lt_of_cell? w _ hw120_1)).trans hw120_1), ((HB.out.cell (World.block_lt_of_cell? w _ hw122_0)).trans hw122_0), ((HB.out.cell (World.block_lt_of_cell? w _ hw122_1)).trans hw122_1)⟩ (fun hHeld => ?_)
        clear hK K
        refine norm_ (a' := ?_) ?_ ?_
        rotate_left
        ·show Act.put _ (some 15) _ = _
         simp only [Act.put, List.setIfInBounds_toArray, List.set_cons_zero, List.set_cons_succ, i64_w, i32_w]
         rfl
        refine pa_ (i := 6) (N := some 16) (tf_ 7 27) ?_
        refine pa_ (i := 7) (N := some 17) (tf_ 8 26) ?_
        refine pa_ (i := 8) (N := some 18) (tf_ 9 25) ?_
        refine pa_ (i := 9) (N := some 19) (tf_ 10 24) ?_
        refine pa_ (i := 10) (N := some 20) (tf_ 11 23) ?_
        refine pa_ (i := 11) (N := some 21) (tf_ 12 22) ?_
        refine take_ (i := 12) (N := some 22) (v := ?_) (a' := ?_) (tf_ 13 21) rfl rfl (take_ofW HT_.out HW_.out (by kernel_rfl)) (fun _ _ _ h => h) (Or.inl ⟨by rfl, ?_⟩) hHeld ?_ ?_
        rotate_left
        ·rintro w' ⟨s0, s1, s2, s3⟩
         go_simp
         with_reducible rfl
        rotate_left
        ·simp only [Act.put, List.setIfInBounds_toArray, List.set_cons_zero, List.set_cons_succ, i64_w, i32_w]
         rfl
        refine one_ (i := 13) (N := some 23) (tf_ 14 20) rfl rfl (one_of HT_.out (by kernel_rfl)) (by decide) (fun K hK => ?_)
        refine goes_ Tryz.func59 (by kernel_rfl) rfl #[.int .i64 ((rd_T75 l0 x3_1).f1), .int .i64 0, .int .i64 16777212] (by rfl) rfl rfl sl_ ?_
        with_reducible refine (spec_l1In.calls ((rd_T75 l0 x3_1).f1) 0 16777212 true _ A6.out).mono ?_
        rintro e w' ⟨rfl, ⟨nd, rfl⟩⟩
        refine ⟨_, rfl, ?_⟩
        refine hK.out _ _ ⟨((HB.out.cell (World.block_lt_of_cell? w _ hw120_0)).trans hw120_0), ((HB.out.cell (World.block_lt_of_cell? w _ hw120_1)).trans hw120_1), ((HB.out.cell (World.block_lt_of_cell? w _ hw122_0)).trans hw122_0), ((HB.out.cell (World.block_lt_of_cell? w _ hw122_1)).trans hw122_1)⟩ (fun hHeld => ?_)
        clear hK K
        refine norm_ (a' := ?_) ?_ ?_
        rotate_left
        ·show Act.put _ (some 23) _ = _
         simp only [Act.put, List.setIfInBounds_toArray, List.set_cons_zero, List.set_cons_succ, i64_w, i32_w]
         rfl
        refine pa_ (i := 14) (N := some 24) (tf_ 15 19) ?_
        refine pa_ (i := 15) (N := some 25) (tf_ 16 18) ?_
        refine pa_ (i := 16) (N := some 26) (tf_ 17 17) ?_
        refine pa_ (i := 17) (N := some 27) (tf_ 18 16) ?_
        refine pa_ (i := 18) (N := some 28) (tf_ 19 15) ?_
        refine pa_ (i := 19) (N := some 29) (tf_ 20 14) ?_
        refine pn_ (i := 20) (N := some 30) (tf_ 21 13) ?_
        refine pn_ (i := 21) (N := some 31) (tf_ 22 12) ?_
        refine pn_ (i := 22) (N := some 32) (tf_ 23 11) ?_
        refine pn_ (i := 23) (N := some 33) (tf_ 24 10) ?_
        refine pn_ (i := 24) (N := some 34) (tf_ 25 9) ?_
        refine pn_ (i := 25) (N := some 35) (tf_ 26 8) ?_
        refine pn_ (i := 26) (N := some 36) (tf_ 27 7) ?_
        refine pn_ (i := 27) (N := some 37) (tf_ 28 6) ?_
        refine pn_ (i := 28) (N := some 38) (tf_ 29 5) ?_
        refine pn_ (i := 29) (N := some 39) (tf_ 30 4) ?_
        refine pn_ (i := 30) (N := some 40) (tf_ 31 3) ?_
        refine pn_ (i := 31) (N := some 41) (tf_ 32 2) ?_
        refine pa_ (i := 32) (N := some 42) (tf_ 33 1) ?_
        refine pa_ (i := 33) (N := some 43) (tf_ 34 0) ?_
        refine done_ (done_of HT_.out (by kernel_rfl)) ?_
        try go_wp2
        go_roundg k1
        case measure => have := HK1.out; omega
        case rel => exact ⟨(wrap64 (x3_1 + 1)), (by first | rfl | (simp; done) | (simp [*]; done)), H', ⟨by have := HK1.out; omega⟩, ⟨hb_⟩⟩
      ·replace c7 := Bool.eq_false_iff.mpr c7
       subst c7
       have H1 : (some false) = some r := by rw [if_neg (show ¬ (false = true) by decide)] at H; exact H
       clear H
       have H := H1
       clear H1
       obtain rfl := Option.some.inj H
       try go_wp2
       have n0_ := Aside0.mk (below_drew1 HB.out)
       clear HB
       have HB := n0_
       clear n0_
       have p120 : 0 ≤ (x3_1 : Int) := of_decide_eq_true ma_
       have q120 : x3_1 < (l0.length : Int) := of_decide_eq_true ma_
       obtain ⟨ad120, e120, hx120_0, hx120_1⟩ := at_T75 HR0.out x3_1 p120 q120
       have hw120_1 := hx120_1
       have hw120_0 := hx120_0
       cases e120
       replace hx120_0 := (HB.out.cell (World.block_lt_of_cell? w _ hx120_0)).trans hx120_0
       replace hx120_1 := (HB.out.cell (World.block_lt_of_cell? w _ hx120_1)).trans hx120_1
       replace p120 := eq_true p120
       replace q120 := eq_true q120
       have p122 : 0 ≤ (x3_1 : Int) := of_decide_eq_true ma_
       have q122 : x3_1 < (l0.length : Int) := of_decide_eq_true ma_
       obtain ⟨ad122, e122, hx122_0, hx122_1⟩ := at_T75 HR0.out x3_1 p122 q122
       have hw122_1 := hx122_1
       have hw122_0 := hx122_0
       obtain rfl : ad120 = ad122 := (by injection e122)
       replace hx122_0 := (HB.out.cell (World.block_lt_of_cell? w _ hx122_0)).trans hx122_0
       replace hx122_1 := (HB.out.cell (World.block_lt_of_cell? w _ hx122_1)).trans hx122_1
       replace p122 := eq_true p122
       replace q122 := eq_true q122
       refine start_ (n := 34) (S := fun w' => w'.cell? (ad120.add ((x3_1).toNat * 2)) = some (.string ((rd_T75 l0 x3_1).f0)) ∧ w'.cell? ⟨(ad120.add ((x3_1).toNat * 2)).block, (ad120.add ((x3_1).toNat * 2)).off + 1, none⟩ = some (.int .i64 ((rd_T75 l0 x3_1).f1)) ∧ w'.cell? (ad120.add ((x3_1).toNat * 2)) = some (.string ((rd_T75 l0 x3_1).f0)) ∧ w'.cell? ⟨(ad120.add ((x3_1).toNat * 2)).block, (ad120.add ((x3_1).toNat * 2)).off + 1, none⟩ = some (.int .i64 ((rd_T75 l0 x3_1).f1))) (ds := []) (tf_ 0 34) (by kernel_rfl) rfl rfl ⟨((HB.out.cell (World.block_lt_of_cell? w _ hw120_0)).trans hw120_0), ((HB.out.cell (World.block_lt_of_cell? w _ hw120_1)).trans hw120_1), ((HB.out.cell (World.block_lt_of_cell? w _ hw122_0)).trans hw122_0), ((HB.out.cell (World.block_lt_of_cell? w _ hw122_1)).trans hw122_1)⟩ (fun hHeld => ?_); refine with_tabW spec_EntriesValid.tab4 spec_EntriesValid.bits4 (fun HT_ HW_ => ?_)
       generalize wr.drew = w16 at HB hx120_0 hx120_1 hx122_0 hx122_1 hHeld ⊢
       refine pa_ (i := 0) (N := some 10) (tf_ 1 33) ?_
       refine pa_ (i := 1) (N := some 11) (tf_ 2 32) ?_
       refine pa_ (i := 2) (N := some 12) (tf_ 3 31) ?_
       refine pa_ (i := 3) (N := some 13) (tf_ 4 30) ?_
       refine take_ (i := 4) (N := some 14) (v := ?_) (a' := ?_) (tf_ 5 29) rfl rfl (take_ofW HT_.out HW_.out (by kernel_rfl)) (fun _ _ _ h => h) (Or.inl ⟨by rfl, ?_⟩) hHeld ?_ ?_
       rotate_left
       ·rintro w' ⟨s0, s1, s2, s3⟩
        go_simp
        with_reducible rfl
       rotate_left
       ·simp only [Act.put, List.setIfInBounds_toArray, List.set_cons_zero, List.set_cons_succ, i64_w, i32_w]
        rfl
       refine one_ (i := 5) (N := some 15) (tf_ 6 28) rfl rfl (one_of HT_.out (by kernel_rfl)) (by decide) (fun K hK => ?_)
       refine goes_ Tryz.func58 (by kernel_rfl) rfl #[.string ((rd_T75 l0 x3_1).f0)] (by rfl) rfl rfl sl_ ?_
       with_reducible refine (spec_WordValid.calls k1 ((rd_T75 l0 x3_1).f0) true _ A4.out).mono ?_
       rintro e w' ⟨rfl, ⟨nd, rfl⟩⟩
       refine ⟨_, rfl, ?_⟩
       refine hK.out _ _ ⟨((HB.out.cell (World.block_lt_of_cell? w _ hw120_0)).trans hw120_0), ((HB.out.cell (World.block_lt_of_cell? w _ hw120_1)).trans hw120_1), ((HB.out.cell (World.block_lt_of_cell? w _ hw122_0)).trans hw122_0), ((HB.out.cell (World.block_lt_of_cell? w _ hw122_1)).trans hw122_1)⟩ (fun hHeld => ?_)
       clear hK K
       refine norm_ (a' := ?_) ?_ ?_
       rotate_left
       ·show Act.put _ (some 15) _ = _
        simp only [Act.put, List.setIfInBounds_toArray, List.set_cons_zero, List.set_cons_succ, i64_w, i32_w]
        rfl
       refine pa_ (i := 6) (N := some 16) (tf_ 7 27) ?_
       refine pa_ (i := 7) (N := some 17) (tf_ 8 26) ?_
       refine pa_ (i := 8) (N := some 18) (tf_ 9 25) ?_
       refine pa_ (i := 9) (N := some 19) (tf_ 10 24) ?_
       refine pa_ (i := 10) (N := some 20) (tf_ 11 23) ?_
       refine pa_ (i := 11) (N := some 21) (tf_ 12 22) ?_
       refine take_ (i := 12) (N := some 22) (v := ?_) (a' := ?_) (tf_ 13 21) rfl rfl (take_ofW HT_.out HW_.out (by kernel_rfl)) (fun _ _ _ h => h) (Or.inl ⟨by rfl, ?_⟩) hHeld ?_ ?_
       rotate_left
       ·rintro w' ⟨s0, s1, s2, s3⟩
        go_simp
        with_reducible rfl
       rotate_left
       ·simp only [Act.put, List.setIfInBounds_toArray, List.set_cons_zero, List.set_cons_succ, i64_w, i32_w]
        rfl
       refine one_ (i := 13) (N := some 23) (tf_ 14 20) rfl rfl (one_of HT_.out (by kernel_rfl)) (by decide) (fun K hK => ?_)
       refine goes_ Tryz.func59 (by kernel_rfl) rfl #[.int .i64 ((rd_T75 l0 x3_1).f1), .int .i64 0, .int .i64 16777212] (by rfl) rfl rfl sl_ ?_
       with_reducible refine (spec_l1In.calls ((rd_T75 l0 x3_1).f1) 0 16777212 false _ A6.out).mono ?_
       rintro e w' ⟨rfl, ⟨nd, rfl⟩⟩
       refine ⟨_, rfl, ?_⟩
       refine hK.out _ _ ⟨((HB.out.cell (World.block_lt_of_cell? w _ hw120_0)).trans hw120_0), ((HB.out.cell (World.block_lt_of_cell? w _ hw120_1)).trans hw120_1), ((HB.out.cell (World.block_lt_of_cell? w _ hw122_0)).trans hw122_0), ((HB.out.cell (World.block_lt_of_cell? w _ hw122_1)).trans hw122_1)⟩ (fun hHeld => ?_)
       clear hK K
       refine norm_ (a' := ?_) ?_ ?_
       rotate_left
       ·show Act.put _ (some 23) _ = _
        simp only [Act.put, List.setIfInBounds_toArray, List.set_cons_zero, List.set_cons_succ, i64_w, i32_w]
        rfl
       refine pa_ (i := 14) (N := some 24) (tf_ 15 19) ?_
       refine pa_ (i := 15) (N := some 25) (tf_ 16 18) ?_
       refine pa_ (i := 16) (N := some 26) (tf_ 17 17) ?_
       refine pn_ (i := 17) (N := some 27) (tf_ 18 16) ?_
       refine pn_ (i := 18) (N := some 28) (tf_ 19 15) ?_
       refine pn_ (i := 19) (N := some 29) (tf_ 20 14) ?_
       refine pn_ (i := 20) (N := some 30) (tf_ 21 13) ?_
       refine pn_ (i := 21) (N := some 31) (tf_ 22 12) ?_
       refine pn_ (i := 22) (N := some 32) (tf_ 23 11) ?_
       refine pn_ (i := 23) (N := some 33) (tf_ 24 10) ?_
       refine pn_ (i := 24) (N := some 34) (tf_ 25 9) ?_
       refine pn_ (i := 25) (N := some 35) (tf_ 26 8) ?_
       refine pn_ (i := 26) (N := some 36) (tf_ 27 7) ?_
       refine pn_ (i := 27) (N := some 37) (tf_ 28 6) ?_
       refine pn_ (i := 28) (N := some 38) (tf_ 29 5) ?_
       refine pn_ (i := 29) (N := some 39) (tf_ 30 4) ?_
       refine pn_ (i := 30) (N := some 40) (tf_ 31 3) ?_
       refine pn_ (i := 31) (N := some 41) (tf_ 32 2) ?_
       refine pn_ (i := 32) (N := some 42) (tf_ 33 1) ?_
       refine pa_ (i := 33) (N := some 43) (tf_ 34 0) ?_
       refine done_ (done_of HT_.out (by kernel_rfl)) ?_
       try go_wp2
       go_ret
       exact ⟨er_, hb_⟩
     ·replace c5 := Bool.eq_false_iff.mpr c5
      subst c5
      have H1 : (some false) = some r := by rw [if_neg (show ¬ (false = true) by decide)] at H; exact H
      clear H
      have H := H1
      clear H1
      obtain rfl := Option.some.inj H
      try go_wp2
      have n0_ := Aside0.mk (below_drew1 HB.out)
      clear HB
      have HB := n0_
      clear n0_
      have p120 : 0 ≤ (x3_1 : Int) := of_decide_eq_true ma_
      have q120 : x3_1 < (l0.length : Int) := of_decide_eq_true ma_
      obtain ⟨ad120, e120, hx120_0, hx120_1⟩ := at_T75 HR0.out x3_1 p120 q120
      have hw120_1 := hx120_1
      have hw120_0 := hx120_0
      cases e120
      replace hx120_0 := (HB.out.cell (World.block_lt_of_cell? w _ hx120_0)).trans hx120_0
      replace hx120_1 := (HB.out.cell (World.block_lt_of_cell? w _ hx120_1)).trans hx120_1
      replace p120 := eq_true p120
      replace q120 := eq_true q120
      refine start_ (n := 34) (S := fun w' => w'.cell? (ad120.add ((x3_1).toNat * 2)) = some (.string ((rd_T75 l0 x3_1).f0)) ∧ w'.cell? ⟨(ad120.add ((x3_1).toNat * 2)).block, (ad120.add ((x3_1).toNat * 2)).off + 1, none⟩ = some (.int .i64 ((rd_T75 l0 x3_1).f1))) (ds := []) (tf_ 0 34) (by kernel_rfl) rfl rfl ⟨((HB.out.cell (World.block_lt_of_cell? w _ hw120_0)).trans hw120_0), ((HB.out.cell (World.block_lt_of_cell? w _ hw120_1)).trans hw120_1)⟩ (fun hHeld => ?_); refine with_tabW spec_EntriesValid.tab4 spec_EntriesValid.bits4 (fun HT_ HW_ => ?_)
      generalize wr.drew = w17 at HB hx120_0 hx120_1 hHeld ⊢
      refine pa_ (i := 0) (N := some 10) (tf_ 1 33) ?_
      refine pa_ (i := 1) (N := some 11) (tf_ 2 32) ?_
      refine pa_ (i := 2) (N := some 12) (tf_ 3 31) ?_
      refine pa_ (i := 3) (N := some 13) (tf_ 4 30) ?_
      refine take_ (i := 4) (N := some 14) (v := ?_) (a' := ?_) (tf_ 5 29) rfl rfl (take_ofW HT_.out HW_.out (by kernel_rfl)) (fun _ _ _ h => h) (Or.inl ⟨by rfl, ?_⟩) hHeld ?_ ?_
      rotate_left
      ·rintro w' ⟨s0, s1⟩
       go_simp
       with_reducible rfl
      rotate_left
      ·simp only [Act.put, List.setIfInBounds_toArray, List.set_cons_zero, List.set_cons_succ, i64_w, i32_w]
       rfl
      refine one_ (i := 5) (N := some 15) (tf_ 6 28) rfl rfl (one_of HT_.out (by kernel_rfl)) (by decide) (fun K hK => ?_)
      refine goes_ Tryz.func58 (by kernel_rfl) rfl #[.string ((rd_T75 l0 x3_1).f0)] (by rfl) rfl rfl sl_ ?_
      with_reducible refine (spec_WordValid.calls k1 ((rd_T75 l0 x3_1).f0) false _ A4.out).mono ?_
      rintro e w' ⟨rfl, ⟨nd, rfl⟩⟩
      refine ⟨_, rfl, ?_⟩
      refine hK.out _ _ ⟨((HB.out.cell (World.block_lt_of_cell? w _ hw120_0)).trans hw120_0), ((HB.out.cell (World.block_lt_of_cell? w _ hw120_1)).trans hw120_1)⟩ (fun hHeld => ?_)
      clear hK K
      refine norm_ (a' := ?_) ?_ ?_
      rotate_left
      ·show Act.put _ (some 15) _ = _
       simp only [Act.put, List.setIfInBounds_toArray, List.set_cons_zero, List.set_cons_succ, i64_w, i32_w]
       rfl
      refine pa_ (i := 6) (N := some 16) (tf_ 7 27) ?_
      refine pa_ (i := 7) (N := some 17) (tf_ 8 26) ?_
      refine pn_ (i := 8) (N := some 18) (tf_ 9 25) ?_
      refine pn_ (i := 9) (N := some 19) (tf_ 10 24) ?_
      refine pn_ (i := 10) (N := some 20) (tf_ 11 23) ?_
      refine pn_ (i := 11) (N := some 21) (tf_ 12 22) ?_
      refine pn_ (i := 12) (N := some 22) (tf_ 13 21) ?_
      refine pn_ (i := 13) (N := some 23) (tf_ 14 20) ?_
      refine pn_ (i := 14) (N := some 24) (tf_ 15 19) ?_
      refine pa_ (i := 15) (N := some 25) (tf_ 16 18) ?_
      refine pa_ (i := 16) (N := some 26) (tf_ 17 17) ?_
      refine pn_ (i := 17) (N := some 27) (tf_ 18 16) ?_
      refine pn_ (i := 18) (N := some 28) (tf_ 19 15) ?_
      refine pn_ (i := 19) (N := some 29) (tf_ 20 14) ?_
      refine pn_ (i := 20) (N := some 30) (tf_ 21 13) ?_
      refine pn_ (i := 21) (N := some 31) (tf_ 22 12) ?_
      refine pn_ (i := 22) (N := some 32) (tf_ 23 11) ?_
      refine pn_ (i := 23) (N := some 33) (tf_ 24 10) ?_
      refine pn_ (i := 24) (N := some 34) (tf_ 25 9) ?_
      refine pn_ (i := 25) (N := some 35) (tf_ 26 8) ?_
      refine pn_ (i := 26) (N := some 36) (tf_ 27 7) ?_
      refine pn_ (i := 27) (N := some 37) (tf_ 28 6) ?_
      refine pn_ (i := 28) (N := some 38) (tf_ 29 5) ?_
      refine pn_ (i := 29) (N := some 39) (tf_ 30 4) ?_
      refine pn_ (i := 30) (N := some 40) (tf_ 31 3) ?_
      refine pn_ (i := 31) (N := some 41) (tf_ 32 2) ?_
      refine pn_ (i := 32) (N := some 42) (tf_ 33 1) ?_
      refine pa_ (i := 33) (N := some 43) (tf_ 34 0) ?_
      refine done_ (done_of HT_.out (by kernel_rfl)) ?_
      try go_wp2
      go_ret
      exact ⟨er_, hb_⟩
    ·rw [if_neg c3] at H
     exact absurd H (by simp)
   ·rw [if_neg c2] at H
    have c2b0 : decide (x3_1 < (l0.length : Int)) = false := decide_eq_false c2
    clear c2
    obtain rfl := Option.some.inj H
    go_wp2
    go_ret
    exact ⟨er_, hb_⟩
/-! ### spec_FolderText: function 80 -/
def spec_FolderText.l0 : Nat → List (S75) → ByteArray → Int → Option (ByteArray)
 | 0, _, _, _ => none
 | k + 1, x0, x3, x4 => if x4 < (x0.length : Int) then (if 0 ≤ x4 then (if x3.size + ((rd_T75 x0 x4).f0).size ≤ 9223372036854775807 then (if (x3 ++ ((rd_T75 x0 x4).f0)).size + 1 ≤ 9223372036854775807 then ((spec_HexText.f k ((rd_T75 x0 x4).f1)).bind fun t129 => (if ((x3 ++ ((rd_T75 x0 x4).f0)) ++ (⟨#[61]⟩ : ByteArray)).size + t129.size ≤ 9223372036854775807 then (if (((x3 ++ ((rd_T75 x0 x4).f0)) ++ (⟨#[61]⟩ : ByteArray)) ++ t129).size + 1 ≤ 9223372036854775807 then (spec_FolderText.l0 k x0 ((((x3 ++ ((rd_T75 x0 x4).f0)) ++ (⟨#[61]⟩ : ByteArray)) ++ t129) ++ (⟨#[59]⟩ : ByteArray)) (wrap64 (x4 + 1))) else (none)) else (none))) else (none)) else (none)) else (none)) else (some x3)
def spec_FolderText.f (k : Nat) (l0 : List (S75)) : Option (ByteArray) := (spec_EntriesValid.f k l0).bind fun t126 => (if t126 = true then (spec_FolderText.l0 k l0 (⟨#[100]⟩ : ByteArray) 0) else (some (⟨#[]⟩ : ByteArray)))
theorem spec_FolderText.mono_l : ∀ k, (∀ y0 y1 y2, LeO (spec_FolderText.l0 k y0 y1 y2) (spec_FolderText.l0 (k + 1) y0 y1 y2))
 | 0 => fun _ _ _ r h => by simp [spec_FolderText.l0] at h
 | k + 1 => by
  have ih0 := spec_FolderText.mono_l k
  ·intro y0 y1 y2
   unfold spec_FolderText.l0
   repeat' first
   | (with_reducible exact ih0 _ _ _)
   | (with_reducible exact spec_EntriesValid.mono _ _)
   | (with_reducible exact spec_HexText.mono _ _)
   | (with_reducible exact LeO.refl _)
   | (with_reducible exact LeO.none _)
   | (with_reducible refine LeO.ite ?_ ?_)
   | (with_reducible refine LeO.bind ?_ (fun _ => ?_))
   | exact ih0 _ _ _
   | exact spec_EntriesValid.mono _ _
   | exact spec_HexText.mono _ _
   | exact LeO.none _
   | refine LeO.ite ?_ ?_
   | refine LeO.bind ?_ (fun _ => ?_)
theorem spec_FolderText.mono : ∀ a0 k, LeO (spec_FolderText.f k a0) (spec_FolderText.f (k + 1) a0) := by
 intro a0 k
 have ih0 := spec_FolderText.mono_l k
 unfold spec_FolderText.f
 repeat' first
   | (with_reducible exact ih0 _ _ _)
   | (with_reducible exact spec_EntriesValid.mono _ _)
   | (with_reducible exact spec_HexText.mono _ _)
   | (with_reducible exact LeO.refl _)
   | (with_reducible exact LeO.none _)
   | (with_reducible refine LeO.ite ?_ ?_)
   | (with_reducible refine LeO.bind ?_ (fun _ => ?_))
   | exact ih0 _ _ _
   | exact spec_EntriesValid.mono _ _
   | exact spec_HexText.mono _ _
   | exact LeO.none _
   | refine LeO.ite ?_ ?_
   | refine LeO.bind ?_ (fun _ => ?_)
set_option maxHeartbeats 8000000 in
set_option maxRecDepth 100000 in
theorem spec_FolderText.calls (k : Nat) (A0 : Option Addr) (c0 : Nat) (l0 : List (S75)) (r : ByteArray) (w : World) (hr0 : Kd.C k75 w A0 l0.length l0) (hc0 : l0.length ≤ c0) (h : spec_FolderText.f k l0 = some r) :
  Calls Tryz.prog 80 #[.slice A0 l0.length c0] w fun e w' => e = .returned (.string r) ∧ Below w.heap.size w w' := by
 have HR0 := Aside0.mk hr0
 have HC0 := Aside0.mk hc0
 clear hr0 hc0
 have HB := Aside0.mk (Below.refl w.heap.size w)
 have H : ((spec_EntriesValid.f k l0).bind fun t126 => (if t126 = true then (spec_FolderText.l0 k l0 (⟨#[100]⟩ : ByteArray) 0) else (some (⟨#[]⟩ : ByteArray)))) = some r := h
 clear h
 replace H := Option.bind_eq_some_iff.mp H
 obtain ⟨t126, A20, H⟩ := H
 replace H : (if t126 = true then (spec_FolderText.l0 k l0 (⟨#[100]⟩ : ByteArray) 0) else (some (⟨#[]⟩ : ByteArray))) = some r := H
 have A2 := Aside0.mk A20
 clear A20
 by_cases c3 : t126 = true
 ·subst c3
  have H1 : (spec_FolderText.l0 k l0 (⟨#[100]⟩ : ByteArray) 0) = some r := by rw [if_pos rfl] at H; exact H
  clear H
  have H := H1
  clear H1
  have H' := Aside0.mk H
  clear H
  go_enter Tryz.func80, Tryz.ntmps80
  go_wp2_with (first | (go_at_call 102; (with_reducible refine (spec_EntriesValid.calls k _ _ l0 true _ ?side1 ?side2 A2.out).mono ?_); (case side1 => exact kC_ HR0.out); (case side2 => exact HC0.out); rintro e w4 ⟨rfl, hb⟩; replace HB := Aside0.mk (below_step hb_ hb); (try clear hb)))
  repeat (go_quiet (first | (go_at_call 102; (with_reducible refine (spec_EntriesValid.calls k _ _ l0 true _ ?side1 ?side2 A2.out).mono ?_); (case side1 => exact kC_ HR0.out); (case side2 => exact HC0.out); rintro e w4 ⟨rfl, hb⟩; replace HB := Aside0.mk (below_step hb_ hb); (try clear hb))); try go_wp2_with (first | (go_at_call 102; (with_reducible refine (spec_EntriesValid.calls k _ _ l0 true _ ?side1 ?side2 A2.out).mono ?_); (case side1 => exact kC_ HR0.out); (case side2 => exact HC0.out); rintro e w4 ⟨rfl, hb⟩; replace HB := Aside0.mk (below_step hb_ hb); (try clear hb))))
  go_loopg [3, 4] k (fun kq v3 v4 w' => ∃ (x3_1 : ByteArray) (x4_1 : Int), v3 = .string x3_1 ∧ v4 = .int .i64 x4_1 ∧ Aside0 (spec_FolderText.l0 kq l0 x3_1 x4_1 = some r) ∧ Aside0 (kq ≤ k) ∧ Aside0 (Below w.heap.size w w'))
  case atStart => exact ⟨((⟨#[100]⟩ : ByteArray)), (0), (by first | rfl | (simp; done) | (simp [*]; done)), (by first | rfl | (simp; done) | (simp [*]; done)), H', ⟨Nat.le_refl _⟩, ⟨hb_⟩⟩
  case round =>
   clear H'
   try clear p2
   try clear c3
   obtain ⟨x3_1, x4_1, rfl, rfl, HA, HK1, HB⟩ := hrel
   cases gk with
   | zero => exact absurd HA.out (by simp [spec_FolderText.l0])
   | succ k1 =>
    have H := HA.out
    clear HA
    simp only [spec_FolderText.l0] at H
    by_cases c5 : x4_1 < (l0.length : Int)
    ·rw [if_pos c5] at H
     have c5b0 : decide (x4_1 < (l0.length : Int)) = true := decide_eq_true c5
     clear c5
     by_cases c6 : 0 ≤ x4_1
     ·rw [if_pos c6] at H
      have c6b0 : decide (0 ≤ x4_1) = true := decide_eq_true c6
      clear c6
      by_cases c7 : x3_1.size + ((rd_T75 l0 x4_1).f0).size ≤ 9223372036854775807
      ·rw [if_pos c7] at H
       have c7b0 := eq_true c7
       have c7b1 : decide (x3_1.size + ((rd_T75 l0 x4_1).f0).size ≤ 9223372036854775807) = true := decide_eq_true c7
       try have c7b2 : (9223372036854775807 < x3_1.size + ((rd_T75 l0 x4_1).f0).size) = False := eq_false (Nat.not_lt.2 c7)
       by_cases c8 : (x3_1 ++ ((rd_T75 l0 x4_1).f0)).size + 1 ≤ 9223372036854775807
       ·rw [if_pos c8] at H
        have c8b0 := eq_true c8
        have c8b1 : decide ((x3_1 ++ ((rd_T75 l0 x4_1).f0)).size + 1 ≤ 9223372036854775807) = true := decide_eq_true c8
        try have c8b2 : (9223372036854775807 < (x3_1 ++ ((rd_T75 l0 x4_1).f0)).size + 1) = False := eq_false (Nat.not_lt.2 c8)
        try have c8b5 : (x3_1.size + ((rd_T75 l0 x4_1).f0).size + 1 ≤ 9223372036854775807) = True := eq_true (by first | exact c8 | exact (by have h_ := c8; simp only [ByteArray.size_append, ByteArray.size_extract] at h_ ⊢; omega))
        try have c8b6 : decide (x3_1.size + ((rd_T75 l0 x4_1).f0).size + 1 ≤ 9223372036854775807) = true := decide_eq_true (of_eq_true c8b5)
        try have c8b7 : (9223372036854775807 < x3_1.size + ((rd_T75 l0 x4_1).f0).size + 1) = False := eq_false (Nat.not_lt.2 (of_eq_true c8b5))
        replace H := Option.bind_eq_some_iff.mp H
        obtain ⟨t129, A90, H⟩ := H
        replace H : (if ((x3_1 ++ ((rd_T75 l0 x4_1).f0)) ++ (⟨#[61]⟩ : ByteArray)).size + t129.size ≤ 9223372036854775807 then (if (((x3_1 ++ ((rd_T75 l0 x4_1).f0)) ++ (⟨#[61]⟩ : ByteArray)) ++ t129).size + 1 ≤ 9223372036854775807 then (spec_FolderText.l0 k1 l0 ((((x3_1 ++ ((rd_T75 l0 x4_1).f0)) ++ (⟨#[61]⟩ : ByteArray)) ++ t129) ++ (⟨#[59]⟩ : ByteArray)) (wrap64 (x4_1 + 1))) else (none)) else (none)) = some r := H
        have A9 := Aside0.mk A90
        clear A90
        by_cases c10 : ((x3_1 ++ ((rd_T75 l0 x4_1).f0)) ++ (⟨#[61]⟩ : ByteArray)).size + t129.size ≤ 9223372036854775807
        ·rw [if_pos c10] at H
         have c10b0 := eq_true c10
         have c10b1 : decide (((x3_1 ++ ((rd_T75 l0 x4_1).f0)) ++ (⟨#[61]⟩ : ByteArray)).size + t129.size ≤ 9223372036854775807) = true := decide_eq_true c10
         try have c10b2 : (9223372036854775807 < ((x3_1 ++ ((rd_T75 l0 x4_1).f0)) ++ (⟨#[61]⟩ : ByteArray)).size + t129.size) = False := eq_false (Nat.not_lt.2 c10)
         try have c10b5 : (x3_1.size + ((rd_T75 l0 x4_1).f0).size + 1 + t129.size ≤ 9223372036854775807) = True := eq_true (by first | exact c10 | exact (by have h_ := c10; have hl0_ : (⟨#[61]⟩ : ByteArray).size = 1 := rfl; simp only [ByteArray.size_append, ByteArray.size_extract] at h_ ⊢; omega))
         try have c10b6 : decide (x3_1.size + ((rd_T75 l0 x4_1).f0).size + 1 + t129.size ≤ 9223372036854775807) = true := decide_eq_true (of_eq_true c10b5)
         try have c10b7 : (9223372036854775807 < x3_1.size + ((rd_T75 l0 x4_1).f0).size + 1 + t129.size) = False := eq_false (Nat.not_lt.2 (of_eq_true c10b5))
         by_cases c11 : (((x3_1 ++ ((rd_T75 l0 x4_1).f0)) ++ (⟨#[61]⟩ : ByteArray)) ++ t129).size + 1 ≤ 9223372036854775807
         ·rw [if_pos c11] at H
          have c11b0 := eq_true c11
          have c11b1 : decide ((((x3_1 ++ ((rd_T75 l0 x4_1).f0)) ++ (⟨#[61]⟩ : ByteArray)) ++ t129).size + 1 ≤ 9223372036854775807) = true := decide_eq_true c11
          try have c11b2 : (9223372036854775807 < (((x3_1 ++ ((rd_T75 l0 x4_1).f0)) ++ (⟨#[61]⟩ : ByteArray)) ++ t129).size + 1) = False := eq_false (Nat.not_lt.2 c11)
          try have c11b5 : (x3_1.size + ((rd_T75 l0 x4_1).f0).size + 1 + t129.size + 1 ≤ 9223372036854775807) = True := eq_true (by first | exact c11 | exact (by have h_ := c11; have hl0_ : (⟨#[61]⟩ : ByteArray).size = 1 := rfl; simp only [ByteArray.size_append, ByteArray.size_extract] at h_ ⊢; omega))
          try have c11b6 : decide (x3_1.size + ((rd_T75 l0 x4_1).f0).size + 1 + t129.size + 1 ≤ 9223372036854775807) = true := decide_eq_true (of_eq_true c11b5)
          try have c11b7 : (9223372036854775807 < x3_1.size + ((rd_T75 l0 x4_1).f0).size + 1 + t129.size + 1) = False := eq_false (Nat.not_lt.2 (of_eq_true c11b5))
          have H' := Aside0.mk H
          clear H
          have p127 : 0 ≤ (x4_1 : Int) := of_decide_eq_true ma_
          have q127 : x4_1 < (l0.length : Int) := of_decide_eq_true ma_
          obtain ⟨ad127, e127, hx127_0, hx127_1⟩ := at_T75 HR0.out x4_1 p127 q127
          cases e127
          replace hx127_0 := (HB.out.cell (World.block_lt_of_cell? w _ hx127_0)).trans hx127_0
          replace hx127_1 := (HB.out.cell (World.block_lt_of_cell? w _ hx127_1)).trans hx127_1
          replace p127 := eq_true p127
          replace q127 := eq_true q127
          have p128 : 0 ≤ (x4_1 : Int) := of_decide_eq_true ma_
          have q128 : x4_1 < (l0.length : Int) := of_decide_eq_true ma_
          obtain ⟨ad128, e128, hx128_0, hx128_1⟩ := at_T75 HR0.out x4_1 p128 q128
          obtain rfl : ad127 = ad128 := (by injection e128)
          replace hx128_0 := (HB.out.cell (World.block_lt_of_cell? w _ hx128_0)).trans hx128_0
          replace hx128_1 := (HB.out.cell (World.block_lt_of_cell? w _ hx128_1)).trans hx128_1
          replace p128 := eq_true p128
          replace q128 := eq_true q128
          go_wp2_with (first | (go_at_call 101; (with_reducible refine (spec_HexText.calls k1 ((rd_T75 l0 x4_1).f1) t129 _ A9.out).mono ?_); rintro e w' ⟨rfl, ⟨nd, rfl⟩⟩; (try first | exact ⟨rfl, _, World.drewN_drewN _ _ _⟩ | exact ⟨rfl, _, Eq.trans (World.drewN_drewN _ _ _) (congrArg (World.drewN _) (Nat.add_assoc _ _ _))⟩)))
          repeat (go_quiet (first | (go_at_call 101; (with_reducible refine (spec_HexText.calls k1 ((rd_T75 l0 x4_1).f1) t129 _ A9.out).mono ?_); rintro e w' ⟨rfl, ⟨nd, rfl⟩⟩; (try first | exact ⟨rfl, _, World.drewN_drewN _ _ _⟩ | exact ⟨rfl, _, Eq.trans (World.drewN_drewN _ _ _) (congrArg (World.drewN _) (Nat.add_assoc _ _ _))⟩))); try go_wp2_with (first | (go_at_call 101; (with_reducible refine (spec_HexText.calls k1 ((rd_T75 l0 x4_1).f1) t129 _ A9.out).mono ?_); rintro e w' ⟨rfl, ⟨nd, rfl⟩⟩; (try first | exact ⟨rfl, _, World.drewN_drewN _ _ _⟩ | exact ⟨rfl, _, Eq.trans (World.drewN_drewN _ _ _) (congrArg (World.drewN _) (Nat.add_assoc _ _ _))⟩))))
          go_roundg k1
          case measure => have := HK1.out; omega
          case rel => exact ⟨((((x3_1 ++ ((rd_T75 l0 x4_1).f0)) ++ (⟨#[61]⟩ : ByteArray)) ++ t129) ++ (⟨#[59]⟩ : ByteArray)), (wrap64 (x4_1 + 1)), (by first | rfl | (simp; done) | (simp [*]; done)), (by first | rfl | (simp; done) | (simp [*]; done)), H', ⟨by have := HK1.out; omega⟩, ⟨hb_⟩⟩
         ·rw [if_neg c11] at H
          exact absurd H (by simp)
        ·rw [if_neg c10] at H
         exact absurd H (by simp)
       ·rw [if_neg c8] at H
        exact absurd H (by simp)
      ·rw [if_neg c7] at H
       exact absurd H (by simp)
     ·rw [if_neg c6] at H
      exact absurd H (by simp)
    ·rw [if_neg c5] at H
     have c5b0 : decide (x4_1 < (l0.length : Int)) = false := decide_eq_false c5
     clear c5
     obtain rfl := Option.some.inj H
     go_wp2
     repeat (go_quiet (fail); try go_wp2)
     go_ret
     exact ⟨er_, hb_⟩
 ·replace c3 := Bool.eq_false_iff.mpr c3
  subst c3
  have H1 : (some (⟨#[]⟩ : ByteArray)) = some r := by rw [if_neg (show ¬ (false = true) by decide)] at H; exact H
  clear H
  have H := H1
  clear H1
  obtain rfl := Option.some.inj H
  go_enter Tryz.func80, Tryz.ntmps80
  go_wp2_with (first | (go_at_call 102; (with_reducible refine (spec_EntriesValid.calls k _ _ l0 false _ ?side1 ?side2 A2.out).mono ?_); (case side1 => exact kC_ HR0.out); (case side2 => exact HC0.out); rintro e w12 ⟨rfl, hb⟩; replace HB := Aside0.mk (below_step hb_ hb); (try clear hb)))
  repeat (go_quiet (first | (go_at_call 102; (with_reducible refine (spec_EntriesValid.calls k _ _ l0 false _ ?side1 ?side2 A2.out).mono ?_); (case side1 => exact kC_ HR0.out); (case side2 => exact HC0.out); rintro e w12 ⟨rfl, hb⟩; replace HB := Aside0.mk (below_step hb_ hb); (try clear hb))); try go_wp2_with (first | (go_at_call 102; (with_reducible refine (spec_EntriesValid.calls k _ _ l0 false _ ?side1 ?side2 A2.out).mono ?_); (case side1 => exact kC_ HR0.out); (case side2 => exact HC0.out); rintro e w12 ⟨rfl, hb⟩; replace HB := Aside0.mk (below_step hb_ hb); (try clear hb))))
  go_ret
  exact ⟨er_, hb_⟩
/-! ### spec_ReadFolder: function 61 -/
mutual
def spec_ReadFolder.l0 : Nat → ByteArray → List (S75) → Int → Option ((List (S75)) × Bool)
 | 0, _, _, _ => none
 | k + 1, x0, x4, x5 => if x5 < (x0.size : Int) then (spec_ReadFolder.l1 k x0 x4 x5 x5) else ((spec_FolderText.f k x4).bind fun t140 => (if t140.toList = x0.toList then (if x0.toList = ([] : List UInt8) then (some ((([] : List (S75))), false)) else (some (x4, true))) else (some ((([] : List (S75))), false))))
def spec_ReadFolder.j2 : Nat → ByteArray → List (S75) → Int → Int → Option ((List (S75)) × Bool)
 | 0, _, _, _, _ => none
 | k + 1, x0, x4, x5, x6 => spec_ReadFolder.l2 k x0 x4 x5 x6 x6
def spec_ReadFolder.j4 : Nat → ByteArray → List (S75) → Int → Int → Int → Option ((List (S75)) × Bool)
 | 0, _, _, _, _, _ => none
 | k + 1, x0, x4, x5, x6, x7 => if x7 = (x0.size : Int) then (some ((([] : List (S75))), false)) else (if 0 ≤ x5 then (if x5 ≤ x6 then (if x6 ≤ (x0.size : Int) then (if 0 ≤ (wrap64 (x6 + 1)) then (if (wrap64 (x6 + 1)) ≤ x7 then (if x7 ≤ (x0.size : Int) then ((spec_ReadHex.f k (x0.extract ((wrap64 (x6 + 1)) : Int).toNat (x7 : Int).toNat)).bind fun t136 => (if x4.length < 5864062014805 then (spec_ReadFolder.l0 k x0 (x4 ++ [(⟨x0.extract (x5 : Int).toNat (x6 : Int).toNat, t136⟩ : S75)]) (wrap64 (x7 + 1))) else (none))) else (none)) else (none)) else (none)) else (none)) else (none)) else (none))
def spec_ReadFolder.l2 : Nat → ByteArray → List (S75) → Int → Int → Int → Option ((List (S75)) × Bool)
 | 0, _, _, _, _, _ => none
 | k + 1, x0, x4, x5, x6, x7 => if x7 < (x0.size : Int) then (if 0 ≤ x7 then (if (bt x0 x7) = 59 then (spec_ReadFolder.j4 k x0 x4 x5 x6 x7) else (spec_ReadFolder.l2 k x0 x4 x5 x6 (wrap64 (x7 + 1)))) else (none)) else (spec_ReadFolder.j4 k x0 x4 x5 x6 x7)
def spec_ReadFolder.l1 : Nat → ByteArray → List (S75) → Int → Int → Option ((List (S75)) × Bool)
 | 0, _, _, _, _ => none
 | k + 1, x0, x4, x5, x6 => if x6 < (x0.size : Int) then (if 0 ≤ x6 then (if (bt x0 x6) = 61 then (spec_ReadFolder.j2 k x0 x4 x5 x6) else (spec_ReadFolder.l1 k x0 x4 x5 (wrap64 (x6 + 1)))) else (none)) else (spec_ReadFolder.j2 k x0 x4 x5 x6)
end
def spec_ReadFolder.f (k : Nat) (a0 : ByteArray) : Option ((List (S75)) × Bool) := spec_ReadFolder.l0 k a0 (([] : List (S75))) 1
theorem spec_ReadFolder.mono_l : ∀ k, (∀ y0 y1 y2, LeO (spec_ReadFolder.l0 k y0 y1 y2) (spec_ReadFolder.l0 (k + 1) y0 y1 y2)) ∧ (∀ y0 y1 y2 y3, LeO (spec_ReadFolder.j2 k y0 y1 y2 y3) (spec_ReadFolder.j2 (k + 1) y0 y1 y2 y3)) ∧ (∀ y0 y1 y2 y3 y4, LeO (spec_ReadFolder.j4 k y0 y1 y2 y3 y4) (spec_ReadFolder.j4 (k + 1) y0 y1 y2 y3 y4)) ∧ (∀ y0 y1 y2 y3 y4, LeO (spec_ReadFolder.l2 k y0 y1 y2 y3 y4) (spec_ReadFolder.l2 (k + 1) y0 y1 y2 y3 y4)) ∧ (∀ y0 y1 y2 y3, LeO (spec_ReadFolder.l1 k y0 y1 y2 y3) (spec_ReadFolder.l1 (k + 1) y0 y1 y2 y3))
 | 0 => ⟨fun _ _ _ r h => by simp [spec_ReadFolder.l0] at h, fun _ _ _ _ r h => by simp [spec_ReadFolder.j2] at h, fun _ _ _ _ _ r h => by simp [spec_ReadFolder.j4] at h, fun _ _ _ _ _ r h => by simp [spec_ReadFolder.l2] at h, fun _ _ _ _ r h => by simp [spec_ReadFolder.l1] at h⟩
 | k + 1 => by
  obtain ⟨ih0, ih1, ih2, ih3, ih4⟩ := spec_ReadFolder.mono_l k
  refine ⟨?_, ?_, ?_, ?_, ?_⟩
  ·intro y0 y1 y2
   unfold spec_ReadFolder.l0
   repeat' first
   | (with_reducible exact ih0 _ _ _)
   | (with_reducible exact ih1 _ _ _ _)
   | (with_reducible exact ih2 _ _ _ _ _)
   | (with_reducible exact ih3 _ _ _ _ _)
   | (with_reducible exact ih4 _ _ _ _)
   | (with_reducible exact spec_FolderText.mono _ _)
   | (with_reducible exact spec_ReadHex.mono _ _)
   | (with_reducible exact LeO.refl _)
   | (with_reducible exact LeO.none _)
   | (with_reducible refine LeO.ite ?_ ?_)
   | (with_reducible refine LeO.bind ?_ (fun _ => ?_))
   | exact ih0 _ _ _
   | exact ih1 _ _ _ _
   | exact ih2 _ _ _ _ _
   | exact ih3 _ _ _ _ _
   | exact ih4 _ _ _ _
   | exact spec_FolderText.mono _ _
   | exact spec_ReadHex.mono _ _
   | exact LeO.none _
   | refine LeO.ite ?_ ?_
   | refine LeO.bind ?_ (fun _ => ?_)
  ·intro y0 y1 y2 y3
   unfold spec_ReadFolder.j2
   repeat' first
   | (with_reducible exact ih0 _ _ _)
   | (with_reducible exact ih1 _ _ _ _)
   | (with_reducible exact ih2 _ _ _ _ _)
   | (with_reducible exact ih3 _ _ _ _ _)
   | (with_reducible exact ih4 _ _ _ _)
   | (with_reducible exact spec_FolderText.mono _ _)
   | (with_reducible exact spec_ReadHex.mono _ _)
   | (with_reducible exact LeO.refl _)
   | (with_reducible exact LeO.none _)
   | (with_reducible refine LeO.ite ?_ ?_)
   | (with_reducible refine LeO.bind ?_ (fun _ => ?_))
   | exact ih0 _ _ _
   | exact ih1 _ _ _ _
   | exact ih2 _ _ _ _ _
   | exact ih3 _ _ _ _ _
   | exact ih4 _ _ _ _
   | exact spec_FolderText.mono _ _
   | exact spec_ReadHex.mono _ _
   | exact LeO.none _
   | refine LeO.ite ?_ ?_
   | refine LeO.bind ?_ (fun _ => ?_)
  ·intro y0 y1 y2 y3 y4
   unfold spec_ReadFolder.j4
   repeat' first
   | (with_reducible exact ih0 _ _ _)
   | (with_reducible exact ih1 _ _ _ _)
   | (with_reducible exact ih2 _ _ _ _ _)
   | (with_reducible exact ih3 _ _ _ _ _)
   | (with_reducible exact ih4 _ _ _ _)
   | (with_reducible exact spec_FolderText.mono _ _)
   | (with_reducible exact spec_ReadHex.mono _ _)
   | (with_reducible exact LeO.refl _)
   | (with_reducible exact LeO.none _)
   | (with_reducible refine LeO.ite ?_ ?_)
   | (with_reducible refine LeO.bind ?_ (fun _ => ?_))
   | exact ih0 _ _ _
   | exact ih1 _ _ _ _
   | exact ih2 _ _ _ _ _
   | exact ih3 _ _ _ _ _
   | exact ih4 _ _ _ _
   | exact spec_FolderText.mono _ _
   | exact spec_ReadHex.mono _ _
   | exact LeO.none _
   | refine LeO.ite ?_ ?_
   | refine LeO.bind ?_ (fun _ => ?_)
  ·intro y0 y1 y2 y3 y4
   unfold spec_ReadFolder.l2
   repeat' first
   | (with_reducible exact ih0 _ _ _)
   | (with_reducible exact ih1 _ _ _ _)
   | (with_reducible exact ih2 _ _ _ _ _)
   | (with_reducible exact ih3 _ _ _ _ _)
   | (with_reducible exact ih4 _ _ _ _)
   | (with_reducible exact spec_FolderText.mono _ _)
   | (with_reducible exact spec_ReadHex.mono _ _)
   | (with_reducible exact LeO.refl _)
   | (with_reducible exact LeO.none _)
   | (with_reducible refine LeO.ite ?_ ?_)
   | (with_reducible refine LeO.bind ?_ (fun _ => ?_))
   | exact ih0 _ _ _
   | exact ih1 _ _ _ _
   | exact ih2 _ _ _ _ _
   | exact ih3 _ _ _ _ _
   | exact ih4 _ _ _ _
   | exact spec_FolderText.mono _ _
   | exact spec_ReadHex.mono _ _
   | exact LeO.none _
   | refine LeO.ite ?_ ?_
   | refine LeO.bind ?_ (fun _ => ?_)
  ·intro y0 y1 y2 y3
   unfold spec_ReadFolder.l1
   repeat' first
   | (with_reducible exact ih0 _ _ _)
   | (with_reducible exact ih1 _ _ _ _)
   | (with_reducible exact ih2 _ _ _ _ _)
   | (with_reducible exact ih3 _ _ _ _ _)
   | (with_reducible exact ih4 _ _ _ _)
   | (with_reducible exact spec_FolderText.mono _ _)
   | (with_reducible exact spec_ReadHex.mono _ _)
   | (with_reducible exact LeO.refl _)
   | (with_reducible exact LeO.none _)
   | (with_reducible refine LeO.ite ?_ ?_)
   | (with_reducible refine LeO.bind ?_ (fun _ => ?_))
   | exact ih0 _ _ _
   | exact ih1 _ _ _ _
   | exact ih2 _ _ _ _ _
   | exact ih3 _ _ _ _ _
   | exact ih4 _ _ _ _
   | exact spec_FolderText.mono _ _
   | exact spec_ReadHex.mono _ _
   | exact LeO.none _
   | refine LeO.ite ?_ ?_
   | refine LeO.bind ?_ (fun _ => ?_)
theorem spec_ReadFolder.mono : ∀ a0 k, LeO (spec_ReadFolder.f k a0) (spec_ReadFolder.f (k + 1) a0) := by
 intro a0 k
 obtain ⟨ih0, ih1, ih2, ih3, ih4⟩ := spec_ReadFolder.mono_l k
 unfold spec_ReadFolder.f
 repeat' first
   | (with_reducible exact ih0 _ _ _)
   | (with_reducible exact ih1 _ _ _ _)
   | (with_reducible exact ih2 _ _ _ _ _)
   | (with_reducible exact ih3 _ _ _ _ _)
   | (with_reducible exact ih4 _ _ _ _)
   | (with_reducible exact spec_FolderText.mono _ _)
   | (with_reducible exact spec_ReadHex.mono _ _)
   | (with_reducible exact LeO.refl _)
   | (with_reducible exact LeO.none _)
   | (with_reducible refine LeO.ite ?_ ?_)
   | (with_reducible refine LeO.bind ?_ (fun _ => ?_))
   | exact ih0 _ _ _
   | exact ih1 _ _ _ _
   | exact ih2 _ _ _ _ _
   | exact ih3 _ _ _ _ _
   | exact ih4 _ _ _ _
   | exact spec_FolderText.mono _ _
   | exact spec_ReadHex.mono _ _
   | exact LeO.none _
   | refine LeO.ite ?_ ?_
   | refine LeO.bind ?_ (fun _ => ?_)
def spec_ReadFolder.T12 : Bool × List (List Nat × List Nat) := (true, [([], []), ([], []), ([], []), ([], []), ([1, 2, 3], [1, 2, 3]), ([], []), ([], []), ([6], [6]), ([], []), ([5, 7, 8], [5, 7, 8]), ([9], [9]), ([4, 10], [4, 10]), ([11], [11]), ([0, 12, 10], [0, 12]), ([13, 13, 0, 1, 2, 3, 4, 5, 6, 7, 8, 9, 10, 11, 12, 13], [0, 13])])
def spec_ReadFolder.B12 : List Nat := [0, 0, 0, 0, 14, 0, 0, 64, 0, 480, 992, 2046, 4094, 8191, 16383]
theorem spec_ReadFolder.tab12 : rtab .any (opsOf Tryz.f61 12) = spec_ReadFolder.T12 := by kernel_rfl
theorem spec_ReadFolder.bits12 : waitsOk spec_ReadFolder.T12.2 spec_ReadFolder.B12 = true := by kernel_rfl
set_option maxHeartbeats 8000000 in
set_option maxRecDepth 100000 in
theorem spec_ReadFolder.calls (k : Nat) (a0 : ByteArray) (r1 : List (S75)) (r2 : Bool) (w : World) (h : spec_ReadFolder.f k a0 = some (r1, r2)) :
  Calls Tryz.prog 61 #[.string a0] w fun e w' => ∃ v0_ : Value, e = .returned (.tuple #[v0_, .bool r2]) ∧ Kd.R k75 75 w' w.heap.size (fun _ => True) v0_ r1 ∧ Below w.heap.size w w' := by
 have hu75 := Tryz.underlying75
 have HB := Aside0.mk (Below.refl w.heap.size w)
 have H : (spec_ReadFolder.l0 k a0 (([] : List (S75))) 1) = some (r1, r2) := h
 clear h
 obtain ⟨y130, hy130⟩ : ∃ y_ : List (S75), y_ = (([] : List (S75))) := ⟨_, rfl⟩
 replace H : (spec_ReadFolder.l0 k a0 y130 1) = some (r1, r2) := by first | (rw [hy130]; with_reducible exact H) | (have H2_ := (Option.bind_some _ _).symm.trans H; rw [hy130]; with_reducible exact H2_) | (have H2_ := (Option.bind_some _ _).symm.trans H; with_reducible exact H2_) | with_reducible exact H | (rw [hy130]; exact H) | exact H
 have Ny130 := Aside0.mk hy130
 clear hy130
 have H' := Aside0.mk H
 clear H
 go_enter Tryz.func61, Tryz.ntmps61
 go_wp2_with (first | ((with_reducible refine gate_dst (N := 8) rfl ?_); refine Kd.R_lit k75 _ 75 ?hg (N := 8) ?hd (xs := ([] : List (S75))) (inner := []) (ok := fun _ => True) (okp := fun _ => True) ?hr ?hp (fun _ hk => hk) trivial (Below.refl _ _) (Nat.le_refl _) (by simp) ?_; (case hd => rfl); (case hg => rfl); (case hr => first | (go_simp; done) | (go_simp; rfl)); (case hp => exact (Reps.none _ _)); intro v131 w2 ho3 hb hg_ hnew_; clear hg_ hnew_; (first | rw [← Ny130.out] at ho3 | (simp only [Int.reduceToNat] at ho3; rw [← Ny130.out] at ho3)); have HO132 := Aside0.mk (Kd.R_lower ho3 (below_size hb_)); replace HB := Aside0.mk (below_step hb_ hb); clear hb ho3))
 go_loopg [4, 5] k (fun kq v4 v5 w' => ∃ (x4_1 : List (S75)) (x5_1 : Int), v5 = .int .i64 x5_1 ∧ Aside0 (spec_ReadFolder.l0 kq a0 x4_1 x5_1 = some (r1, r2)) ∧ Aside0 (kq ≤ k) ∧ Aside0 (Kd.R k75 75 w' w.heap.size (fun _ => True) v4 x4_1) ∧ Aside0 (Below w.heap.size w w'))
 case atStart => exact ⟨(y130), (1), (by first | rfl | (simp; done) | (simp [*]; done)), H', ⟨Nat.le_refl _⟩, ⟨by (with_reducible repeat (first | apply Kd.R_alloc | apply Kd.R_drewN | apply Kd.R_drew)); exact HO132.out⟩, ⟨hb_⟩⟩
 case round =>
  clear H'
  try clear p2
  obtain ⟨x4_1, x5_1, rfl, HA, HK1, HO_4, HB⟩ := hrel
  cases gk with
  | zero => exact absurd HA.out (by simp [spec_ReadFolder.l0])
  | succ k1 =>
   have H := HA.out
   clear HA
   simp only [spec_ReadFolder.l0] at H
   by_cases c4 : x5_1 < (a0.size : Int)
   ·rw [if_pos c4] at H
    have c4b0 : decide (x5_1 < (a0.size : Int)) = true := decide_eq_true c4
    clear c4
    have HC5 := Aside0.mk H
    clear H
    go_upto_block 2 with (fail)
    go_cut [6] (fun v6 wc => ∃ (kq : Nat) (x6_4 : Int), v6 = .int .i64 x6_4 ∧ Aside0 (spec_ReadFolder.j2 kq a0 x4_1 x5_1 x6_4 = some (r1, r2)) ∧ Aside0 (kq ≤ k1) ∧ Aside0 (Kd.R k75 75 wc w.heap.size (fun _ => True) u4 x4_1) ∧ Aside0 (Below w.heap.size w wc))
    case first =>
     have H := HC5.out
     clear HC5
     have H' := Aside0.mk H
     clear H
     go_wp2
     go_loopg [6] k1 (fun kq v6 w' => ∃ (x6_2 : Int), v6 = .int .i64 x6_2 ∧ Aside0 (spec_ReadFolder.l1 kq a0 x4_1 x5_1 x6_2 = some (r1, r2)) ∧ Aside0 (kq ≤ k1) ∧ Aside0 (Kd.R k75 75 w' w.heap.size (fun _ => True) u4 x4_1) ∧ Aside0 (Below w.heap.size w w'))
     case atStart => exact ⟨(x5_1), (by first | rfl | (simp; done) | (simp [*]; done)), H', ⟨Nat.le_refl _⟩, ⟨by (with_reducible repeat (first | apply Kd.R_alloc | apply Kd.R_drewN | apply Kd.R_drew)); exact HO_4.out⟩, ⟨hb_⟩⟩
     case round =>
      clear H'
      try clear p2
      try clear c4
      try clear c4b0
      try clear p2
      obtain ⟨x6_2, rfl, HA, HK2, HO_4, HB⟩ := hrel
      cases gk with
      | zero => exact absurd HA.out (by simp [spec_ReadFolder.l1])
      | succ k2 =>
       have H := HA.out
       clear HA
       simp only [spec_ReadFolder.l1] at H
       by_cases c6 : x6_2 < (a0.size : Int)
       ·rw [if_pos c6] at H
        have c6b0 : decide (x6_2 < (a0.size : Int)) = true := decide_eq_true c6
        clear c6
        (first | rw [c6b0] | (simp only [i64_w, i32_w]; rw [c6b0]) | skip)
        by_cases c7 : 0 ≤ x6_2
        ·rw [if_pos c7] at H
         have c7b0 : decide (0 ≤ x6_2) = true := decide_eq_true c7
         clear c7
         by_cases c9 : (bt a0 x6_2) = 61
         ·rw [if_pos c9] at H
          have c9b0 : ((bt a0 x6_2) == 61) = true := beq_iff_eq.mpr c9
          have c9b1 : ((bt a0 x6_2) != 61) = false := bne_eq_false_iff_eq.mpr c9
          clear c9
          have H' := Aside0.mk H
          clear H
          have p8 : 0 ≤ (x6_2 : Int) := of_decide_eq_true ma_
          have q8 : x6_2 < (a0.size : Int) := of_decide_eq_true ma_
          have hx8 := bt_at a0 x6_2
          replace p8 := eq_true p8
          replace q8 := eq_true q8
          go_wp2
          go_meet
          case rel => exact ⟨_, (x6_2), (by first | rfl | (simp; done) | (simp [*]; done)), H', ⟨by have := HK1.out; have := HK2.out; first | omega | exact Nat.le_refl _⟩, ⟨by (with_reducible repeat (first | apply Kd.R_alloc | apply Kd.R_drewN | apply Kd.R_drew)); exact HO_4.out⟩, ⟨hb_⟩⟩
         ·rw [if_neg c9] at H
          have c9b0 : ((bt a0 x6_2) == 61) = false := beq_eq_false_iff_ne.mpr c9
          have c9b1 : ((bt a0 x6_2) != 61) = true := bne_iff_ne.mpr c9
          have H' := Aside0.mk H
          clear H
          have p8 : 0 ≤ (x6_2 : Int) := of_decide_eq_true ma_
          have q8 : x6_2 < (a0.size : Int) := of_decide_eq_true ma_
          have hx8 := bt_at a0 x6_2
          replace p8 := eq_true p8
          replace q8 := eq_true q8
          go_wp2
          go_roundg k2
          case measure => have := HK1.out; have := HK2.out; omega
          case rel => exact ⟨(wrap64 (x6_2 + 1)), (by first | rfl | (simp; done) | (simp [*]; done)), H', ⟨by have := HK1.out; have := HK2.out; omega⟩, ⟨by (with_reducible repeat (first | apply Kd.R_alloc | apply Kd.R_drewN | apply Kd.R_drew)); exact HO_4.out⟩, ⟨hb_⟩⟩
        ·rw [if_neg c7] at H
         exact absurd H (by simp)
       ·rw [if_neg c6] at H
        have c6b0 : decide (x6_2 < (a0.size : Int)) = false := decide_eq_false c6
        clear c6
        (first | rw [c6b0] | (simp only [i64_w, i32_w]; rw [c6b0]) | skip)
        have H' := Aside0.mk H
        clear H
        go_wp2
        go_meet
        case rel => exact ⟨_, (x6_2), (by first | rfl | (simp; done) | (simp [*]; done)), H', ⟨by have := HK1.out; have := HK2.out; first | omega | exact Nat.le_refl _⟩, ⟨by (with_reducible repeat (first | apply Kd.R_alloc | apply Kd.R_drewN | apply Kd.R_drew)); exact HO_4.out⟩, ⟨hb_⟩⟩
    case rest =>
     clear HC5
     try clear p2
     try clear c4
     try clear c4b0
     try clear c6
     try clear c6b0
     try clear p6
     try clear c7
     try clear c7b0
     try clear p8
     try clear q8
     try clear hx8
     try clear c9
     try clear c9b0
     try clear c9b1
     try clear p2
     try clear p8
     try clear q8
     obtain ⟨kq, x6_4, rfl, HA, HJ4, HO_4, HB⟩ := hcut
     cases kq with
     | zero => exact absurd HA.out (by simp [spec_ReadFolder.j2])
     | succ kj4 =>
      have H := HA.out
      clear HA
      simp only [spec_ReadFolder.j2] at H
      have HC10 := Aside0.mk H
      clear H
      go_upto_block 4 with (fail)
      go_cut [7] (fun v7 wc => ∃ (kq : Nat) (x7_9 : Int), v7 = .int .i64 x7_9 ∧ Aside0 (spec_ReadFolder.j4 kq a0 x4_1 x5_1 x6_4 x7_9 = some (r1, r2)) ∧ Aside0 (kq ≤ kj4) ∧ Aside0 (Kd.R k75 75 wc w.heap.size (fun _ => True) u4 x4_1) ∧ Aside0 (Below w.heap.size w wc))
      case first =>
       have H := HC10.out
       clear HC10
       have H' := Aside0.mk H
       clear H
       go_wp2
       go_loopg [7] kj4 (fun kq v7 w' => ∃ (x7_3 : Int), v7 = .int .i64 x7_3 ∧ Aside0 (spec_ReadFolder.l2 kq a0 x4_1 x5_1 x6_4 x7_3 = some (r1, r2)) ∧ Aside0 (kq ≤ kj4) ∧ Aside0 (Kd.R k75 75 w' w.heap.size (fun _ => True) u4 x4_1) ∧ Aside0 (Below w.heap.size w w'))
       case atStart => exact ⟨(x6_4), (by first | rfl | (simp; done) | (simp [*]; done)), H', ⟨Nat.le_refl _⟩, ⟨by (with_reducible repeat (first | apply Kd.R_alloc | apply Kd.R_drewN | apply Kd.R_drew)); exact HO_4.out⟩, ⟨hb_⟩⟩
       case round =>
        clear H'
        try clear p2
        try clear c4
        try clear c4b0
        try clear c6
        try clear c6b0
        try clear p6
        try clear c7
        try clear c7b0
        try clear p8
        try clear q8
        try clear hx8
        try clear c9
        try clear c9b0
        try clear c9b1
        try clear p2
        try clear p6
        try clear p8
        try clear q8
        obtain ⟨x7_3, rfl, HA, HK3, HO_4, HB⟩ := hrel
        cases gk with
        | zero => exact absurd HA.out (by simp [spec_ReadFolder.l2])
        | succ k3 =>
         have H := HA.out
         clear HA
         simp only [spec_ReadFolder.l2] at H
         by_cases c11 : x7_3 < (a0.size : Int)
         ·rw [if_pos c11] at H
          have c11b0 : decide (x7_3 < (a0.size : Int)) = true := decide_eq_true c11
          clear c11
          (first | rw [c11b0] | (simp only [i64_w, i32_w]; rw [c11b0]) | skip)
          by_cases c12 : 0 ≤ x7_3
          ·rw [if_pos c12] at H
           have c12b0 : decide (0 ≤ x7_3) = true := decide_eq_true c12
           clear c12
           by_cases c14 : (bt a0 x7_3) = 59
           ·rw [if_pos c14] at H
            have c14b0 : ((bt a0 x7_3) == 59) = true := beq_iff_eq.mpr c14
            have c14b1 : ((bt a0 x7_3) != 59) = false := bne_eq_false_iff_eq.mpr c14
            clear c14
            have H' := Aside0.mk H
            clear H
            have p13 : 0 ≤ (x7_3 : Int) := of_decide_eq_true ma_
            have q13 : x7_3 < (a0.size : Int) := of_decide_eq_true ma_
            have hx13 := bt_at a0 x7_3
            replace p13 := eq_true p13
            replace q13 := eq_true q13
            go_wp2
            go_meet
            case rel => exact ⟨_, (x7_3), (by first | rfl | (simp; done) | (simp [*]; done)), H', ⟨by have := HK1.out; have := HJ4.out; have := HK3.out; first | omega | exact Nat.le_refl _⟩, ⟨by (with_reducible repeat (first | apply Kd.R_alloc | apply Kd.R_drewN | apply Kd.R_drew)); exact HO_4.out⟩, ⟨hb_⟩⟩
           ·rw [if_neg c14] at H
            have c14b0 : ((bt a0 x7_3) == 59) = false := beq_eq_false_iff_ne.mpr c14
            have c14b1 : ((bt a0 x7_3) != 59) = true := bne_iff_ne.mpr c14
            have H' := Aside0.mk H
            clear H
            have p13 : 0 ≤ (x7_3 : Int) := of_decide_eq_true ma_
            have q13 : x7_3 < (a0.size : Int) := of_decide_eq_true ma_
            have hx13 := bt_at a0 x7_3
            replace p13 := eq_true p13
            replace q13 := eq_true q13
            go_wp2
            go_roundg k3
            case measure => have := HK1.out; have := HJ4.out; have := HK3.out; omega
            case rel => exact ⟨(wrap64 (x7_3 + 1)), (by first | rfl | (simp; done) | (simp [*]; done)), H', ⟨by have := HK1.out; have := HJ4.out; have := HK3.out; omega⟩, ⟨by (with_reducible repeat (first | apply Kd.R_alloc | apply Kd.R_drewN | apply Kd.R_drew)); exact HO_4.out⟩, ⟨hb_⟩⟩
          ·rw [if_neg c12] at H
           exact absurd H (by simp)
         ·rw [if_neg c11] at H
          have c11b0 : decide (x7_3 < (a0.size : Int)) = false := decide_eq_false c11
          clear c11
          (first | rw [c11b0] | (simp only [i64_w, i32_w]; rw [c11b0]) | skip)
          have H' := Aside0.mk H
          clear H
          go_wp2
          go_meet
          case rel => exact ⟨_, (x7_3), (by first | rfl | (simp; done) | (simp [*]; done)), H', ⟨by have := HK1.out; have := HJ4.out; have := HK3.out; first | omega | exact Nat.le_refl _⟩, ⟨by (with_reducible repeat (first | apply Kd.R_alloc | apply Kd.R_drewN | apply Kd.R_drew)); exact HO_4.out⟩, ⟨hb_⟩⟩
      case rest =>
       clear HC10
       try clear c1
       try clear p1
       try clear q1
       try clear hx1
       try clear p2
       try clear c4
       try clear c4b0
       try clear c6
       try clear c6b0
       try clear p6
       try clear c7
       try clear c7b0
       try clear p8
       try clear q8
       try clear hx8
       try clear c9
       try clear c9b0
       try clear c9b1
       try clear c11
       try clear c11b0
       try clear c12
       try clear c12b0
       try clear p13
       try clear q13
       try clear hx13
       try clear c14
       try clear c14b0
       try clear c14b1
       try clear p13
       try clear p2
       try clear p6
       try clear p8
       try clear q13
       try clear q8
       obtain ⟨kq, x7_9, rfl, HA, HJ9, HO_4, HB⟩ := hcut
       cases kq with
       | zero => exact absurd HA.out (by simp [spec_ReadFolder.j4])
       | succ kj9 =>
        have H := HA.out
        clear HA
        simp only [spec_ReadFolder.j4] at H
        by_cases c15 : x7_9 = (a0.size : Int)
        ·rw [if_pos c15] at H
         have c15b0 : (x7_9 == (a0.size : Int)) = true := beq_iff_eq.mpr c15
         have c15b1 : (x7_9 != (a0.size : Int)) = false := bne_eq_false_iff_eq.mpr c15
         clear c15
         obtain ⟨y133, hy133⟩ : ∃ y_ : List (S75), y_ = (([] : List (S75))) := ⟨_, rfl⟩
         replace H : (some (y133, false)) = some (r1, r2) := by first | (rw [hy133]; with_reducible exact H) | (have H2_ := (Option.bind_some _ _).symm.trans H; rw [hy133]; with_reducible exact H2_) | (have H2_ := (Option.bind_some _ _).symm.trans H; with_reducible exact H2_) | with_reducible exact H | (rw [hy133]; exact H) | exact H
         have Ny133 := Aside0.mk hy133
         clear hy133
         simp only [Option.some.injEq, Prod.mk.injEq] at H
         obtain ⟨rfl, rfl⟩ := H
         go_wp2_with (first | ((with_reducible refine gate_dst (N := 43) rfl ?_); refine Kd.R_lit k75 _ 75 ?hg (N := 43) ?hd (xs := ([] : List (S75))) (inner := []) (ok := fun _ => True) (okp := fun _ => True) ?hr ?hp (fun _ hk => hk) trivial (Below.refl _ _) (Nat.le_refl _) (by simp) ?_; (case hd => rfl); (case hg => rfl); (case hr => first | (go_simp; done) | (go_simp; rfl)); (case hp => exact (Reps.none _ _)); intro v134 w16 ho17 hb hg_ hnew_; clear hg_ hnew_; (first | rw [← Ny133.out] at ho17 | (simp only [Int.reduceToNat] at ho17; rw [← Ny133.out] at ho17)); have HO135 := Aside0.mk (Kd.R_lower (Kd.R_new' ho17 (Kd.R_lt (kR_ HO_4.out))) (below_size hb_)); replace HO_4 := Aside0.mk (Kd.R_elder' (kR_ HO_4.out) (Kd.R_base ho17) hb); replace HB := Aside0.mk (below_step hb_ hb); clear hb ho17))
         go_ret2
         exact ⟨_, er_, by (with_reducible repeat (first | apply Kd.R_alloc | apply Kd.R_drewN | apply Kd.R_drew)); exact Kd.R_mono HO135.out (fun _ hk => trivial), hb_⟩
        ·rw [if_neg c15] at H
         have c15b0 : (x7_9 == (a0.size : Int)) = false := beq_eq_false_iff_ne.mpr c15
         have c15b1 : (x7_9 != (a0.size : Int)) = true := bne_iff_ne.mpr c15
         by_cases c18 : 0 ≤ x5_1
         ·rw [if_pos c18] at H
          have c18b0 := eq_true c18
          have c18b1 : decide (0 ≤ x5_1) = true := decide_eq_true c18
          clear c18
          by_cases c19 : x5_1 ≤ x6_4
          ·rw [if_pos c19] at H
           have c19b0 := eq_true c19
           have c19b1 : decide (x5_1 ≤ x6_4) = true := decide_eq_true c19
           clear c19
           by_cases c20 : x6_4 ≤ (a0.size : Int)
           ·rw [if_pos c20] at H
            have c20b0 := eq_true c20
            have c20b1 : decide (x6_4 ≤ (a0.size : Int)) = true := decide_eq_true c20
            clear c20
            obtain ⟨ji21, hji21⟩ : ∃ j_ : Int, (wrap64 (x6_4 + 1)) = j_ := ⟨_, rfl⟩
            replace H : (if 0 ≤ (ji21) then (if (ji21) ≤ x7_9 then (if x7_9 ≤ (a0.size : Int) then ((spec_ReadHex.f kj9 (a0.extract ((ji21) : Int).toNat (x7_9 : Int).toNat)).bind fun t136 => (if x4_1.length < 5864062014805 then (spec_ReadFolder.l0 kj9 a0 (x4_1 ++ [(⟨a0.extract (x5_1 : Int).toNat (x6_4 : Int).toNat, t136⟩ : S75)]) (wrap64 (x7_9 + 1))) else (none))) else (none)) else (none)) else (none)) = some (r1, r2) := by first | (rw [hji21] at H; exact H) | (simp only [hji21] at H ⊢; exact H)
            have hji21w : (IntKind.i64.wrap (x6_4 + 1)) = ji21 := (i64_w _).trans hji21
            by_cases c22 : 0 ≤ (ji21)
            ·rw [if_pos c22] at H
             have c22b0 := eq_true c22
             have c22b1 : decide (0 ≤ (ji21)) = true := decide_eq_true c22
             clear c22
             by_cases c23 : (ji21) ≤ x7_9
             ·rw [if_pos c23] at H
              have c23b0 := eq_true c23
              have c23b1 : decide ((ji21) ≤ x7_9) = true := decide_eq_true c23
              clear c23
              by_cases c24 : x7_9 ≤ (a0.size : Int)
              ·rw [if_pos c24] at H
               have c24b0 := eq_true c24
               have c24b1 : decide (x7_9 ≤ (a0.size : Int)) = true := decide_eq_true c24
               clear c24
               replace H := Option.bind_eq_some_iff.mp H
               obtain ⟨t136, A250, H⟩ := H
               replace H : (if x4_1.length < 5864062014805 then (spec_ReadFolder.l0 kj9 a0 (x4_1 ++ [(⟨a0.extract (x5_1 : Int).toNat (x6_4 : Int).toNat, t136⟩ : S75)]) (wrap64 (x7_9 + 1))) else (none)) = some (r1, r2) := H
               have A25 := Aside0.mk A250
               clear A250
               by_cases c26 : x4_1.length < 5864062014805
               ·rw [if_pos c26] at H
                have LMc26 := Aside0.mk c26
                clear c26
                obtain ⟨y137, hy137⟩ : ∃ y_ : List (S75), y_ = (x4_1 ++ [(⟨a0.extract (x5_1 : Int).toNat (x6_4 : Int).toNat, t136⟩ : S75)]) := ⟨_, rfl⟩
                replace H : (spec_ReadFolder.l0 kj9 a0 y137 (wrap64 (x7_9 + 1))) = some (r1, r2) := by first | (rw [hy137]; with_reducible exact H) | (have H2_ := (Option.bind_some _ _).symm.trans H; rw [hy137]; with_reducible exact H2_) | (have H2_ := (Option.bind_some _ _).symm.trans H; with_reducible exact H2_) | with_reducible exact H | (rw [hy137]; exact H) | exact H
                have Ny137 := Aside0.mk hy137
                clear hy137
                have H' := Aside0.mk H
                clear H
                try go_wp2
                have n0_ := Aside0.mk (Kd.R_drew HO_4.out)
                have n1_ := Aside0.mk (below_drew1 HB.out)
                clear HO_4
                clear HB
                have HO_4 := n0_
                have HB := n1_
                clear n0_ n1_
                refine start_ (n := 15) (S := fun w' => True) (ds := []) (tf_ 0 15) (by kernel_rfl) rfl rfl trivial (fun hHeld => ?_); refine with_tabW spec_ReadFolder.tab12 spec_ReadFolder.bits12 (fun HT_ HW_ => ?_)
                generalize wc.drew = w27 at HO_4 HB hHeld ⊢
                refine pa_ (i := 0) (N := some 44) (tf_ 1 14) ?_
                refine pa_ (i := 1) (N := some 45) (tf_ 2 13) ?_
                refine pa_ (i := 2) (N := some 46) (tf_ 3 12) ?_
                refine pa_ (i := 3) (N := some 47) (tf_ 4 11) ?_
                refine pa_ (i := 4) (N := some 48) (tf_ 5 10) ?_
                refine pa_ (i := 5) (N := some 49) (tf_ 6 9) ?_
                refine pa_ (i := 6) (N := some 50) (tf_ 7 8) ?_
                refine pa_ (i := 7) (N := some 51) (tf_ 8 7) ?_
                refine pa_ (i := 8) (N := some 52) (tf_ 9 6) ?_
                refine pa_ (i := 9) (N := some 53) (tf_ 10 5) ?_
                refine one_ (i := 10) (N := some 54) (tf_ 11 4) rfl rfl (one_of HT_.out (by kernel_rfl)) (by decide) (fun K hK => ?_)
                refine goes_ Tryz.func79 (by kernel_rfl) rfl #[.string (a0.extract ((ji21) : Int).toNat (x7_9 : Int).toNat)] (by rfl) rfl rfl (by (try simp only [List.map_toArray, List.map_cons, List.map_nil]); first | done | (simp only [hji21]; rfl) | rfl | (simp only [List.length_drop, List.length_take]; rfl)) ?_
                with_reducible refine (spec_ReadHex.calls kj9 (a0.extract ((ji21) : Int).toNat (x7_9 : Int).toNat) t136 _ A25.out).mono ?_
                rintro e w' ⟨rfl, ⟨nd, rfl⟩⟩
                refine ⟨_, rfl, ?_⟩
                refine hK.out _ _ trivial (fun hHeld => ?_)
                clear hK K
                refine norm_ (a' := ?_) ?_ ?_
                rotate_left
                ·show Act.put _ (some 54) _ = _
                 simp only [Act.put, List.setIfInBounds_toArray, List.set_cons_zero, List.set_cons_succ, i64_w, i32_w]
                 rfl
                refine pa_ (i := 11) (N := some 55) (tf_ 12 3) ?_
                refine one_ (i := 12) (N := some 56) (tf_ 13 2) rfl rfl (one_of HT_.out (by kernel_rfl)) (by decide) (fun K hK => ?_)
                refine value_ (w1 := ?_) (v := ?_) (by rfl) rfl ?_ ?_
                rotate_left 2
                ·go_simp
                 constructor
                 ·rfl
                 ·rfl
                refine hK.out _ _ trivial (fun hHeld => ?_)
                clear hK K
                refine norm_ (a' := ?_) ?_ ?_
                rotate_left
                ·show Act.put _ (some 56) _ = _
                 simp only [Act.put, List.setIfInBounds_toArray, List.set_cons_zero, List.set_cons_succ, i64_w, i32_w]
                 rfl
                refine one_ (i := 13) (N := some 57) (tf_ 14 1) rfl rfl (one_of HT_.out (by kernel_rfl)) (by decide) (fun K hK => ?_)
                refine Kd.R_append_step k75 (w0 := w) w.heap.size (by rfl) (.tmp 44) (.tmp 56) 55 75 (.agg #[(.string ⟨#[]⟩), (.int .i64 0)]) 24 rfl Tryz.underlying55 info75 rfl (by decide) (by omega) u4 x4_1 (⟨a0.extract (x5_1 : Int).toNat (x6_4 : Int).toNat, t136⟩ : S75) [.string (a0.extract (x5_1 : Int).toNat (x6_4 : Int).toNat), .int .i64 t136] (fun _ => True) (fun _ => False) rfl rfl ?aP (fun _ hk => hk.elim) ?aF ?aO ?aB ?aS ?aL ?_
                (case aP => exact k75_mkM _ _ _ (⟨a0.extract (x5_1 : Int).toNat (x6_4 : Int).toNat, t136⟩ : S75))
                (case aB => exact hb_)
                (case aF => exact (fun _ _ => trivial))
                (case aO => exact (kR_ HO_4.out))
                (case aS => exact (below_size hb_))
                (case aL => have := LMc26.out; omega)
                intro v138 w28 ho hb hg hat
                rw [← Ny137.out] at ho
                have n0_ := Aside0.mk (hb)
                have n1_ := Aside0.mk (ho)
                clear HB
                clear HO_4
                have HB := n0_
                have HO139 := n1_
                clear n0_ n1_
                clear ho hb hg hat
                refine hK.out _ _ trivial (fun hHeld => ?_)
                clear hK K
                refine norm_ (a' := ?_) ?_ ?_
                rotate_left
                ·show Act.put _ (some 57) _ = _
                 simp only [Act.put, List.setIfInBounds_toArray, List.set_cons_zero, List.set_cons_succ, i64_w, i32_w]
                 rfl
                refine pa_ (i := 14) (N := some 4) (tf_ 15 0) ?_
                refine done_ (done_of HT_.out (by kernel_rfl)) ?_
                try go_wp2
                go_roundg kj9
                case measure => have := HK1.out; have := HJ4.out; have := HJ9.out; omega
                case rel => exact ⟨(y137), (wrap64 (x7_9 + 1)), (by first | rfl | (simp; done) | (simp [*]; done)), H', ⟨by have := HK1.out; have := HJ4.out; have := HJ9.out; omega⟩, ⟨by (with_reducible repeat (first | apply Kd.R_alloc | apply Kd.R_drewN | apply Kd.R_drew)); exact HO139.out⟩, ⟨hb_⟩⟩
               ·rw [if_neg c26] at H
                exact absurd H (by simp)
              ·rw [if_neg c24] at H
               exact absurd H (by simp)
             ·rw [if_neg c23] at H
              exact absurd H (by simp)
            ·rw [if_neg c22] at H
             exact absurd H (by simp)
           ·rw [if_neg c20] at H
            exact absurd H (by simp)
          ·rw [if_neg c19] at H
           exact absurd H (by simp)
         ·rw [if_neg c18] at H
          exact absurd H (by simp)
   ·rw [if_neg c4] at H
    have c4b0 : decide (x5_1 < (a0.size : Int)) = false := decide_eq_false c4
    clear c4
    replace H := Option.bind_eq_some_iff.mp H
    obtain ⟨t140, A290, H⟩ := H
    replace H : (if t140.toList = a0.toList then (if a0.toList = ([] : List UInt8) then (some ((([] : List (S75))), false)) else (some (x4_1, true))) else (some ((([] : List (S75))), false))) = some (r1, r2) := H
    have A29 := Aside0.mk A290
    clear A290
    by_cases c30 : t140.toList = a0.toList
    ·rw [if_pos c30] at H
     have c30b0 : (t140.toList == a0.toList) = true := beq_iff_eq.mpr c30
     have c30b1 : (t140.toList != a0.toList) = false := bne_eq_false_iff_eq.mpr c30
     clear c30
     by_cases c31 : a0.toList = ([] : List UInt8)
     ·rw [if_pos c31] at H
      have c31b0 : (a0.toList == ([] : List UInt8)) = true := beq_iff_eq.mpr c31
      have c31b1 : (a0.toList != ([] : List UInt8)) = false := bne_eq_false_iff_eq.mpr c31
      clear c31
      obtain ⟨y141, hy141⟩ : ∃ y_ : List (S75), y_ = (([] : List (S75))) := ⟨_, rfl⟩
      replace H : (some (y141, false)) = some (r1, r2) := by first | (rw [hy141]; with_reducible exact H) | (have H2_ := (Option.bind_some _ _).symm.trans H; rw [hy141]; with_reducible exact H2_) | (have H2_ := (Option.bind_some _ _).symm.trans H; with_reducible exact H2_) | with_reducible exact H | (rw [hy141]; exact H) | exact H
      have Ny141 := Aside0.mk hy141
      clear hy141
      simp only [Option.some.injEq, Prod.mk.injEq] at H
      obtain ⟨rfl, rfl⟩ := H
      obtain ⟨Ao32, co32, eo32⟩ := Kd.R_slice HO_4.out
      subst eo32
      go_wp2_with (first | ((with_reducible refine gate_callee (f := 80) rfl ?_); refine goesL_ (some 61) rfl rfl Tryz.func80 (by kernel_rfl) rfl #[.slice Ao32 x4_1.length co32] rfl sl_ ?_; (with_reducible refine (spec_FolderText.calls k1 _ _ x4_1 t140 _ ?side1 ?side2 A29.out).mono ?_); (case side1 => exact kC_ ((Kd.R_reads' HO_4.out).2.2)); (case side2 => exact (Kd.R_reads' HO_4.out).2.1); rintro e w33 ⟨rfl, hb⟩; refine ⟨_, rfl, ?_⟩; replace HO_4 := Aside0.mk (Kd.R_below (kR_ HO_4.out) hb); replace HB := Aside0.mk (below_step hb_ hb); (try clear hb); (try clear hk)) | ((with_reducible refine gate_dst (N := 68) rfl ?_); refine Kd.R_lit k75 _ 75 ?hg (N := 68) ?hd (xs := ([] : List (S75))) (inner := []) (ok := fun _ => True) (okp := fun _ => True) ?hr ?hp (fun _ hk => hk) trivial (Below.refl _ _) (Nat.le_refl _) (by simp) ?_; (case hd => rfl); (case hg => rfl); (case hr => first | (go_simp; done) | (go_simp; rfl)); (case hp => exact (Reps.none _ _)); intro v142 w34 ho35 hb hg_ hnew_; clear hg_ hnew_; (first | rw [← Ny141.out] at ho35 | (simp only [Int.reduceToNat] at ho35; rw [← Ny141.out] at ho35)); have HO143 := Aside0.mk (Kd.R_lower (Kd.R_new' ho35 (Kd.R_lt (kR_ HO_4.out))) (below_size hb_)); replace HO_4 := Aside0.mk (Kd.R_elder' (kR_ HO_4.out) (Kd.R_base ho35) hb); replace HB := Aside0.mk (below_step hb_ hb); clear hb ho35))
      go_ret2
      exact ⟨_, er_, by (with_reducible repeat (first | apply Kd.R_alloc | apply Kd.R_drewN | apply Kd.R_drew)); exact Kd.R_mono HO143.out (fun _ hk => trivial), hb_⟩
     ·rw [if_neg c31] at H
      have c31b0 : (a0.toList == ([] : List UInt8)) = false := beq_eq_false_iff_ne.mpr c31
      have c31b1 : (a0.toList != ([] : List UInt8)) = true := bne_iff_ne.mpr c31
      simp only [Option.some.injEq, Prod.mk.injEq] at H
      obtain ⟨rfl, rfl⟩ := H
      obtain ⟨Ao36, co36, eo36⟩ := Kd.R_slice HO_4.out
      subst eo36
      go_wp2_with (first | ((with_reducible refine gate_callee (f := 80) rfl ?_); refine goesL_ (some 61) rfl rfl Tryz.func80 (by kernel_rfl) rfl #[.slice Ao36 x4_1.length co36] rfl sl_ ?_; (with_reducible refine (spec_FolderText.calls k1 _ _ x4_1 t140 _ ?side1 ?side2 A29.out).mono ?_); (case side1 => exact kC_ ((Kd.R_reads' HO_4.out).2.2)); (case side2 => exact (Kd.R_reads' HO_4.out).2.1); rintro e w37 ⟨rfl, hb⟩; refine ⟨_, rfl, ?_⟩; replace HO_4 := Aside0.mk (Kd.R_below (kR_ HO_4.out) hb); replace HB := Aside0.mk (below_step hb_ hb); (try clear hb)))
      go_ret2
      exact ⟨_, er_, by (with_reducible repeat (first | apply Kd.R_alloc | apply Kd.R_drewN | apply Kd.R_drew)); exact HO_4.out, hb_⟩
    ·rw [if_neg c30] at H
     have c30b0 : (t140.toList == a0.toList) = false := beq_eq_false_iff_ne.mpr c30
     have c30b1 : (t140.toList != a0.toList) = true := bne_iff_ne.mpr c30
     obtain ⟨y144, hy144⟩ : ∃ y_ : List (S75), y_ = (([] : List (S75))) := ⟨_, rfl⟩
     replace H : (some (y144, false)) = some (r1, r2) := by first | (rw [hy144]; with_reducible exact H) | (have H2_ := (Option.bind_some _ _).symm.trans H; rw [hy144]; with_reducible exact H2_) | (have H2_ := (Option.bind_some _ _).symm.trans H; with_reducible exact H2_) | with_reducible exact H | (rw [hy144]; exact H) | exact H
     have Ny144 := Aside0.mk hy144
     clear hy144
     simp only [Option.some.injEq, Prod.mk.injEq] at H
     obtain ⟨rfl, rfl⟩ := H
     obtain ⟨Ao38, co38, eo38⟩ := Kd.R_slice HO_4.out
     subst eo38
     go_wp2_with (first | ((with_reducible refine gate_callee (f := 80) rfl ?_); refine goesL_ (some 61) rfl rfl Tryz.func80 (by kernel_rfl) rfl #[.slice Ao38 x4_1.length co38] rfl sl_ ?_; (with_reducible refine (spec_FolderText.calls k1 _ _ x4_1 t140 _ ?side1 ?side2 A29.out).mono ?_); (case side1 => exact kC_ ((Kd.R_reads' HO_4.out).2.2)); (case side2 => exact (Kd.R_reads' HO_4.out).2.1); rintro e w39 ⟨rfl, hb⟩; refine ⟨_, rfl, ?_⟩; replace HO_4 := Aside0.mk (Kd.R_below (kR_ HO_4.out) hb); replace HB := Aside0.mk (below_step hb_ hb); (try clear hb); (try clear hk)) | ((with_reducible refine gate_dst (N := 68) rfl ?_); refine Kd.R_lit k75 _ 75 ?hg (N := 68) ?hd (xs := ([] : List (S75))) (inner := []) (ok := fun _ => True) (okp := fun _ => True) ?hr ?hp (fun _ hk => hk) trivial (Below.refl _ _) (Nat.le_refl _) (by simp) ?_; (case hd => rfl); (case hg => rfl); (case hr => first | (go_simp; done) | (go_simp; rfl)); (case hp => exact (Reps.none _ _)); intro v145 w40 ho41 hb hg_ hnew_; clear hg_ hnew_; (first | rw [← Ny144.out] at ho41 | (simp only [Int.reduceToNat] at ho41; rw [← Ny144.out] at ho41)); have HO146 := Aside0.mk (Kd.R_lower (Kd.R_new' ho41 (Kd.R_lt (kR_ HO_4.out))) (below_size hb_)); replace HO_4 := Aside0.mk (Kd.R_elder' (kR_ HO_4.out) (Kd.R_base ho41) hb); replace HB := Aside0.mk (below_step hb_ hb); clear hb ho41))
     go_ret2
     exact ⟨_, er_, by (with_reducible repeat (first | apply Kd.R_alloc | apply Kd.R_drewN | apply Kd.R_drew)); exact Kd.R_mono HO146.out (fun _ hk => trivial), hb_⟩
end Go.Proofs.YtjgbidklkhohfaaGreatDoor.P
