-- The functions of the seat as plain Lean functions, made by the kit's print.py for all laws at once. Not trusted: Lean checks it.
import Derived.Test.YtjgbidklkhohfaaGreatDoorPx0
import Derived.Test.YtjgbidklkhohfaaGreatDoorPx1
import Derived.Test.YtjgbidklkhohfaaGreatDoorPx2
import Derived.Test.YtjgbidklkhohfaaGreatDoorPx3
namespace Go.Proofs.YtjgbidklkhohfaaGreatDoor.P
open Go.RowKit Go.Proofs.YtjgbidklkhohfaaGreatDoorW.PrintWords Go.Proofs.YtjgbidklkhohfaaGreatDoorW.PrintLast Go.Proofs.YtjgbidklkhohfaaGreatDoorW.PrintMore
attribute [local go_sem] max2_int min2_int max_two min_two max_three min_three max_four min_four   -- for this text's walks alone
set_option linter.unusedVariables false
set_option linter.unusedSimpArgs false
/-! ### spec_l9Walk: function 56 -/
mutual
def spec_l9Walk.l0 : Nat → List (S46) → Int → List ByteArray → Int → Option (Int × Bool)
 | 0, _, _, _, _ => none
 | k + 1, x0, x1, x2, x8 => if x8 < (x2.length : Int) then ((spec_l4Get.f k x0 x1).bind fun bt398 => ((spec_ReadFolder.f k bt398.1).bind fun bt400 => (spec_l9Walk.l1 k x0 x1 x2 x8 bt400.1 bt400.2 false 0))) else ((spec_l4Get.f k x0 x1).bind fun bt407 => (if bt407.2 = true then (some (x1, true)) else (some ((-1), false))))
def spec_l9Walk.l1 : Nat → List (S46) → Int → List ByteArray → Int → List (S75) → Bool → Bool → Int → Option (Int × Bool)
 | 0, _, _, _, _, _, _, _, _ => none
 | k + 1, x0, x1, x2, x8, x11, x12, x13, x14 => if x14 < (x11.length : Int) then (if x12 = true then (if 0 ≤ x14 then (if 0 ≤ x8 then (if x8 < (x2.length : Int) then (if ((rd_T75 x11 x14).f0).toList = (rdOf ByteArray.empty x2 x8).toList then (spec_l9Walk.l0 k x0 ((rd_T75 x11 x14).f1) x2 (wrap64 (x8 + 1))) else (spec_l9Walk.l1 k x0 x1 x2 x8 x11 x12 x13 (wrap64 (x14 + 1)))) else (none)) else (none)) else (none)) else (spec_l9Walk.l1 k x0 x1 x2 x8 x11 x12 x13 (wrap64 (x14 + 1)))) else (if x13 = true then (spec_l9Walk.l0 k x0 x1 x2 (wrap64 (x8 + 1))) else (some ((-1), false)))
end
def spec_l9Walk.f (k : Nat) (l0 : List (S46)) (a1 : Int) (l2 : List ByteArray) : Option (Int × Bool) := spec_l9Walk.l0 k l0 a1 l2 0
theorem spec_l9Walk.mono_l : ∀ k, (∀ y0 y1 y2 y3, LeO (spec_l9Walk.l0 k y0 y1 y2 y3) (spec_l9Walk.l0 (k + 1) y0 y1 y2 y3)) ∧ (∀ y0 y1 y2 y3 y4 y5 y6 y7, LeO (spec_l9Walk.l1 k y0 y1 y2 y3 y4 y5 y6 y7) (spec_l9Walk.l1 (k + 1) y0 y1 y2 y3 y4 y5 y6 y7))
 | 0 => ⟨fun _ _ _ _ r h => by simp [spec_l9Walk.l0] at h, fun _ _ _ _ _ _ _ _ r h => by simp [spec_l9Walk.l1] at h⟩
 | k + 1 => by
  obtain ⟨ih0, ih1⟩ := spec_l9Walk.mono_l k
  refine ⟨?_, ?_⟩
  ·intro y0 y1 y2 y3
   unfold spec_l9Walk.l0
   repeat' first
   | (with_reducible exact ih0 _ _ _ _)
   | (with_reducible exact ih1 _ _ _ _ _ _ _ _)
   | (with_reducible exact spec_ReadFolder.mono _ _)
   | (with_reducible exact spec_l4Get.mono _ _ _)
   | (with_reducible exact LeO.refl _)
   | (with_reducible exact LeO.none _)
   | (with_reducible refine LeO.ite ?_ ?_)
   | (with_reducible refine LeO.bind ?_ (fun _ => ?_))
   | exact ih0 _ _ _ _
   | exact ih1 _ _ _ _ _ _ _ _
   | exact spec_ReadFolder.mono _ _
   | exact spec_l4Get.mono _ _ _
   | exact LeO.none _
   | refine LeO.ite ?_ ?_
   | refine LeO.bind ?_ (fun _ => ?_)
  ·intro y0 y1 y2 y3 y4 y5 y6 y7
   unfold spec_l9Walk.l1
   repeat' first
   | (with_reducible exact ih0 _ _ _ _)
   | (with_reducible exact ih1 _ _ _ _ _ _ _ _)
   | (with_reducible exact spec_ReadFolder.mono _ _)
   | (with_reducible exact spec_l4Get.mono _ _ _)
   | (with_reducible exact LeO.refl _)
   | (with_reducible exact LeO.none _)
   | (with_reducible refine LeO.ite ?_ ?_)
   | (with_reducible refine LeO.bind ?_ (fun _ => ?_))
   | exact ih0 _ _ _ _
   | exact ih1 _ _ _ _ _ _ _ _
   | exact spec_ReadFolder.mono _ _
   | exact spec_l4Get.mono _ _ _
   | exact LeO.none _
   | refine LeO.ite ?_ ?_
   | refine LeO.bind ?_ (fun _ => ?_)
theorem spec_l9Walk.mono : ∀ a0 a1 a2 k, LeO (spec_l9Walk.f k a0 a1 a2) (spec_l9Walk.f (k + 1) a0 a1 a2) := by
 intro a0 a1 a2 k
 obtain ⟨ih0, ih1⟩ := spec_l9Walk.mono_l k
 unfold spec_l9Walk.f
 repeat' first
   | (with_reducible exact ih0 _ _ _ _)
   | (with_reducible exact ih1 _ _ _ _ _ _ _ _)
   | (with_reducible exact spec_ReadFolder.mono _ _)
   | (with_reducible exact spec_l4Get.mono _ _ _)
   | (with_reducible exact LeO.refl _)
   | (with_reducible exact LeO.none _)
   | (with_reducible refine LeO.ite ?_ ?_)
   | (with_reducible refine LeO.bind ?_ (fun _ => ?_))
   | exact ih0 _ _ _ _
   | exact ih1 _ _ _ _ _ _ _ _
   | exact spec_ReadFolder.mono _ _
   | exact spec_l4Get.mono _ _ _
   | exact LeO.none _
   | refine LeO.ite ?_ ?_
   | refine LeO.bind ?_ (fun _ => ?_)
set_option maxHeartbeats 8000000 in
set_option maxRecDepth 100000 in
theorem spec_l9Walk.calls (k : Nat) (A0 : Option Addr) (c0 : Nat) (l0 : List (S46)) (a1 : Int) (A2 : Option Addr) (c2 : Nat) (l2 : List ByteArray) (r1 : Int) (r2 : Bool) (w : World) (hr0 : Kd.C k46 w A0 l0.length l0) (hc0 : l0.length ≤ c0) (hr2 : Kd.C Kd.string w A2 l2.length l2) (hc2 : l2.length ≤ c2) (h : spec_l9Walk.f k l0 a1 l2 = some (r1, r2)) :
  Calls Tryz.prog 56 #[.slice A0 l0.length c0, .int .i64 a1, .slice A2 l2.length c2] w fun e w' => e = .returned (.tuple #[.int .i64 r1, .bool r2]) ∧ Below w.heap.size w w' := by
 have HR0 := Aside0.mk hr0
 have HC0 := Aside0.mk hc0
 clear hr0 hc0
 have HR2 := Aside0.mk hr2
 have HC2 := Aside0.mk hc2
 clear hr2 hc2
 have HB := Aside0.mk (Below.refl w.heap.size w)
 have H : (spec_l9Walk.l0 k l0 a1 l2 0) = some (r1, r2) := h
 clear h
 have H' := Aside0.mk H
 clear H
 go_enter Tryz.func56, Tryz.ntmps56
 go_wp2
 repeat (go_quiet (fail); try go_wp2)
 go_loopg [1, 8] k (fun kq v1 v8 w' => ∃ (x1_1 : Int) (x8_1 : Int), v1 = .int .i64 x1_1 ∧ v8 = .int .i64 x8_1 ∧ Aside0 (spec_l9Walk.l0 kq l0 x1_1 l2 x8_1 = some (r1, r2)) ∧ Aside0 (kq ≤ k) ∧ Aside0 (Below w.heap.size w w'))
 case atStart => exact ⟨(a1), (0), (by first | rfl | (simp; done) | (simp [*]; done)), (by first | rfl | (simp; done) | (simp [*]; done)), H', ⟨Nat.le_refl _⟩, ⟨hb_⟩⟩
 case round =>
  clear H'
  try clear c2
  try clear p2
  obtain ⟨x1_1, x8_1, rfl, rfl, HA, HK1, HB⟩ := hrel
  cases gk with
  | zero => exact absurd HA.out (by simp [spec_l9Walk.l0])
  | succ k1 =>
   have H := HA.out
   clear HA
   simp only [spec_l9Walk.l0] at H
   by_cases c4 : x8_1 < (l2.length : Int)
   ·rw [if_pos c4] at H
    have c4b0 : decide (x8_1 < (l2.length : Int)) = true := decide_eq_true c4
    clear c4
    replace H := Option.bind_eq_some_iff.mp H
    obtain ⟨⟨t398, t399⟩, A50, H⟩ := H
    replace H : ((spec_ReadFolder.f k1 t398).bind fun bt400 => (spec_l9Walk.l1 k1 l0 x1_1 l2 x8_1 bt400.1 bt400.2 false 0)) = some (r1, r2) := H
    have A5 := Aside0.mk A50
    clear A50
    replace H := Option.bind_eq_some_iff.mp H
    obtain ⟨⟨t400, t401⟩, A60, H⟩ := H
    replace H : (spec_l9Walk.l1 k1 l0 x1_1 l2 x8_1 t400 t401 false 0) = some (r1, r2) := H
    have A6 := Aside0.mk A60
    clear A60
    have H' := Aside0.mk H
    clear H
    go_wp2_with (first | (go_at_call 57; (with_reducible refine (spec_l4Get.calls k1 _ _ l0 x1_1 t398 t399 _ ?side1 ?side2 A5.out).mono ?_); (case side1 => exact kC_ (Kd.C_below HR0.out HB.out)); (case side2 => exact HC0.out); rintro e w' ⟨rfl, ⟨nd, rfl⟩⟩; (try first | exact ⟨rfl, _, World.drewN_drewN _ _ _⟩ | exact ⟨rfl, _, Eq.trans (World.drewN_drewN _ _ _) (congrArg (World.drewN _) (Nat.add_assoc _ _ _))⟩)) | (go_at_call 61; (with_reducible refine (spec_ReadFolder.calls k1 t398 t400 t401 _ A6.out).mono ?_); rintro e w7 ⟨v402, rfl, ho0, hb⟩; have HO403 := Aside0.mk (Kd.R_lower ho0 (below_size hb_)); replace HB := Aside0.mk (below_step hb_ hb); (try clear hb); (try clear ho0)))
    repeat (go_quiet (first | (go_at_call 57; (with_reducible refine (spec_l4Get.calls k1 _ _ l0 x1_1 t398 t399 _ ?side1 ?side2 A5.out).mono ?_); (case side1 => exact kC_ (Kd.C_below HR0.out HB.out)); (case side2 => exact HC0.out); rintro e w' ⟨rfl, ⟨nd, rfl⟩⟩; (try first | exact ⟨rfl, _, World.drewN_drewN _ _ _⟩ | exact ⟨rfl, _, Eq.trans (World.drewN_drewN _ _ _) (congrArg (World.drewN _) (Nat.add_assoc _ _ _))⟩)) | (go_at_call 61; (with_reducible refine (spec_ReadFolder.calls k1 t398 t400 t401 _ A6.out).mono ?_); rintro e w7 ⟨v402, rfl, ho0, hb⟩; have HO403 := Aside0.mk (Kd.R_lower ho0 (below_size hb_)); replace HB := Aside0.mk (below_step hb_ hb); (try clear hb); (try clear ho0))); try go_wp2_with (first | (go_at_call 57; (with_reducible refine (spec_l4Get.calls k1 _ _ l0 x1_1 t398 t399 _ ?side1 ?side2 A5.out).mono ?_); (case side1 => exact kC_ (Kd.C_below HR0.out HB.out)); (case side2 => exact HC0.out); rintro e w' ⟨rfl, ⟨nd, rfl⟩⟩; (try first | exact ⟨rfl, _, World.drewN_drewN _ _ _⟩ | exact ⟨rfl, _, Eq.trans (World.drewN_drewN _ _ _) (congrArg (World.drewN _) (Nat.add_assoc _ _ _))⟩)) | (go_at_call 61; (with_reducible refine (spec_ReadFolder.calls k1 t398 t400 t401 _ A6.out).mono ?_); rintro e w7 ⟨v402, rfl, ho0, hb⟩; have HO403 := Aside0.mk (Kd.R_lower ho0 (below_size hb_)); replace HB := Aside0.mk (below_step hb_ hb); (try clear hb); (try clear ho0))))
    go_loopg [1, 13, 14] k1 (fun kq v1 v13 v14 w' => ∃ (x1_2 : Int) (x13_2 : Bool) (x14_2 : Int), v1 = .int .i64 x1_2 ∧ v13 = .bool x13_2 ∧ v14 = .int .i64 x14_2 ∧ Aside0 (spec_l9Walk.l1 kq l0 x1_2 l2 x8_1 t400 t401 x13_2 x14_2 = some (r1, r2)) ∧ Aside0 (kq ≤ k1) ∧ Aside0 (Kd.R k75 75 w' w.heap.size (fun _ => True) v402 t400) ∧ Aside0 (Below w.heap.size w w'))
    case atStart => exact ⟨(x1_1), (false), (0), (by first | rfl | (simp; done) | (simp [*]; done)), (by first | rfl | (simp; done) | (simp [*]; done)), (by first | rfl | (simp; done) | (simp [*]; done)), H', ⟨Nat.le_refl _⟩, ⟨by (with_reducible repeat (first | apply Kd.R_alloc | apply Kd.R_drewN | apply Kd.R_drew)); exact HO403.out⟩, ⟨hb_⟩⟩
    case round =>
     clear H'
     try clear c2
     try clear p2
     try clear c4
     try clear c4b0
     try clear c5
     try clear p2
     obtain ⟨x1_2, x13_2, x14_2, rfl, rfl, rfl, HA, HK2, HO_11, HB⟩ := hrel
     cases gk with
     | zero => exact absurd HA.out (by simp [spec_l9Walk.l1])
     | succ k2 =>
      have H := HA.out
      clear HA
      simp only [spec_l9Walk.l1] at H
      by_cases c8 : x14_2 < (t400.length : Int)
      ·rw [if_pos c8] at H
       have c8b0 : decide (x14_2 < (t400.length : Int)) = true := decide_eq_true c8
       clear c8
       by_cases c9 : t401 = true
       ·subst c9
        have H1 : (if 0 ≤ x14_2 then (if 0 ≤ x8_1 then (if x8_1 < (l2.length : Int) then (if ((rd_T75 t400 x14_2).f0).toList = (rdOf ByteArray.empty l2 x8_1).toList then (spec_l9Walk.l0 k2 l0 ((rd_T75 t400 x14_2).f1) l2 (wrap64 (x8_1 + 1))) else (spec_l9Walk.l1 k2 l0 x1_2 l2 x8_1 t400 true x13_2 (wrap64 (x14_2 + 1)))) else (none)) else (none)) else (none)) = some (r1, r2) := by rw [if_pos rfl] at H; exact H
        clear H
        have H := H1
        clear H1
        by_cases c10 : 0 ≤ x14_2
        ·rw [if_pos c10] at H
         have c10b0 : decide (0 ≤ x14_2) = true := decide_eq_true c10
         clear c10
         by_cases c11 : 0 ≤ x8_1
         ·rw [if_pos c11] at H
          have c11b0 : decide (0 ≤ x8_1) = true := decide_eq_true c11
          clear c11
          by_cases c12 : x8_1 < (l2.length : Int)
          ·rw [if_pos c12] at H
           have c12b0 : decide (x8_1 < (l2.length : Int)) = true := decide_eq_true c12
           clear c12
           by_cases c13 : ((rd_T75 t400 x14_2).f0).toList = (rdOf ByteArray.empty l2 x8_1).toList
           ·rw [if_pos c13] at H
            have c13b0 : (((rd_T75 t400 x14_2).f0).toList == (rdOf ByteArray.empty l2 x8_1).toList) = true := beq_iff_eq.mpr c13
            have c13b1 : (((rd_T75 t400 x14_2).f0).toList != (rdOf ByteArray.empty l2 x8_1).toList) = false := bne_eq_false_iff_eq.mpr c13
            clear c13
            have H' := Aside0.mk H
            clear H
            obtain ⟨Ao14, co14, eo14⟩ := Kd.R_slice HO_11.out
            subst eo14
            have p404 : 0 ≤ (x14_2 : Int) := of_decide_eq_true ma_
            have q404 : x14_2 < (t400.length : Int) := of_decide_eq_true ma_
            obtain ⟨ad404, e404, hx404_0, hx404_1⟩ := at_T75 (Kd.R_reads' HO_11.out).2.2 x14_2 p404 q404
            cases e404
            replace p404 := eq_true p404
            replace q404 := eq_true q404
            have p405 : 0 ≤ (x8_1 : Int) := of_decide_eq_true ma_
            have q405 : x8_1 < (l2.length : Int) := of_decide_eq_true ma_
            obtain ⟨ad405, e405, hx405_0⟩ := Kd.at_string HR2.out x8_1 p405 q405
            cases e405
            replace hx405_0 := (HB.out.cell (World.block_lt_of_cell? w _ hx405_0)).trans hx405_0
            replace p405 := eq_true p405
            replace q405 := eq_true q405
            have p406 : 0 ≤ (x14_2 : Int) := of_decide_eq_true ma_
            have q406 : x14_2 < (t400.length : Int) := of_decide_eq_true ma_
            obtain ⟨ad406, e406, hx406_0, hx406_1⟩ := at_T75 (Kd.R_reads' HO_11.out).2.2 x14_2 p406 q406
            obtain rfl : ad404 = ad406 := (by injection e406)
            replace p406 := eq_true p406
            replace q406 := eq_true q406
            go_wp2
            repeat (go_quiet (fail); try go_wp2)
            go_roundg k2
            case measure => have := HK1.out; have := HK2.out; omega
            case rel => exact ⟨((rd_T75 t400 x14_2).f1), (wrap64 (x8_1 + 1)), (by first | rfl | (simp; done) | (simp [*]; done)), (by first | rfl | (simp; done) | (simp [*]; done)), H', ⟨by have := HK1.out; have := HK2.out; omega⟩, ⟨hb_⟩⟩
           ·rw [if_neg c13] at H
            have c13b0 : (((rd_T75 t400 x14_2).f0).toList == (rdOf ByteArray.empty l2 x8_1).toList) = false := beq_eq_false_iff_ne.mpr c13
            have c13b1 : (((rd_T75 t400 x14_2).f0).toList != (rdOf ByteArray.empty l2 x8_1).toList) = true := bne_iff_ne.mpr c13
            have H' := Aside0.mk H
            clear H
            obtain ⟨Ao15, co15, eo15⟩ := Kd.R_slice HO_11.out
            subst eo15
            have p404 : 0 ≤ (x14_2 : Int) := of_decide_eq_true ma_
            have q404 : x14_2 < (t400.length : Int) := of_decide_eq_true ma_
            obtain ⟨ad404, e404, hx404_0, hx404_1⟩ := at_T75 (Kd.R_reads' HO_11.out).2.2 x14_2 p404 q404
            cases e404
            replace p404 := eq_true p404
            replace q404 := eq_true q404
            have p405 : 0 ≤ (x8_1 : Int) := of_decide_eq_true ma_
            have q405 : x8_1 < (l2.length : Int) := of_decide_eq_true ma_
            obtain ⟨ad405, e405, hx405_0⟩ := Kd.at_string HR2.out x8_1 p405 q405
            cases e405
            replace hx405_0 := (HB.out.cell (World.block_lt_of_cell? w _ hx405_0)).trans hx405_0
            replace p405 := eq_true p405
            replace q405 := eq_true q405
            go_wp2
            repeat (go_quiet (fail); try go_wp2)
            go_roundg k2
            case measure => have := HK1.out; have := HK2.out; omega
            case rel => exact ⟨(x1_2), (x13_2), (wrap64 (x14_2 + 1)), (by first | rfl | (simp; done) | (simp [*]; done)), (by first | rfl | (simp; done) | (simp [*]; done)), (by first | rfl | (simp; done) | (simp [*]; done)), H', ⟨by have := HK1.out; have := HK2.out; omega⟩, ⟨by (with_reducible repeat (first | apply Kd.R_alloc | apply Kd.R_drewN | apply Kd.R_drew)); exact HO_11.out⟩, ⟨hb_⟩⟩
          ·rw [if_neg c12] at H
           exact absurd H (by simp)
         ·rw [if_neg c11] at H
          exact absurd H (by simp)
        ·rw [if_neg c10] at H
         exact absurd H (by simp)
       ·replace c9 := Bool.eq_false_iff.mpr c9
        subst c9
        have H1 : (spec_l9Walk.l1 k2 l0 x1_2 l2 x8_1 t400 false x13_2 (wrap64 (x14_2 + 1))) = some (r1, r2) := by rw [if_neg (show ¬ (false = true) by decide)] at H; exact H
        clear H
        have H := H1
        clear H1
        have H' := Aside0.mk H
        clear H
        obtain ⟨Ao16, co16, eo16⟩ := Kd.R_slice HO_11.out
        subst eo16
        go_wp2
        repeat (go_quiet (fail); try go_wp2)
        go_roundg k2
        case measure => have := HK1.out; have := HK2.out; omega
        case rel => exact ⟨(x1_2), (x13_2), (wrap64 (x14_2 + 1)), (by first | rfl | (simp; done) | (simp [*]; done)), (by first | rfl | (simp; done) | (simp [*]; done)), (by first | rfl | (simp; done) | (simp [*]; done)), H', ⟨by have := HK1.out; have := HK2.out; omega⟩, ⟨by (with_reducible repeat (first | apply Kd.R_alloc | apply Kd.R_drewN | apply Kd.R_drew)); exact HO_11.out⟩, ⟨hb_⟩⟩
      ·rw [if_neg c8] at H
       have c8b0 : decide (x14_2 < (t400.length : Int)) = false := decide_eq_false c8
       clear c8
       by_cases c17 : x13_2 = true
       ·subst c17
        have H1 : (spec_l9Walk.l0 k2 l0 x1_2 l2 (wrap64 (x8_1 + 1))) = some (r1, r2) := by rw [if_pos rfl] at H; exact H
        clear H
        have H := H1
        clear H1
        have H' := Aside0.mk H
        clear H
        obtain ⟨Ao18, co18, eo18⟩ := Kd.R_slice HO_11.out
        subst eo18
        go_wp2
        repeat (go_quiet (fail); try go_wp2)
        go_roundg k2
        case measure => have := HK1.out; have := HK2.out; omega
        case rel => exact ⟨(x1_2), (wrap64 (x8_1 + 1)), (by first | rfl | (simp; done) | (simp [*]; done)), (by first | rfl | (simp; done) | (simp [*]; done)), H', ⟨by have := HK1.out; have := HK2.out; omega⟩, ⟨hb_⟩⟩
       ·replace c17 := Bool.eq_false_iff.mpr c17
        subst c17
        have H1 : (some ((-1), false)) = some (r1, r2) := by rw [if_neg (show ¬ (false = true) by decide)] at H; exact H
        clear H
        have H := H1
        clear H1
        simp only [Option.some.injEq, Prod.mk.injEq] at H
        obtain ⟨rfl, rfl⟩ := H
        obtain ⟨Ao19, co19, eo19⟩ := Kd.R_slice HO_11.out
        subst eo19
        go_wp2
        repeat (go_quiet (fail); try go_wp2)
        go_ret2
        exact ⟨er_, hb_⟩
   ·rw [if_neg c4] at H
    have c4b0 : decide (x8_1 < (l2.length : Int)) = false := decide_eq_false c4
    clear c4
    replace H := Option.bind_eq_some_iff.mp H
    obtain ⟨⟨t407, t408⟩, A200, H⟩ := H
    replace H : (if t408 = true then (some (x1_1, true)) else (some ((-1), false))) = some (r1, r2) := H
    have A20 := Aside0.mk A200
    clear A200
    by_cases c21 : t408 = true
    ·subst c21
     have H1 : (some (x1_1, true)) = some (r1, r2) := by rw [if_pos rfl] at H; exact H
     clear H
     have H := H1
     clear H1
     simp only [Option.some.injEq, Prod.mk.injEq] at H
     obtain ⟨rfl, rfl⟩ := H
     go_wp2_with (first | (go_at_call 57; (with_reducible refine (spec_l4Get.calls k1 _ _ l0 x1_1 t407 true _ ?side1 ?side2 A20.out).mono ?_); (case side1 => exact kC_ (Kd.C_below HR0.out HB.out)); (case side2 => exact HC0.out); rintro e w' ⟨rfl, ⟨nd, rfl⟩⟩; (try first | exact ⟨rfl, _, World.drewN_drewN _ _ _⟩ | exact ⟨rfl, _, Eq.trans (World.drewN_drewN _ _ _) (congrArg (World.drewN _) (Nat.add_assoc _ _ _))⟩)))
     repeat (go_quiet (first | (go_at_call 57; (with_reducible refine (spec_l4Get.calls k1 _ _ l0 x1_1 t407 true _ ?side1 ?side2 A20.out).mono ?_); (case side1 => exact kC_ (Kd.C_below HR0.out HB.out)); (case side2 => exact HC0.out); rintro e w' ⟨rfl, ⟨nd, rfl⟩⟩; (try first | exact ⟨rfl, _, World.drewN_drewN _ _ _⟩ | exact ⟨rfl, _, Eq.trans (World.drewN_drewN _ _ _) (congrArg (World.drewN _) (Nat.add_assoc _ _ _))⟩))); try go_wp2_with (first | (go_at_call 57; (with_reducible refine (spec_l4Get.calls k1 _ _ l0 x1_1 t407 true _ ?side1 ?side2 A20.out).mono ?_); (case side1 => exact kC_ (Kd.C_below HR0.out HB.out)); (case side2 => exact HC0.out); rintro e w' ⟨rfl, ⟨nd, rfl⟩⟩; (try first | exact ⟨rfl, _, World.drewN_drewN _ _ _⟩ | exact ⟨rfl, _, Eq.trans (World.drewN_drewN _ _ _) (congrArg (World.drewN _) (Nat.add_assoc _ _ _))⟩))))
     go_ret2
     exact ⟨er_, hb_⟩
    ·replace c21 := Bool.eq_false_iff.mpr c21
     subst c21
     have H1 : (some ((-1), false)) = some (r1, r2) := by rw [if_neg (show ¬ (false = true) by decide)] at H; exact H
     clear H
     have H := H1
     clear H1
     simp only [Option.some.injEq, Prod.mk.injEq] at H
     obtain ⟨rfl, rfl⟩ := H
     go_wp2_with (first | (go_at_call 57; (with_reducible refine (spec_l4Get.calls k1 _ _ l0 x1_1 t407 false _ ?side1 ?side2 A20.out).mono ?_); (case side1 => exact kC_ (Kd.C_below HR0.out HB.out)); (case side2 => exact HC0.out); rintro e w' ⟨rfl, ⟨nd, rfl⟩⟩; (try first | exact ⟨rfl, _, World.drewN_drewN _ _ _⟩ | exact ⟨rfl, _, Eq.trans (World.drewN_drewN _ _ _) (congrArg (World.drewN _) (Nat.add_assoc _ _ _))⟩)))
     repeat (go_quiet (first | (go_at_call 57; (with_reducible refine (spec_l4Get.calls k1 _ _ l0 x1_1 t407 false _ ?side1 ?side2 A20.out).mono ?_); (case side1 => exact kC_ (Kd.C_below HR0.out HB.out)); (case side2 => exact HC0.out); rintro e w' ⟨rfl, ⟨nd, rfl⟩⟩; (try first | exact ⟨rfl, _, World.drewN_drewN _ _ _⟩ | exact ⟨rfl, _, Eq.trans (World.drewN_drewN _ _ _) (congrArg (World.drewN _) (Nat.add_assoc _ _ _))⟩))); try go_wp2_with (first | (go_at_call 57; (with_reducible refine (spec_l4Get.calls k1 _ _ l0 x1_1 t407 false _ ?side1 ?side2 A20.out).mono ?_); (case side1 => exact kC_ (Kd.C_below HR0.out HB.out)); (case side2 => exact HC0.out); rintro e w' ⟨rfl, ⟨nd, rfl⟩⟩; (try first | exact ⟨rfl, _, World.drewN_drewN _ _ _⟩ | exact ⟨rfl, _, Eq.trans (World.drewN_drewN _ _ _) (congrArg (World.drewN _) (Nat.add_assoc _ _ _))⟩))))
     go_ret2
     exact ⟨er_, hb_⟩
/-! ### spec_WalkTo: function 55 -/
def spec_WalkTo.f (k : Nat) (l0 : List (S46)) (a1 : Int) (a2 : ByteArray) : Option (Int × Bool) := (spec_PathParts.f k a2).bind fun bt409 => (if bt409.2 = true then ((spec_StoreValid.f k l0).bind fun t413 => (if t413 = true then ((spec_l9Walk.f k l0 a1 bt409.1).bind fun bt414 => (some (bt414.1, bt414.2))) else (some ((-1), false)))) else (some ((-1), false)))
theorem spec_WalkTo.mono : ∀ a0 a1 a2 k, LeO (spec_WalkTo.f k a0 a1 a2) (spec_WalkTo.f (k + 1) a0 a1 a2) := by
 intro a0 a1 a2 k
 unfold spec_WalkTo.f
 repeat' first
   | (with_reducible exact spec_PathParts.mono _ _)
   | (with_reducible exact spec_StoreValid.mono _ _)
   | (with_reducible exact spec_l9Walk.mono _ _ _ _)
   | (with_reducible exact LeO.refl _)
   | (with_reducible exact LeO.none _)
   | (with_reducible refine LeO.ite ?_ ?_)
   | (with_reducible refine LeO.bind ?_ (fun _ => ?_))
   | exact spec_PathParts.mono _ _
   | exact spec_StoreValid.mono _ _
   | exact spec_l9Walk.mono _ _ _ _
   | exact LeO.none _
   | refine LeO.ite ?_ ?_
   | refine LeO.bind ?_ (fun _ => ?_)
set_option maxHeartbeats 8000000 in
set_option maxRecDepth 100000 in
theorem spec_WalkTo.calls (k : Nat) (A0 : Option Addr) (c0 : Nat) (l0 : List (S46)) (a1 : Int) (a2 : ByteArray) (r1 : Int) (r2 : Bool) (w : World) (hr0 : Kd.C k46 w A0 l0.length l0) (hc0 : l0.length ≤ c0) (h : spec_WalkTo.f k l0 a1 a2 = some (r1, r2)) :
  Calls Tryz.prog 55 #[.slice A0 l0.length c0, .int .i64 a1, .string a2] w fun e w' => e = .returned (.tuple #[.int .i64 r1, .bool r2]) ∧ Below w.heap.size w w' := by
 have HR0 := Aside0.mk hr0
 have HC0 := Aside0.mk hc0
 clear hr0 hc0
 have HB := Aside0.mk (Below.refl w.heap.size w)
 have H : ((spec_PathParts.f k a2).bind fun bt409 => (if bt409.2 = true then ((spec_StoreValid.f k l0).bind fun t413 => (if t413 = true then ((spec_l9Walk.f k l0 a1 bt409.1).bind fun bt414 => (some (bt414.1, bt414.2))) else (some ((-1), false)))) else (some ((-1), false)))) = some (r1, r2) := h
 clear h
 replace H := Option.bind_eq_some_iff.mp H
 obtain ⟨⟨t409, t410⟩, A40, H⟩ := H
 replace H : (if t410 = true then ((spec_StoreValid.f k l0).bind fun t413 => (if t413 = true then ((spec_l9Walk.f k l0 a1 t409).bind fun bt414 => (some (bt414.1, bt414.2))) else (some ((-1), false)))) else (some ((-1), false))) = some (r1, r2) := H
 have A4 := Aside0.mk A40
 clear A40
 by_cases c5 : t410 = true
 ·subst c5
  have H1 : ((spec_StoreValid.f k l0).bind fun t413 => (if t413 = true then ((spec_l9Walk.f k l0 a1 t409).bind fun bt414 => (some (bt414.1, bt414.2))) else (some ((-1), false)))) = some (r1, r2) := by rw [if_pos rfl] at H; exact H
  clear H
  have H := H1
  clear H1
  replace H := Option.bind_eq_some_iff.mp H
  obtain ⟨t413, A60, H⟩ := H
  replace H : (if t413 = true then ((spec_l9Walk.f k l0 a1 t409).bind fun bt414 => (some (bt414.1, bt414.2))) else (some ((-1), false))) = some (r1, r2) := H
  have A6 := Aside0.mk A60
  clear A60
  by_cases c7 : t413 = true
  ·subst c7
   have H1 : ((spec_l9Walk.f k l0 a1 t409).bind fun bt414 => (some (bt414.1, bt414.2))) = some (r1, r2) := by rw [if_pos rfl] at H; exact H
   clear H
   have H := H1
   clear H1
   replace H := Option.bind_eq_some_iff.mp H
   obtain ⟨⟨t414, t415⟩, A80, H⟩ := H
   replace H : (some (t414, t415)) = some (r1, r2) := H
   have A8 := Aside0.mk A80
   clear A80
   simp only [Option.some.injEq, Prod.mk.injEq] at H
   obtain ⟨rfl, rfl⟩ := H
   go_enter Tryz.func55, Tryz.ntmps55
   go_wp2_with (first | ((with_reducible refine gate_callee (f := 30) rfl ?_); refine goesL_ (some 12) rfl rfl Tryz.func30 (by kernel_rfl) rfl #[.string a2] rfl sl_ ?_; (with_reducible refine (spec_PathParts.calls k a2 t409 true _ A4.out).mono ?_); rintro e w9 ⟨v411, rfl, ho0, hb⟩; refine ⟨_, rfl, ?_⟩; have HO412 := Aside0.mk (Kd.R_lower ho0 (below_size hb_)); replace HB := Aside0.mk (below_step hb_ hb); (try clear hb); (try clear ho0)) | (go_at_call 36; (with_reducible refine (spec_StoreValid.calls k _ _ l0 true _ ?side1 ?side2 A6.out).mono ?_); (case side1 => exact kC_ (Kd.C_below HR0.out HB.out)); (case side2 => exact HC0.out); rintro e w10 ⟨rfl, hb⟩; replace HO412 := Aside0.mk (Kd.R_below (kR_ HO412.out) hb); replace HB := Aside0.mk (below_step hb_ hb); (try clear hb); obtain ⟨Ao11, co11, eo11⟩ := Kd.R_slice HO412.out; subst eo11) | ((with_reducible refine gate_callee (f := 56) rfl ?_); refine goesL_ (some 25) rfl rfl Tryz.func56 (by kernel_rfl) rfl #[.slice A0 l0.length c0, .int .i64 a1, .slice Ao11 t409.length co11] rfl sl_ ?_; (with_reducible refine (spec_l9Walk.calls k _ _ l0 a1 _ _ t409 t414 t415 _ ?side1 ?side2 ?side3 ?side4 A8.out).mono ?_); (case side1 => exact kC_ (Kd.C_below HR0.out HB.out)); (case side2 => exact HC0.out); (case side3 => exact kC_ ((Kd.R_reads' HO412.out).2.2)); (case side4 => exact (Kd.R_reads' HO412.out).2.1); rintro e w12 ⟨rfl, hb⟩; refine ⟨_, rfl, ?_⟩; replace HO412 := Aside0.mk (Kd.R_below (kR_ HO412.out) hb); replace HB := Aside0.mk (below_step hb_ hb); (try clear hb)))
   go_ret2
   exact ⟨er_, hb_⟩
  ·replace c7 := Bool.eq_false_iff.mpr c7
   subst c7
   have H1 : (some ((-1), false)) = some (r1, r2) := by rw [if_neg (show ¬ (false = true) by decide)] at H; exact H
   clear H
   have H := H1
   clear H1
   simp only [Option.some.injEq, Prod.mk.injEq] at H
   obtain ⟨rfl, rfl⟩ := H
   go_enter Tryz.func55, Tryz.ntmps55
   go_wp2_with (first | ((with_reducible refine gate_callee (f := 30) rfl ?_); refine goesL_ (some 12) rfl rfl Tryz.func30 (by kernel_rfl) rfl #[.string a2] rfl sl_ ?_; (with_reducible refine (spec_PathParts.calls k a2 t409 true _ A4.out).mono ?_); rintro e w13 ⟨v411, rfl, ho0, hb⟩; refine ⟨_, rfl, ?_⟩; have HO412 := Aside0.mk (Kd.R_lower ho0 (below_size hb_)); replace HB := Aside0.mk (below_step hb_ hb); (try clear hb); (try clear ho0)) | (go_at_call 36; (with_reducible refine (spec_StoreValid.calls k _ _ l0 false _ ?side1 ?side2 A6.out).mono ?_); (case side1 => exact kC_ (Kd.C_below HR0.out HB.out)); (case side2 => exact HC0.out); rintro e w14 ⟨rfl, hb⟩; replace HO412 := Aside0.mk (Kd.R_below (kR_ HO412.out) hb); replace HB := Aside0.mk (below_step hb_ hb); (try clear hb)))
   go_ret2
   exact ⟨er_, hb_⟩
 ·replace c5 := Bool.eq_false_iff.mpr c5
  subst c5
  have H1 : (some ((-1), false)) = some (r1, r2) := by rw [if_neg (show ¬ (false = true) by decide)] at H; exact H
  clear H
  have H := H1
  clear H1
  simp only [Option.some.injEq, Prod.mk.injEq] at H
  obtain ⟨rfl, rfl⟩ := H
  go_enter Tryz.func55, Tryz.ntmps55
  go_wp2_with (first | ((with_reducible refine gate_callee (f := 30) rfl ?_); refine goesL_ (some 12) rfl rfl Tryz.func30 (by kernel_rfl) rfl #[.string a2] rfl sl_ ?_; (with_reducible refine (spec_PathParts.calls k a2 t409 false _ A4.out).mono ?_); rintro e w15 ⟨v411, rfl, ho0, hb⟩; refine ⟨_, rfl, ?_⟩; have HO412 := Aside0.mk (Kd.R_lower ho0 (below_size hb_)); replace HB := Aside0.mk (below_step hb_ hb); (try clear hb); (try clear ho0)))
  go_ret2
  exact ⟨er_, hb_⟩
/-! ### cmp_isNaN_string: function 107 -/
def cmp_isNaN_string.f (a0 : ByteArray) : Option (Bool) := some (a0.toList != a0.toList)
set_option maxHeartbeats 8000000 in
set_option maxRecDepth 100000 in
theorem cmp_isNaN_string.calls (a0 : ByteArray) (r : Bool) (w : World) (h : cmp_isNaN_string.f a0 = some r) :
  Calls Tryz.prog 107 #[.string a0] w fun e w' => e = .returned (.bool r) ∧ Drawn0 w w' := by
 have H : (some (a0.toList != a0.toList)) = some r := h
 clear h
 obtain rfl := Option.some.inj H
 go_enter Tryz.func107, Tryz.ntmps107
 go_wp2
 go_ret
 exact ⟨by first | rfl | (simp; done) | (simp [*]; done), by repeat (first | exact Drawn0.refl _ | apply Drawn0.step)⟩
/-! ### cmp_Compare_string: function 90 -/
def cmp_Compare_string.f (a0 : ByteArray) (a1 : ByteArray) : Option (Int) := (cmp_isNaN_string.f a0).bind fun t479 => ((cmp_isNaN_string.f a1).bind fun t480 => (if t479 = true then (if t480 = true then (some 0) else (some (-1))) else (if t480 = true then (some 1) else (if (Op.bytesLess a0.toList a1.toList) = true then (some (-1)) else (if (Op.bytesLess a1.toList a0.toList) = true then (some 1) else (some 0))))))
set_option maxHeartbeats 8000000 in
set_option maxRecDepth 100000 in
theorem cmp_Compare_string.calls (a0 : ByteArray) (a1 : ByteArray) (r : Int) (w : World) (h : cmp_Compare_string.f a0 a1 = some r) :
  Calls Tryz.prog 90 #[.string a0, .string a1] w fun e w' => e = .returned (.int .i64 r) ∧ Drawn0 w w' := by
 have H : ((cmp_isNaN_string.f a0).bind fun t479 => ((cmp_isNaN_string.f a1).bind fun t480 => (if t479 = true then (if t480 = true then (some 0) else (some (-1))) else (if t480 = true then (some 1) else (if (Op.bytesLess a0.toList a1.toList) = true then (some (-1)) else (if (Op.bytesLess a1.toList a0.toList) = true then (some 1) else (some 0))))))) = some r := h
 clear h
 replace H := Option.bind_eq_some_iff.mp H
 obtain ⟨t479, A30, H⟩ := H
 replace H : ((cmp_isNaN_string.f a1).bind fun t480 => (if t479 = true then (if t480 = true then (some 0) else (some (-1))) else (if t480 = true then (some 1) else (if (Op.bytesLess a0.toList a1.toList) = true then (some (-1)) else (if (Op.bytesLess a1.toList a0.toList) = true then (some 1) else (some 0)))))) = some r := H
 have A3 := Aside0.mk A30
 clear A30
 replace H := Option.bind_eq_some_iff.mp H
 obtain ⟨t480, A40, H⟩ := H
 replace H : (if t479 = true then (if t480 = true then (some 0) else (some (-1))) else (if t480 = true then (some 1) else (if (Op.bytesLess a0.toList a1.toList) = true then (some (-1)) else (if (Op.bytesLess a1.toList a0.toList) = true then (some 1) else (some 0))))) = some r := H
 have A4 := Aside0.mk A40
 clear A40
 by_cases c5 : t479 = true
 ·subst c5
  have H1 : (if t480 = true then (some 0) else (some (-1))) = some r := by rw [if_pos rfl] at H; exact H
  clear H
  have H := H1
  clear H1
  by_cases c6 : t480 = true
  ·subst c6
   have H1 : (some 0) = some r := by rw [if_pos rfl] at H; exact H
   clear H
   have H := H1
   clear H1
   obtain rfl := Option.some.inj H
   go_enter Tryz.func90, Tryz.ntmps90
   go_wp2_with (first | ((with_reducible refine gate_callee (f := 107) rfl ?_); refine goesL_ (some 8) rfl rfl Tryz.func107 (by kernel_rfl) rfl #[.string a0] rfl sl_ ?_; (with_reducible refine (cmp_isNaN_string.calls a0 true _ A3.out).mono ?_); rintro e w' ⟨rfl, ⟨nd, rfl⟩⟩; refine ⟨_, rfl, ?_⟩) | ((with_reducible refine gate_callee (f := 107) rfl ?_); refine goesL_ (some 10) rfl rfl Tryz.func107 (by kernel_rfl) rfl #[.string a1] rfl sl_ ?_; (with_reducible refine (cmp_isNaN_string.calls a1 true _ A4.out).mono ?_); rintro e w' ⟨rfl, ⟨nd, rfl⟩⟩; refine ⟨_, rfl, ?_⟩))
   go_ret
   exact ⟨by first | rfl | (simp; done) | (simp [*]; done), by repeat (first | exact Drawn0.refl _ | apply Drawn0.step)⟩
  ·replace c6 := Bool.eq_false_iff.mpr c6
   subst c6
   have H1 : (some (-1)) = some r := by rw [if_neg (show ¬ (false = true) by decide)] at H; exact H
   clear H
   have H := H1
   clear H1
   obtain rfl := Option.some.inj H
   go_enter Tryz.func90, Tryz.ntmps90
   go_wp2_with (first | ((with_reducible refine gate_callee (f := 107) rfl ?_); refine goesL_ (some 8) rfl rfl Tryz.func107 (by kernel_rfl) rfl #[.string a0] rfl sl_ ?_; (with_reducible refine (cmp_isNaN_string.calls a0 true _ A3.out).mono ?_); rintro e w' ⟨rfl, ⟨nd, rfl⟩⟩; refine ⟨_, rfl, ?_⟩) | ((with_reducible refine gate_callee (f := 107) rfl ?_); refine goesL_ (some 10) rfl rfl Tryz.func107 (by kernel_rfl) rfl #[.string a1] rfl sl_ ?_; (with_reducible refine (cmp_isNaN_string.calls a1 false _ A4.out).mono ?_); rintro e w' ⟨rfl, ⟨nd, rfl⟩⟩; refine ⟨_, rfl, ?_⟩))
   go_ret
   exact ⟨by first | rfl | (simp; done) | (simp [*]; done), by repeat (first | exact Drawn0.refl _ | apply Drawn0.step)⟩
 ·replace c5 := Bool.eq_false_iff.mpr c5
  subst c5
  have H1 : (if t480 = true then (some 1) else (if (Op.bytesLess a0.toList a1.toList) = true then (some (-1)) else (if (Op.bytesLess a1.toList a0.toList) = true then (some 1) else (some 0)))) = some r := by rw [if_neg (show ¬ (false = true) by decide)] at H; exact H
  clear H
  have H := H1
  clear H1
  by_cases c7 : t480 = true
  ·subst c7
   have H1 : (some 1) = some r := by rw [if_pos rfl] at H; exact H
   clear H
   have H := H1
   clear H1
   obtain rfl := Option.some.inj H
   go_enter Tryz.func90, Tryz.ntmps90
   go_wp2_with (first | ((with_reducible refine gate_callee (f := 107) rfl ?_); refine goesL_ (some 8) rfl rfl Tryz.func107 (by kernel_rfl) rfl #[.string a0] rfl sl_ ?_; (with_reducible refine (cmp_isNaN_string.calls a0 false _ A3.out).mono ?_); rintro e w' ⟨rfl, ⟨nd, rfl⟩⟩; refine ⟨_, rfl, ?_⟩) | ((with_reducible refine gate_callee (f := 107) rfl ?_); refine goesL_ (some 10) rfl rfl Tryz.func107 (by kernel_rfl) rfl #[.string a1] rfl sl_ ?_; (with_reducible refine (cmp_isNaN_string.calls a1 true _ A4.out).mono ?_); rintro e w' ⟨rfl, ⟨nd, rfl⟩⟩; refine ⟨_, rfl, ?_⟩))
   go_ret
   exact ⟨by first | rfl | (simp; done) | (simp [*]; done), by repeat (first | exact Drawn0.refl _ | apply Drawn0.step)⟩
  ·replace c7 := Bool.eq_false_iff.mpr c7
   subst c7
   have H1 : (if (Op.bytesLess a0.toList a1.toList) = true then (some (-1)) else (if (Op.bytesLess a1.toList a0.toList) = true then (some 1) else (some 0))) = some r := by rw [if_neg (show ¬ (false = true) by decide)] at H; exact H
   clear H
   have H := H1
   clear H1
   by_cases c8 : (Op.bytesLess a0.toList a1.toList) = true
   ·rw [if_pos c8] at H
    have c8b0 : (Op.bytesLess a0.toList a1.toList) = true := c8
    clear c8
    obtain rfl := Option.some.inj H
    go_enter Tryz.func90, Tryz.ntmps90
    go_wp2_with (first | ((with_reducible refine gate_callee (f := 107) rfl ?_); refine goesL_ (some 8) rfl rfl Tryz.func107 (by kernel_rfl) rfl #[.string a0] rfl sl_ ?_; (with_reducible refine (cmp_isNaN_string.calls a0 false _ A3.out).mono ?_); rintro e w' ⟨rfl, ⟨nd, rfl⟩⟩; refine ⟨_, rfl, ?_⟩) | ((with_reducible refine gate_callee (f := 107) rfl ?_); refine goesL_ (some 10) rfl rfl Tryz.func107 (by kernel_rfl) rfl #[.string a1] rfl sl_ ?_; (with_reducible refine (cmp_isNaN_string.calls a1 false _ A4.out).mono ?_); rintro e w' ⟨rfl, ⟨nd, rfl⟩⟩; refine ⟨_, rfl, ?_⟩))
    go_ret
    exact ⟨by first | rfl | (simp; done) | (simp [*]; done), by repeat (first | exact Drawn0.refl _ | apply Drawn0.step)⟩
   ·rw [if_neg c8] at H
    have c8b0 : (Op.bytesLess a0.toList a1.toList) = false := by simpa using c8
    clear c8
    by_cases c9 : (Op.bytesLess a1.toList a0.toList) = true
    ·rw [if_pos c9] at H
     have c9b0 : (Op.bytesLess a1.toList a0.toList) = true := c9
     clear c9
     obtain rfl := Option.some.inj H
     go_enter Tryz.func90, Tryz.ntmps90
     go_wp2_with (first | ((with_reducible refine gate_callee (f := 107) rfl ?_); refine goesL_ (some 8) rfl rfl Tryz.func107 (by kernel_rfl) rfl #[.string a0] rfl sl_ ?_; (with_reducible refine (cmp_isNaN_string.calls a0 false _ A3.out).mono ?_); rintro e w' ⟨rfl, ⟨nd, rfl⟩⟩; refine ⟨_, rfl, ?_⟩) | ((with_reducible refine gate_callee (f := 107) rfl ?_); refine goesL_ (some 10) rfl rfl Tryz.func107 (by kernel_rfl) rfl #[.string a1] rfl sl_ ?_; (with_reducible refine (cmp_isNaN_string.calls a1 false _ A4.out).mono ?_); rintro e w' ⟨rfl, ⟨nd, rfl⟩⟩; refine ⟨_, rfl, ?_⟩))
     go_ret
     exact ⟨by first | rfl | (simp; done) | (simp [*]; done), by repeat (first | exact Drawn0.refl _ | apply Drawn0.step)⟩
    ·rw [if_neg c9] at H
     have c9b0 : (Op.bytesLess a1.toList a0.toList) = false := by simpa using c9
     clear c9
     obtain rfl := Option.some.inj H
     go_enter Tryz.func90, Tryz.ntmps90
     go_wp2_with (first | ((with_reducible refine gate_callee (f := 107) rfl ?_); refine goesL_ (some 8) rfl rfl Tryz.func107 (by kernel_rfl) rfl #[.string a0] rfl sl_ ?_; (with_reducible refine (cmp_isNaN_string.calls a0 false _ A3.out).mono ?_); rintro e w' ⟨rfl, ⟨nd, rfl⟩⟩; refine ⟨_, rfl, ?_⟩) | ((with_reducible refine gate_callee (f := 107) rfl ?_); refine goesL_ (some 10) rfl rfl Tryz.func107 (by kernel_rfl) rfl #[.string a1] rfl sl_ ?_; (with_reducible refine (cmp_isNaN_string.calls a1 false _ A4.out).mono ?_); rintro e w' ⟨rfl, ⟨nd, rfl⟩⟩; refine ⟨_, rfl, ?_⟩))
     go_ret
     exact ⟨by first | rfl | (simp; done) | (simp [*]; done), by repeat (first | exact Drawn0.refl _ | apply Drawn0.step)⟩
/-! ### impl_findEntry_1: function 89 -/
def impl_findEntry_1.f (a0_0 : ByteArray) (a0_1 : Int) (a1 : ByteArray) : Option (Int) := (cmp_Compare_string.f a0_0 a1).bind fun t482 => (some t482)
set_option maxHeartbeats 8000000 in
set_option maxRecDepth 100000 in
theorem impl_findEntry_1.calls (a0_0 : ByteArray) (a0_1 : Int) (a1 : ByteArray) (r : Int) (w : World) (h : impl_findEntry_1.f a0_0 a0_1 a1 = some r) :
  Calls Tryz.prog 89 #[.agg #[.string a0_0, .int .i64 a0_1], .string a1] w fun e w' => e = .returned (.int .i64 r) ∧ Below w.heap.size w w' := by
 have hu75 := Tryz.underlying75
 have HB := Aside0.mk (Below.refl w.heap.size w)
 have H : ((cmp_Compare_string.f a0_0 a1).bind fun t482 => (some t482)) = some r := h
 clear h
 replace H := Option.bind_eq_some_iff.mp H
 obtain ⟨t482, A30, H⟩ := H
 replace H : (some t482) = some r := H
 have A3 := Aside0.mk A30
 clear A30
 obtain rfl := Option.some.inj H
 go_enter Tryz.func89, Tryz.ntmps89
 go_wp2_with (first | ((with_reducible refine gate_dst (N := 2) rfl ?_); refine box_event ?hg (N := 2) ?hd (cs := #[.string a0_0, .int .i64 a0_1]) (t := 75) ?hr ?_; (case hd => rfl); (case hg => rfl); (case hr => first | (go_simp; done) | (go_simp; rfl)); intro gb481 hg w4 hbox hb; have n0_ := Aside0.mk (below_step hb_ hb); have n1_ := Aside0.mk (hbox); have n2_ := Aside0.mk ((by rw [hg]; exact (below_size hb_) : w.heap.size ≤ gb481)); have n3_ := Aside0.mk ((by rw [hg]; exact (below_size hb_) : w.heap.size ≤ gb481)); clear HB; have HB := n0_; have BK481 := n1_; have GW481 := n2_; have GE481 := n3_; clear n0_ n1_ n2_ n3_; clear hb hbox hg; have hcz5_0 : w4.cell? ⟨gb481, 0, none⟩ = some (.string a0_0) := (blk_cell BK481.out 0).trans rfl; have hcz5_1 : w4.cell? ⟨gb481, 1, none⟩ = some (.int .i64 a0_1) := (blk_cell BK481.out 1).trans rfl; have hfz5_0 := blk_frozen BK481.out 0; have hfz5_1 := blk_frozen BK481.out 1) | ((with_reducible refine gate_callee (f := 90) rfl ?_); refine goesL_ (some 8) rfl rfl Tryz.func90 (by kernel_rfl) rfl #[.string a0_0, .string a1] rfl sl_ ?_; (with_reducible refine (cmp_Compare_string.calls a0_0 a1 t482 _ A3.out).mono ?_); rintro e w' ⟨rfl, ⟨nd, rfl⟩⟩; refine ⟨_, rfl, ?_⟩))
 go_ret
 exact ⟨er_, by repeat (first | (with_reducible first | exact HB.out | apply below_alloc | apply pw_below_drewN | apply below_drew1 | refine below_set ?_ GE481.out) | exact HB.out)⟩
/-! ### impl_findEntry: function 68, with its search and its comparison (by a text of my own) -/
def impl_findEntry.l0 : Nat → List (S75) → ByteArray → Int → Int → Option Int
 | 0, _, _, _, _ => none
 | k + 1, xs, t, i, j => if i < j then (if 0 ≤ i then (if j ≤ (xs.length : Int) ∧ (xs.length : Int) ≤ 4611686018427387903 then ((impl_findEntry_1.f (rd_T75 xs ((i + j) / 2)).f0 (rd_T75 xs ((i + j) / 2)).f1 t).bind fun c => (if c < 0 then impl_findEntry.l0 k xs t ((i + j) / 2 + 1) j else impl_findEntry.l0 k xs t i ((i + j) / 2))) else none) else none) else some i
def impl_findEntry.f (k : Nat) (xs : List (S75)) (t : ByteArray) : Option (Int × Bool) := (impl_findEntry.l0 k xs t 0 (xs.length : Int)).bind fun i => (if 0 ≤ i then (if i < (xs.length : Int) then ((impl_findEntry_1.f (rd_T75 xs i).f0 (rd_T75 xs i).f1 t).bind fun c => some (i, c == 0)) else some (i, false)) else none)
theorem impl_findEntry.mono_l : ∀ k, (∀ y0 y1 y2 y3, LeO (impl_findEntry.l0 k y0 y1 y2 y3) (impl_findEntry.l0 (k + 1) y0 y1 y2 y3))
 | 0 => fun _ _ _ _ r h => by simp [impl_findEntry.l0] at h
 | k + 1 => by
  have ih0 := impl_findEntry.mono_l k
  intro y0 y1 y2 y3
  unfold impl_findEntry.l0
  repeat' first
   | (with_reducible exact ih0 _ _ _ _)
   | (with_reducible exact LeO.refl _)
   | (with_reducible exact LeO.none _)
   | (with_reducible refine LeO.ite ?_ ?_)
   | (with_reducible refine LeO.bind ?_ (fun _ => ?_))
theorem impl_findEntry.mono : ∀ a0 a1 k, LeO (impl_findEntry.f k a0 a1) (impl_findEntry.f (k + 1) a0 a1) := by
 intro a0 a1 k
 have ih0 := impl_findEntry.mono_l k
 unfold impl_findEntry.f
 repeat' first
   | (with_reducible exact ih0 _ _ _ _)
   | (with_reducible exact LeO.refl _)
   | (with_reducible exact LeO.none _)
   | (with_reducible refine LeO.ite ?_ ?_)
   | (with_reducible refine LeO.bind ?_ (fun _ => ?_))
set_option maxHeartbeats 8000000 in
set_option maxRecDepth 100000 in
theorem impl_findEntry.search (k : Nat) (A0 : Option Addr) (c0 : Nat) (l0 : List (S75)) (t : ByteArray) (r1 : Int) (r2 : Bool) (w : World) (hr0 : Kd.C k75 w A0 l0.length l0) (hc0 : l0.length ≤ c0) (h : impl_findEntry.f k l0 t = some (r1, r2)) :
  Calls Tryz.prog 88 #[.slice A0 l0.length c0, .string t, .func (.func 89) #[] #[]] w fun e w' => e = .returned (.tuple #[.int .i64 r1, .bool r2]) ∧ Below w.heap.size w w' := by
 have hn := hr0.2.1
 have HR0 := Aside0.mk hr0
 have HC0 := Aside0.mk hc0
 clear hr0 hc0
 have HB := Aside0.mk (Below.refl w.heap.size w)
 unfold impl_findEntry.f at h
 replace h := Option.bind_eq_some_iff.mp h
 obtain ⟨res, hl, hres⟩ := h
 have HL := Aside0.mk hl
 have HE := Aside0.mk hres
 clear hl hres
 go_enter Tryz.func88, Tryz.ntmps88
 go_wp2
 go_loopg [9, 10] k (fun kq s9 s10 w' => ∃ (i j : Int), s9 = .int .i64 i ∧ s10 = .int .i64 j ∧ Aside0 (impl_findEntry.l0 kq l0 t i j = some res) ∧ Aside0 (kq ≤ k) ∧ Aside0 (Below w.heap.size w w'))
 case atStart => exact ⟨0, l0.length, rfl, rfl, HL, ⟨Nat.le_refl _⟩, HB⟩
 case round =>
  clear HL HB
  obtain ⟨i, j, rfl, rfl, HA, HK, HB⟩ := hrel
  cases gk with
  | zero => exact absurd HA.out (by simp [impl_findEntry.l0])
  | succ k1 =>
   have H := HA.out
   clear HA
   simp only [impl_findEntry.l0] at H
   by_cases hij : i < j
   ·rw [if_pos hij] at H
    by_cases h0 : 0 ≤ i
    case neg => rw [if_neg h0] at H; cases H
    rw [if_pos h0] at H
    by_cases h1 : j ≤ (l0.length : Int) ∧ (l0.length : Int) ≤ 4611686018427387903
    case neg => rw [if_neg h1] at H; cases H
    rw [if_pos h1] at H
    replace H := Option.bind_eq_some_iff.mp H
    obtain ⟨c, hc, H⟩ := H
    have hw : wrap64 (i + j) = i + j := by unfold wrap64; omega
    obtain ⟨ad, e, hx0, hx1⟩ := at_T75 HR0.out ((i + j) / 2) (by omega) (by omega)
    cases e
    replace hx0 := (HB.out.cell (World.block_lt_of_cell? w _ hx0)).trans hx0
    replace hx1 := (HB.out.cell (World.block_lt_of_cell? w _ hx1)).trans hx1
    have HC := Aside0.mk hc
    clear hc
    have lo2 : 0 ≤ (i + j) / 2 := by omega
    have hi2 : (i + j) / 2 < (l0.length : Int) := by omega
    by_cases hcz : c < 0
    ·rw [if_pos hcz] at H
     have HH := Aside0.mk H
     clear H
     go_wp2_with fail
     refine (impl_findEntry_1.calls _ _ _  c _ HC.out).mono ?_
     rintro e w' ⟨rfl, hb⟩
     have HB2 := Aside0.mk (below_step HB.out hb)
     clear HB hb
     have HB := HB2
     clear HB2
     go_wp2
     go_roundg k1
     case measure => have := HK.out; omega
     case rel => exact ⟨(i + j) / 2 + 1, j, rfl, rfl, HH, ⟨by have := HK.out; omega⟩, HB⟩
    ·rw [if_neg hcz] at H
     have HH := Aside0.mk H
     clear H
     go_wp2_with fail
     refine (impl_findEntry_1.calls _ _ _  c _ HC.out).mono ?_
     rintro e w' ⟨rfl, hb⟩
     have HB2 := Aside0.mk (below_step HB.out hb)
     clear HB hb
     have HB := HB2
     clear HB2
     go_wp2
     go_roundg k1
     case measure => have := HK.out; omega
     case rel => exact ⟨i, (i + j) / 2, rfl, rfl, HH, ⟨by have := HK.out; omega⟩, HB⟩
   ·rw [if_neg hij] at H
    obtain rfl := Option.some.inj H
    have E := HE.out
    clear HE H
    by_cases h0 : 0 ≤ i
    case neg => rw [if_neg h0] at E; cases E
    rw [if_pos h0] at E
    by_cases hin : i < (l0.length : Int)
    ·rw [if_pos hin] at E
     replace E := Option.bind_eq_some_iff.mp E
     obtain ⟨c, hc, E⟩ := E
     obtain ⟨rfl, rfl⟩ := Prod.mk.inj (Option.some.inj E)
     obtain ⟨ad, e, hx0, hx1⟩ := at_T75 HR0.out i h0 hin
     cases e
     replace hx0 := (HB.out.cell (World.block_lt_of_cell? w _ hx0)).trans hx0
     replace hx1 := (HB.out.cell (World.block_lt_of_cell? w _ hx1)).trans hx1
     have HC := Aside0.mk hc
     clear hc E
     go_wp2_with fail
     refine (impl_findEntry_1.calls _ _ _  c _ HC.out).mono ?_
     rintro e w' ⟨rfl, hb⟩
     have HB2 := Aside0.mk (below_step HB.out hb)
     clear HB hb
     have HB := HB2
     clear HB2
     go_wp2
     go_ret2
     exact ⟨rfl, HB.out⟩
    ·rw [if_neg hin] at E
     obtain ⟨rfl, rfl⟩ := Prod.mk.inj (Option.some.inj E)
     clear E
     go_wp2
     go_ret2
     exact ⟨rfl, HB.out⟩
set_option maxHeartbeats 4000000 in
theorem impl_findEntry.calls (k : Nat) (A0 : Option Addr) (c0 : Nat) (l0 : List (S75)) (a1 : ByteArray) (r1 : Int) (r2 : Bool) (w : World) (hr0 : Kd.C k75 w A0 l0.length l0) (hc0 : l0.length ≤ c0) (h : impl_findEntry.f k l0 a1 = some (r1, r2)) :
  Calls Tryz.prog 68 #[.slice A0 l0.length c0, .string a1] w fun e w' => e = .returned (.tuple #[.int .i64 r1, .bool r2]) ∧ Below w.heap.size w w' := by
 go_enter Tryz.func68, Tryz.ntmps68
 go_wp2_with fail
 refine (impl_findEntry.search k _ _ _ _ _ _ _ hr0 hc0 h).mono ?_
 rintro e w' ⟨rfl, hb⟩
 have HB := Aside0.mk hb
 clear hb
 go_wp2
 go_ret2
 exact ⟨rfl, HB.out⟩
/-! ### impl_printNamed: function 43 -/
def impl_printNamed.f (k : Nat) (l0 : List (S75)) (a1 : ByteArray) : Option (Int × Bool) := (impl_findEntry.f k l0 a1).bind fun bt483 => (if bt483.2 = true then (if 0 ≤ bt483.1 then (if bt483.1 < (l0.length : Int) then (some ((rd_T75 l0 bt483.1).f1, true)) else (none)) else (none)) else (some ((-1), false)))
theorem impl_printNamed.mono : ∀ a0 a1 k, LeO (impl_printNamed.f k a0 a1) (impl_printNamed.f (k + 1) a0 a1) := by
 intro a0 a1 k
 unfold impl_printNamed.f
 repeat' first
   | (with_reducible exact impl_findEntry.mono _ _ _)
   | (with_reducible exact LeO.refl _)
   | (with_reducible exact LeO.none _)
   | (with_reducible refine LeO.ite ?_ ?_)
   | (with_reducible refine LeO.bind ?_ (fun _ => ?_))
   | exact impl_findEntry.mono _ _ _
   | exact LeO.none _
   | refine LeO.ite ?_ ?_
   | refine LeO.bind ?_ (fun _ => ?_)
set_option maxHeartbeats 8000000 in
set_option maxRecDepth 100000 in
theorem impl_printNamed.calls (k : Nat) (A0 : Option Addr) (c0 : Nat) (l0 : List (S75)) (a1 : ByteArray) (r1 : Int) (r2 : Bool) (w : World) (hr0 : Kd.C k75 w A0 l0.length l0) (hc0 : l0.length ≤ c0) (h : impl_printNamed.f k l0 a1 = some (r1, r2)) :
  Calls Tryz.prog 43 #[.slice A0 l0.length c0, .string a1] w fun e w' => e = .returned (.tuple #[.int .i64 r1, .bool r2]) ∧ Below w.heap.size w w' := by
 have HR0 := Aside0.mk hr0
 have HC0 := Aside0.mk hc0
 clear hr0 hc0
 have HB := Aside0.mk (Below.refl w.heap.size w)
 have H : ((impl_findEntry.f k l0 a1).bind fun bt483 => (if bt483.2 = true then (if 0 ≤ bt483.1 then (if bt483.1 < (l0.length : Int) then (some ((rd_T75 l0 bt483.1).f1, true)) else (none)) else (none)) else (some ((-1), false)))) = some (r1, r2) := h
 clear h
 replace H := Option.bind_eq_some_iff.mp H
 obtain ⟨⟨t483, t484⟩, A30, H⟩ := H
 replace H : (if t484 = true then (if 0 ≤ t483 then (if t483 < (l0.length : Int) then (some ((rd_T75 l0 t483).f1, true)) else (none)) else (none)) else (some ((-1), false))) = some (r1, r2) := H
 have A3 := Aside0.mk A30
 clear A30
 by_cases c4 : t484 = true
 ·subst c4
  have H1 : (if 0 ≤ t483 then (if t483 < (l0.length : Int) then (some ((rd_T75 l0 t483).f1, true)) else (none)) else (none)) = some (r1, r2) := by rw [if_pos rfl] at H; exact H
  clear H
  have H := H1
  clear H1
  by_cases c5 : 0 ≤ t483
  ·rw [if_pos c5] at H
   have c5b0 : decide (0 ≤ t483) = true := decide_eq_true c5
   clear c5
   by_cases c6 : t483 < (l0.length : Int)
   ·rw [if_pos c6] at H
    have c6b0 : decide (t483 < (l0.length : Int)) = true := decide_eq_true c6
    clear c6
    simp only [Option.some.injEq, Prod.mk.injEq] at H
    obtain ⟨rfl, rfl⟩ := H
    go_enter Tryz.func43, Tryz.ntmps43
    go_wp2_with (first | ((with_reducible refine gate_callee (f := 68) rfl ?_); refine goesL_ (some 11) rfl rfl Tryz.func68 (by kernel_rfl) rfl #[.slice A0 l0.length c0, .string a1] rfl sl_ ?_; (with_reducible refine (impl_findEntry.calls k _ _ l0 a1 t483 true _ ?side1 ?side2 A3.out).mono ?_); (case side1 => exact kC_ HR0.out); (case side2 => exact HC0.out); rintro e w7 ⟨rfl, hb⟩; refine ⟨_, rfl, ?_⟩; replace HB := Aside0.mk (below_step hb_ hb); (try clear hb); have p485 : 0 ≤ (t483 : Int) := of_decide_eq_true ma_; have q485 : t483 < (l0.length : Int) := of_decide_eq_true ma_; obtain ⟨ad485, e485, hx485_0, hx485_1⟩ := at_T75 HR0.out t483 p485 q485; cases e485; replace hx485_0 := (HB.out.cell (World.block_lt_of_cell? w _ hx485_0)).trans hx485_0; replace hx485_1 := (HB.out.cell (World.block_lt_of_cell? w _ hx485_1)).trans hx485_1; replace p485 := eq_true p485; replace q485 := eq_true q485))
    go_ret2
    exact ⟨er_, hb_⟩
   ·rw [if_neg c6] at H
    exact absurd H (by simp)
  ·rw [if_neg c5] at H
   exact absurd H (by simp)
 ·replace c4 := Bool.eq_false_iff.mpr c4
  subst c4
  have H1 : (some ((-1), false)) = some (r1, r2) := by rw [if_neg (show ¬ (false = true) by decide)] at H; exact H
  clear H
  have H := H1
  clear H1
  simp only [Option.some.injEq, Prod.mk.injEq] at H
  obtain ⟨rfl, rfl⟩ := H
  go_enter Tryz.func43, Tryz.ntmps43
  go_wp2_with (first | ((with_reducible refine gate_callee (f := 68) rfl ?_); refine goesL_ (some 11) rfl rfl Tryz.func68 (by kernel_rfl) rfl #[.slice A0 l0.length c0, .string a1] rfl sl_ ?_; (with_reducible refine (impl_findEntry.calls k _ _ l0 a1 t483 false _ ?side1 ?side2 A3.out).mono ?_); (case side1 => exact kC_ HR0.out); (case side2 => exact HC0.out); rintro e w8 ⟨rfl, hb⟩; refine ⟨_, rfl, ?_⟩; replace HB := Aside0.mk (below_step hb_ hb); (try clear hb)))
  go_ret2
  exact ⟨er_, hb_⟩
end Go.Proofs.YtjgbidklkhohfaaGreatDoor.P
