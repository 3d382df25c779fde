-- The functions of the seat as plain Lean functions, made by the kit's print.py for all laws at once. Not trusted: Lean checks it.
import Derived.Test.YtjgbidklkhohfaaDoorPx0
import Derived.Test.YtjgbidklkhohfaaDoorPx1
import Derived.Test.YtjgbidklkhohfaaDoorPx3
import Derived.Test.YtjgbidklkhohfaaDoorPx4
import Derived.Test.YtjgbidklkhohfaaDoorPx6
import Derived.Test.YtjgbidklkhohfaaDoorPx7
namespace Go.Proofs.YtjgbidklkhohfaaDoor.P
open Go.RowKit Go.Proofs.YtjgbidklkhohfaaDoorW.PrintWords Go.Proofs.YtjgbidklkhohfaaDoorW.PrintLast Go.Proofs.YtjgbidklkhohfaaDoorW.PrintMore
attribute [local go_sem] max2_int min2_int max_two min_two max_three min_three max_four min_four   -- for this text's walks alone
set_option linter.unusedVariables false
set_option linter.unusedSimpArgs false
/-! ### spec_l9Walk: function 73 -/
mutual
def spec_l9Walk.l0 : Nat → List (S58) → Int → List ByteArray → Int → Option (Int × Bool)
 | 0, _, _, _, _ => none
 | k + 1, x0, x1, x2, x8 => if x8 < (x2.length : Int) then ((spec_l4Get.f k x0 x1).bind fun bt418 => ((spec_ReadFolder.f k bt418.1).bind fun bt420 => (spec_l9Walk.l1 k x0 x1 x2 x8 bt420.1 bt420.2 false 0))) else ((spec_l4Get.f k x0 x1).bind fun bt427 => (if bt427.2 = true then (some (x1, true)) else (some ((-1), false))))
def spec_l9Walk.l1 : Nat → List (S58) → Int → List ByteArray → Int → List (S63) → Bool → Bool → Int → Option (Int × Bool)
 | 0, _, _, _, _, _, _, _, _ => none
 | k + 1, x0, x1, x2, x8, x11, x12, x13, x14 => if x14 < (x11.length : Int) then (if x12 = true then (if 0 ≤ x14 then (if 0 ≤ x8 then (if x8 < (x2.length : Int) then (if ((rd_T63 x11 x14).f0).toList = (rdOf ByteArray.empty x2 x8).toList then (spec_l9Walk.l0 k x0 ((rd_T63 x11 x14).f1) x2 (wrap64 (x8 + 1))) else (spec_l9Walk.l1 k x0 x1 x2 x8 x11 x12 x13 (wrap64 (x14 + 1)))) else (none)) else (none)) else (none)) else (spec_l9Walk.l1 k x0 x1 x2 x8 x11 x12 x13 (wrap64 (x14 + 1)))) else (if x13 = true then (spec_l9Walk.l0 k x0 x1 x2 (wrap64 (x8 + 1))) else (some ((-1), false)))
end
def spec_l9Walk.f (k : Nat) (l0 : List (S58)) (a1 : Int) (l2 : List ByteArray) : Option (Int × Bool) := spec_l9Walk.l0 k l0 a1 l2 0
theorem spec_l9Walk.mono_l : ∀ k, (∀ y0 y1 y2 y3, LeO (spec_l9Walk.l0 k y0 y1 y2 y3) (spec_l9Walk.l0 (k + 1) y0 y1 y2 y3)) ∧ (∀ y0 y1 y2 y3 y4 y5 y6 y7, LeO (spec_l9Walk.l1 k y0 y1 y2 y3 y4 y5 y6 y7) (spec_l9Walk.l1 (k + 1) y0 y1 y2 y3 y4 y5 y6 y7))
 | 0 => ⟨fun _ _ _ _ r h => by simp [spec_l9Walk.l0] at h, fun _ _ _ _ _ _ _ _ r h => by simp [spec_l9Walk.l1] at h⟩
 | k + 1 => by
  obtain ⟨ih0, ih1⟩ := spec_l9Walk.mono_l k
  refine ⟨?_, ?_⟩
  ·intro y0 y1 y2 y3
   unfold spec_l9Walk.l0
   repeat' first
   | (with_reducible exact ih0 _ _ _ _)
   | (with_reducible exact ih1 _ _ _ _ _ _ _ _)
   | (with_reducible exact spec_ReadFolder.mono _ _)
   | (with_reducible exact spec_l4Get.mono _ _ _)
   | (with_reducible exact LeO.refl _)
   | (with_reducible exact LeO.none _)
   | (with_reducible refine LeO.ite ?_ ?_)
   | (with_reducible refine LeO.bind ?_ (fun _ => ?_))
   | exact ih0 _ _ _ _
   | exact ih1 _ _ _ _ _ _ _ _
   | exact spec_ReadFolder.mono _ _
   | exact spec_l4Get.mono _ _ _
   | exact LeO.none _
   | refine LeO.ite ?_ ?_
   | refine LeO.bind ?_ (fun _ => ?_)
  ·intro y0 y1 y2 y3 y4 y5 y6 y7
   unfold spec_l9Walk.l1
   repeat' first
   | (with_reducible exact ih0 _ _ _ _)
   | (with_reducible exact ih1 _ _ _ _ _ _ _ _)
   | (with_reducible exact spec_ReadFolder.mono _ _)
   | (with_reducible exact spec_l4Get.mono _ _ _)
   | (with_reducible exact LeO.refl _)
   | (with_reducible exact LeO.none _)
   | (with_reducible refine LeO.ite ?_ ?_)
   | (with_reducible refine LeO.bind ?_ (fun _ => ?_))
   | exact ih0 _ _ _ _
   | exact ih1 _ _ _ _ _ _ _ _
   | exact spec_ReadFolder.mono _ _
   | exact spec_l4Get.mono _ _ _
   | exact LeO.none _
   | refine LeO.ite ?_ ?_
   | refine LeO.bind ?_ (fun _ => ?_)
theorem spec_l9Walk.mono : ∀ a0 a1 a2 k, LeO (spec_l9Walk.f k a0 a1 a2) (spec_l9Walk.f (k + 1) a0 a1 a2) := by
 intro a0 a1 a2 k
 obtain ⟨ih0, ih1⟩ := spec_l9Walk.mono_l k
 unfold spec_l9Walk.f
 repeat' first
   | (with_reducible exact ih0 _ _ _ _)
   | (with_reducible exact ih1 _ _ _ _ _ _ _ _)
   | (with_reducible exact spec_ReadFolder.mono _ _)
   | (with_reducible exact spec_l4Get.mono _ _ _)
   | (with_reducible exact LeO.refl _)
   | (with_reducible exact LeO.none _)
   | (with_reducible refine LeO.ite ?_ ?_)
   | (with_reducible refine LeO.bind ?_ (fun _ => ?_))
   | exact ih0 _ _ _ _
   | exact ih1 _ _ _ _ _ _ _ _
   | exact spec_ReadFolder.mono _ _
   | exact spec_l4Get.mono _ _ _
   | exact LeO.none _
   | refine LeO.ite ?_ ?_
   | refine LeO.bind ?_ (fun _ => ?_)
set_option maxHeartbeats 8000000 in
set_option maxRecDepth 100000 in
theorem spec_l9Walk.calls (k : Nat) (A0 : Option Addr) (c0 : Nat) (l0 : List (S58)) (a1 : Int) (A2 : Option Addr) (c2 : Nat) (l2 : List ByteArray) (r1 : Int) (r2 : Bool) (w : World) (hr0 : Kd.C k58 w A0 l0.length l0) (hc0 : l0.length ≤ c0) (hr2 : Kd.C Kd.string w A2 l2.length l2) (hc2 : l2.length ≤ c2) (h : spec_l9Walk.f k l0 a1 l2 = some (r1, r2)) :
  Calls Tryd.prog 73 #[.slice A0 l0.length c0, .int .i64 a1, .slice A2 l2.length c2] w fun e w' => e = .returned (.tuple #[.int .i64 r1, .bool r2]) ∧ Below w.heap.size w w' := by
 have HR0 := Aside0.mk hr0
 have HC0 := Aside0.mk hc0
 clear hr0 hc0
 have HR2 := Aside0.mk hr2
 have HC2 := Aside0.mk hc2
 clear hr2 hc2
 have HB := Aside0.mk (Below.refl w.heap.size w)
 have H : (spec_l9Walk.l0 k l0 a1 l2 0) = some (r1, r2) := h
 clear h
 have H' := Aside0.mk H
 clear H
 go_enter Tryd.func73, Tryd.ntmps73
 go_wp2
 repeat (go_quiet (fail); try go_wp2)
 go_loopg [1, 8] k (fun kq v1 v8 w' => ∃ (x1_1 : Int) (x8_1 : Int), v1 = .int .i64 x1_1 ∧ v8 = .int .i64 x8_1 ∧ Aside0 (spec_l9Walk.l0 kq l0 x1_1 l2 x8_1 = some (r1, r2)) ∧ Aside0 (kq ≤ k) ∧ Aside0 (Below w.heap.size w w'))
 case atStart => exact ⟨(a1), (0), (by first | rfl | (simp; done) | (simp [*]; done)), (by first | rfl | (simp; done) | (simp [*]; done)), H', ⟨Nat.le_refl _⟩, ⟨hb_⟩⟩
 case round =>
  clear H'
  try clear c2
  try clear p2
  obtain ⟨x1_1, x8_1, rfl, rfl, HA, HK1, HB⟩ := hrel
  cases gk with
  | zero => exact absurd HA.out (by simp [spec_l9Walk.l0])
  | succ k1 =>
   have H := HA.out
   clear HA
   simp only [spec_l9Walk.l0] at H
   by_cases c4 : x8_1 < (l2.length : Int)
   ·rw [if_pos c4] at H
    have c4b0 : decide (x8_1 < (l2.length : Int)) = true := decide_eq_true c4
    clear c4
    replace H := Option.bind_eq_some_iff.mp H
    obtain ⟨⟨t418, t419⟩, A50, H⟩ := H
    replace H : ((spec_ReadFolder.f k1 t418).bind fun bt420 => (spec_l9Walk.l1 k1 l0 x1_1 l2 x8_1 bt420.1 bt420.2 false 0)) = some (r1, r2) := H
    have A5 := Aside0.mk A50
    clear A50
    replace H := Option.bind_eq_some_iff.mp H
    obtain ⟨⟨t420, t421⟩, A60, H⟩ := H
    replace H : (spec_l9Walk.l1 k1 l0 x1_1 l2 x8_1 t420 t421 false 0) = some (r1, r2) := H
    have A6 := Aside0.mk A60
    clear A60
    have H' := Aside0.mk H
    clear H
    go_wp2_with (first | (go_at_call 74; (with_reducible refine (spec_l4Get.calls k1 _ _ l0 x1_1 t418 t419 _ ?side1 ?side2 A5.out).mono ?_); (case side1 => exact kC_ (Kd.C_below HR0.out HB.out)); (case side2 => exact HC0.out); rintro e w' ⟨rfl, ⟨nd, rfl⟩⟩; (try first | exact ⟨rfl, _, World.drewN_drewN _ _ _⟩ | exact ⟨rfl, _, Eq.trans (World.drewN_drewN _ _ _) (congrArg (World.drewN _) (Nat.add_assoc _ _ _))⟩)) | (go_at_call 51; (with_reducible refine (spec_ReadFolder.calls k1 t418 t420 t421 _ A6.out).mono ?_); rintro e w7 ⟨v422, rfl, ho0, hb⟩; have HO423 := Aside0.mk (Kd.R_lower ho0 (below_size hb_)); replace HB := Aside0.mk (below_step hb_ hb); (try clear hb); (try clear ho0)))
    repeat (go_quiet (first | (go_at_call 74; (with_reducible refine (spec_l4Get.calls k1 _ _ l0 x1_1 t418 t419 _ ?side1 ?side2 A5.out).mono ?_); (case side1 => exact kC_ (Kd.C_below HR0.out HB.out)); (case side2 => exact HC0.out); rintro e w' ⟨rfl, ⟨nd, rfl⟩⟩; (try first | exact ⟨rfl, _, World.drewN_drewN _ _ _⟩ | exact ⟨rfl, _, Eq.trans (World.drewN_drewN _ _ _) (congrArg (World.drewN _) (Nat.add_assoc _ _ _))⟩)) | (go_at_call 51; (with_reducible refine (spec_ReadFolder.calls k1 t418 t420 t421 _ A6.out).mono ?_); rintro e w7 ⟨v422, rfl, ho0, hb⟩; have HO423 := Aside0.mk (Kd.R_lower ho0 (below_size hb_)); replace HB := Aside0.mk (below_step hb_ hb); (try clear hb); (try clear ho0))); try go_wp2_with (first | (go_at_call 74; (with_reducible refine (spec_l4Get.calls k1 _ _ l0 x1_1 t418 t419 _ ?side1 ?side2 A5.out).mono ?_); (case side1 => exact kC_ (Kd.C_below HR0.out HB.out)); (case side2 => exact HC0.out); rintro e w' ⟨rfl, ⟨nd, rfl⟩⟩; (try first | exact ⟨rfl, _, World.drewN_drewN _ _ _⟩ | exact ⟨rfl, _, Eq.trans (World.drewN_drewN _ _ _) (congrArg (World.drewN _) (Nat.add_assoc _ _ _))⟩)) | (go_at_call 51; (with_reducible refine (spec_ReadFolder.calls k1 t418 t420 t421 _ A6.out).mono ?_); rintro e w7 ⟨v422, rfl, ho0, hb⟩; have HO423 := Aside0.mk (Kd.R_lower ho0 (below_size hb_)); replace HB := Aside0.mk (below_step hb_ hb); (try clear hb); (try clear ho0))))
    go_loopg [1, 13, 14] k1 (fun kq v1 v13 v14 w' => ∃ (x1_2 : Int) (x13_2 : Bool) (x14_2 : Int), v1 = .int .i64 x1_2 ∧ v13 = .bool x13_2 ∧ v14 = .int .i64 x14_2 ∧ Aside0 (spec_l9Walk.l1 kq l0 x1_2 l2 x8_1 t420 t421 x13_2 x14_2 = some (r1, r2)) ∧ Aside0 (kq ≤ k1) ∧ Aside0 (Kd.R k63 63 w' w.heap.size (fun _ => True) v422 t420) ∧ Aside0 (Below w.heap.size w w'))
    case atStart => exact ⟨(x1_1), (false), (0), (by first | rfl | (simp; done) | (simp [*]; done)), (by first | rfl | (simp; done) | (simp [*]; done)), (by first | rfl | (simp; done) | (simp [*]; done)), H', ⟨Nat.le_refl _⟩, ⟨by (with_reducible repeat (first | apply Kd.R_alloc | apply Kd.R_drewN | apply Kd.R_drew)); exact HO423.out⟩, ⟨hb_⟩⟩
    case round =>
     clear H'
     try clear c2
     try clear p2
     try clear c4
     try clear c4b0
     try clear c7
     try clear p2
     obtain ⟨x1_2, x13_2, x14_2, rfl, rfl, rfl, HA, HK2, HO_11, HB⟩ := hrel
     cases gk with
     | zero => exact absurd HA.out (by simp [spec_l9Walk.l1])
     | succ k2 =>
      have H := HA.out
      clear HA
      simp only [spec_l9Walk.l1] at H
      by_cases c8 : x14_2 < (t420.length : Int)
      ·rw [if_pos c8] at H
       have c8b0 : decide (x14_2 < (t420.length : Int)) = true := decide_eq_true c8
       clear c8
       by_cases c9 : t421 = true
       ·subst c9
        have H1 : (if 0 ≤ x14_2 then (if 0 ≤ x8_1 then (if x8_1 < (l2.length : Int) then (if ((rd_T63 t420 x14_2).f0).toList = (rdOf ByteArray.empty l2 x8_1).toList then (spec_l9Walk.l0 k2 l0 ((rd_T63 t420 x14_2).f1) l2 (wrap64 (x8_1 + 1))) else (spec_l9Walk.l1 k2 l0 x1_2 l2 x8_1 t420 true x13_2 (wrap64 (x14_2 + 1)))) else (none)) else (none)) else (none)) = some (r1, r2) := by rw [if_pos rfl] at H; exact H
        clear H
        have H := H1
        clear H1
        by_cases c10 : 0 ≤ x14_2
        ·rw [if_pos c10] at H
         have c10b0 : decide (0 ≤ x14_2) = true := decide_eq_true c10
         clear c10
         by_cases c11 : 0 ≤ x8_1
         ·rw [if_pos c11] at H
          have c11b0 : decide (0 ≤ x8_1) = true := decide_eq_true c11
          clear c11
          by_cases c12 : x8_1 < (l2.length : Int)
          ·rw [if_pos c12] at H
           have c12b0 : decide (x8_1 < (l2.length : Int)) = true := decide_eq_true c12
           clear c12
           by_cases c13 : ((rd_T63 t420 x14_2).f0).toList = (rdOf ByteArray.empty l2 x8_1).toList
           ·rw [if_pos c13] at H
            have c13b0 : (((rd_T63 t420 x14_2).f0).toList == (rdOf ByteArray.empty l2 x8_1).toList) = true := beq_iff_eq.mpr c13
            have c13b1 : (((rd_T63 t420 x14_2).f0).toList != (rdOf ByteArray.empty l2 x8_1).toList) = false := bne_eq_false_iff_eq.mpr c13
            clear c13
            have H' := Aside0.mk H
            clear H
            obtain ⟨Ao14, co14, eo14⟩ := Kd.R_slice HO_11.out
            subst eo14
            have p424 : 0 ≤ (x14_2 : Int) := of_decide_eq_true ma_
            have q424 : x14_2 < (t420.length : Int) := of_decide_eq_true ma_
            obtain ⟨ad424, e424, hx424_0, hx424_1⟩ := at_T63 (Kd.R_reads' HO_11.out).2.2 x14_2 p424 q424
            cases e424
            replace p424 := eq_true p424
            replace q424 := eq_true q424
            have p425 : 0 ≤ (x8_1 : Int) := of_decide_eq_true ma_
            have q425 : x8_1 < (l2.length : Int) := of_decide_eq_true ma_
            obtain ⟨ad425, e425, hx425_0⟩ := Kd.at_string HR2.out x8_1 p425 q425
            cases e425
            replace hx425_0 := (HB.out.cell (World.block_lt_of_cell? w _ hx425_0)).trans hx425_0
            replace p425 := eq_true p425
            replace q425 := eq_true q425
            have p426 : 0 ≤ (x14_2 : Int) := of_decide_eq_true ma_
            have q426 : x14_2 < (t420.length : Int) := of_decide_eq_true ma_
            obtain ⟨ad426, e426, hx426_0, hx426_1⟩ := at_T63 (Kd.R_reads' HO_11.out).2.2 x14_2 p426 q426
            obtain rfl : ad424 = ad426 := (by injection e426)
            replace p426 := eq_true p426
            replace q426 := eq_true q426
            go_wp2
            repeat (go_quiet (fail); try go_wp2)
            go_roundg k2
            case measure => have := HK1.out; have := HK2.out; omega
            case rel => exact ⟨((rd_T63 t420 x14_2).f1), (wrap64 (x8_1 + 1)), (by first | rfl | (simp; done) | (simp [*]; done)), (by first | rfl | (simp; done) | (simp [*]; done)), H', ⟨by have := HK1.out; have := HK2.out; omega⟩, ⟨hb_⟩⟩
           ·rw [if_neg c13] at H
            have c13b0 : (((rd_T63 t420 x14_2).f0).toList == (rdOf ByteArray.empty l2 x8_1).toList) = false := beq_eq_false_iff_ne.mpr c13
            have c13b1 : (((rd_T63 t420 x14_2).f0).toList != (rdOf ByteArray.empty l2 x8_1).toList) = true := bne_iff_ne.mpr c13
            have H' := Aside0.mk H
            clear H
            obtain ⟨Ao15, co15, eo15⟩ := Kd.R_slice HO_11.out
            subst eo15
            have p424 : 0 ≤ (x14_2 : Int) := of_decide_eq_true ma_
            have q424 : x14_2 < (t420.length : Int) := of_decide_eq_true ma_
            obtain ⟨ad424, e424, hx424_0, hx424_1⟩ := at_T63 (Kd.R_reads' HO_11.out).2.2 x14_2 p424 q424
            cases e424
            replace p424 := eq_true p424
            replace q424 := eq_true q424
            have p425 : 0 ≤ (x8_1 : Int) := of_decide_eq_true ma_
            have q425 : x8_1 < (l2.length : Int) := of_decide_eq_true ma_
            obtain ⟨ad425, e425, hx425_0⟩ := Kd.at_string HR2.out x8_1 p425 q425
            cases e425
            replace hx425_0 := (HB.out.cell (World.block_lt_of_cell? w _ hx425_0)).trans hx425_0
            replace p425 := eq_true p425
            replace q425 := eq_true q425
            go_wp2
            repeat (go_quiet (fail); try go_wp2)
            go_roundg k2
            case measure => have := HK1.out; have := HK2.out; omega
            case rel => exact ⟨(x1_2), (x13_2), (wrap64 (x14_2 + 1)), (by first | rfl | (simp; done) | (simp [*]; done)), (by first | rfl | (simp; done) | (simp [*]; done)), (by first | rfl | (simp; done) | (simp [*]; done)), H', ⟨by have := HK1.out; have := HK2.out; omega⟩, ⟨by (with_reducible repeat (first | apply Kd.R_alloc | apply Kd.R_drewN | apply Kd.R_drew)); exact HO_11.out⟩, ⟨hb_⟩⟩
          ·rw [if_neg c12] at H
           exact absurd H (by simp)
         ·rw [if_neg c11] at H
          exact absurd H (by simp)
        ·rw [if_neg c10] at H
         exact absurd H (by simp)
       ·replace c9 := Bool.eq_false_iff.mpr c9
        subst c9
        have H1 : (spec_l9Walk.l1 k2 l0 x1_2 l2 x8_1 t420 false x13_2 (wrap64 (x14_2 + 1))) = some (r1, r2) := by rw [if_neg (show ¬ (false = true) by decide)] at H; exact H
        clear H
        have H := H1
        clear H1
        have H' := Aside0.mk H
        clear H
        obtain ⟨Ao16, co16, eo16⟩ := Kd.R_slice HO_11.out
        subst eo16
        go_wp2
        repeat (go_quiet (fail); try go_wp2)
        go_roundg k2
        case measure => have := HK1.out; have := HK2.out; omega
        case rel => exact ⟨(x1_2), (x13_2), (wrap64 (x14_2 + 1)), (by first | rfl | (simp; done) | (simp [*]; done)), (by first | rfl | (simp; done) | (simp [*]; done)), (by first | rfl | (simp; done) | (simp [*]; done)), H', ⟨by have := HK1.out; have := HK2.out; omega⟩, ⟨by (with_reducible repeat (first | apply Kd.R_alloc | apply Kd.R_drewN | apply Kd.R_drew)); exact HO_11.out⟩, ⟨hb_⟩⟩
      ·rw [if_neg c8] at H
       have c8b0 : decide (x14_2 < (t420.length : Int)) = false := decide_eq_false c8
       clear c8
       by_cases c17 : x13_2 = true
       ·subst c17
        have H1 : (spec_l9Walk.l0 k2 l0 x1_2 l2 (wrap64 (x8_1 + 1))) = some (r1, r2) := by rw [if_pos rfl] at H; exact H
        clear H
        have H := H1
        clear H1
        have H' := Aside0.mk H
        clear H
        obtain ⟨Ao18, co18, eo18⟩ := Kd.R_slice HO_11.out
        subst eo18
        go_wp2
        repeat (go_quiet (fail); try go_wp2)
        go_roundg k2
        case measure => have := HK1.out; have := HK2.out; omega
        case rel => exact ⟨(x1_2), (wrap64 (x8_1 + 1)), (by first | rfl | (simp; done) | (simp [*]; done)), (by first | rfl | (simp; done) | (simp [*]; done)), H', ⟨by have := HK1.out; have := HK2.out; omega⟩, ⟨hb_⟩⟩
       ·replace c17 := Bool.eq_false_iff.mpr c17
        subst c17
        have H1 : (some ((-1), false)) = some (r1, r2) := by rw [if_neg (show ¬ (false = true) by decide)] at H; exact H
        clear H
        have H := H1
        clear H1
        simp only [Option.some.injEq, Prod.mk.injEq] at H
        obtain ⟨rfl, rfl⟩ := H
        obtain ⟨Ao19, co19, eo19⟩ := Kd.R_slice HO_11.out
        subst eo19
        go_wp2
        repeat (go_quiet (fail); try go_wp2)
        go_ret2
        exact ⟨er_, hb_⟩
   ·rw [if_neg c4] at H
    have c4b0 : decide (x8_1 < (l2.length : Int)) = false := decide_eq_false c4
    clear c4
    replace H := Option.bind_eq_some_iff.mp H
    obtain ⟨⟨t427, t428⟩, A200, H⟩ := H
    replace H : (if t428 = true then (some (x1_1, true)) else (some ((-1), false))) = some (r1, r2) := H
    have A20 := Aside0.mk A200
    clear A200
    by_cases c21 : t428 = true
    ·subst c21
     have H1 : (some (x1_1, true)) = some (r1, r2) := by rw [if_pos rfl] at H; exact H
     clear H
     have H := H1
     clear H1
     simp only [Option.some.injEq, Prod.mk.injEq] at H
     obtain ⟨rfl, rfl⟩ := H
     go_wp2_with (first | (go_at_call 74; (with_reducible refine (spec_l4Get.calls k1 _ _ l0 x1_1 t427 true _ ?side1 ?side2 A20.out).mono ?_); (case side1 => exact kC_ (Kd.C_below HR0.out HB.out)); (case side2 => exact HC0.out); rintro e w' ⟨rfl, ⟨nd, rfl⟩⟩; (try first | exact ⟨rfl, _, World.drewN_drewN _ _ _⟩ | exact ⟨rfl, _, Eq.trans (World.drewN_drewN _ _ _) (congrArg (World.drewN _) (Nat.add_assoc _ _ _))⟩)))
     repeat (go_quiet (first | (go_at_call 74; (with_reducible refine (spec_l4Get.calls k1 _ _ l0 x1_1 t427 true _ ?side1 ?side2 A20.out).mono ?_); (case side1 => exact kC_ (Kd.C_below HR0.out HB.out)); (case side2 => exact HC0.out); rintro e w' ⟨rfl, ⟨nd, rfl⟩⟩; (try first | exact ⟨rfl, _, World.drewN_drewN _ _ _⟩ | exact ⟨rfl, _, Eq.trans (World.drewN_drewN _ _ _) (congrArg (World.drewN _) (Nat.add_assoc _ _ _))⟩))); try go_wp2_with (first | (go_at_call 74; (with_reducible refine (spec_l4Get.calls k1 _ _ l0 x1_1 t427 true _ ?side1 ?side2 A20.out).mono ?_); (case side1 => exact kC_ (Kd.C_below HR0.out HB.out)); (case side2 => exact HC0.out); rintro e w' ⟨rfl, ⟨nd, rfl⟩⟩; (try first | exact ⟨rfl, _, World.drewN_drewN _ _ _⟩ | exact ⟨rfl, _, Eq.trans (World.drewN_drewN _ _ _) (congrArg (World.drewN _) (Nat.add_assoc _ _ _))⟩))))
     go_ret2
     exact ⟨er_, hb_⟩
    ·replace c21 := Bool.eq_false_iff.mpr c21
     subst c21
     have H1 : (some ((-1), false)) = some (r1, r2) := by rw [if_neg (show ¬ (false = true) by decide)] at H; exact H
     clear H
     have H := H1
     clear H1
     simp only [Option.some.injEq, Prod.mk.injEq] at H
     obtain ⟨rfl, rfl⟩ := H
     go_wp2_with (first | (go_at_call 74; (with_reducible refine (spec_l4Get.calls k1 _ _ l0 x1_1 t427 false _ ?side1 ?side2 A20.out).mono ?_); (case side1 => exact kC_ (Kd.C_below HR0.out HB.out)); (case side2 => exact HC0.out); rintro e w' ⟨rfl, ⟨nd, rfl⟩⟩; (try first | exact ⟨rfl, _, World.drewN_drewN _ _ _⟩ | exact ⟨rfl, _, Eq.trans (World.drewN_drewN _ _ _) (congrArg (World.drewN _) (Nat.add_assoc _ _ _))⟩)))
     repeat (go_quiet (first | (go_at_call 74; (with_reducible refine (spec_l4Get.calls k1 _ _ l0 x1_1 t427 false _ ?side1 ?side2 A20.out).mono ?_); (case side1 => exact kC_ (Kd.C_below HR0.out HB.out)); (case side2 => exact HC0.out); rintro e w' ⟨rfl, ⟨nd, rfl⟩⟩; (try first | exact ⟨rfl, _, World.drewN_drewN _ _ _⟩ | exact ⟨rfl, _, Eq.trans (World.drewN_drewN _ _ _) (congrArg (World.drewN _) (Nat.add_assoc _ _ _))⟩))); try go_wp2_with (first | (go_at_call 74; (with_reducible refine (spec_l4Get.calls k1 _ _ l0 x1_1 t427 false _ ?side1 ?side2 A20.out).mono ?_); (case side1 => exact kC_ (Kd.C_below HR0.out HB.out)); (case side2 => exact HC0.out); rintro e w' ⟨rfl, ⟨nd, rfl⟩⟩; (try first | exact ⟨rfl, _, World.drewN_drewN _ _ _⟩ | exact ⟨rfl, _, Eq.trans (World.drewN_drewN _ _ _) (congrArg (World.drewN _) (Nat.add_assoc _ _ _))⟩))))
     go_ret2
     exact ⟨er_, hb_⟩
/-! ### spec_WalkTo: function 72 -/
def spec_WalkTo.f (k : Nat) (l0 : List (S58)) (a1 : Int) (a2 : ByteArray) : Option (Int × Bool) := (spec_PathParts.f k a2).bind fun bt1035 => (if bt1035.2 = true then ((spec_StoreValid.f k l0).bind fun t1039 => (if t1039 = true then ((spec_l9Walk.f k l0 a1 bt1035.1).bind fun bt1040 => (some (bt1040.1, bt1040.2))) else (some ((-1), false)))) else (some ((-1), false)))
theorem spec_WalkTo.mono : ∀ a0 a1 a2 k, LeO (spec_WalkTo.f k a0 a1 a2) (spec_WalkTo.f (k + 1) a0 a1 a2) := by
 intro a0 a1 a2 k
 unfold spec_WalkTo.f
 repeat' first
   | (with_reducible exact spec_PathParts.mono _ _)
   | (with_reducible exact spec_StoreValid.mono _ _)
   | (with_reducible exact spec_l9Walk.mono _ _ _ _)
   | (with_reducible exact LeO.refl _)
   | (with_reducible exact LeO.none _)
   | (with_reducible refine LeO.ite ?_ ?_)
   | (with_reducible refine LeO.bind ?_ (fun _ => ?_))
   | exact spec_PathParts.mono _ _
   | exact spec_StoreValid.mono _ _
   | exact spec_l9Walk.mono _ _ _ _
   | exact LeO.none _
   | refine LeO.ite ?_ ?_
   | refine LeO.bind ?_ (fun _ => ?_)
set_option maxHeartbeats 8000000 in
set_option maxRecDepth 100000 in
theorem spec_WalkTo.calls (k : Nat) (A0 : Option Addr) (c0 : Nat) (l0 : List (S58)) (a1 : Int) (a2 : ByteArray) (r1 : Int) (r2 : Bool) (w : World) (hr0 : Kd.C k58 w A0 l0.length l0) (hc0 : l0.length ≤ c0) (h : spec_WalkTo.f k l0 a1 a2 = some (r1, r2)) :
  Calls Tryd.prog 72 #[.slice A0 l0.length c0, .int .i64 a1, .string a2] w fun e w' => e = .returned (.tuple #[.int .i64 r1, .bool r2]) ∧ Below w.heap.size w w' := by
 have HR0 := Aside0.mk hr0
 have HC0 := Aside0.mk hc0
 clear hr0 hc0
 have HB := Aside0.mk (Below.refl w.heap.size w)
 have H : ((spec_PathParts.f k a2).bind fun bt1035 => (if bt1035.2 = true then ((spec_StoreValid.f k l0).bind fun t1039 => (if t1039 = true then ((spec_l9Walk.f k l0 a1 bt1035.1).bind fun bt1040 => (some (bt1040.1, bt1040.2))) else (some ((-1), false)))) else (some ((-1), false)))) = some (r1, r2) := h
 clear h
 replace H := Option.bind_eq_some_iff.mp H
 obtain ⟨⟨t1035, t1036⟩, A40, H⟩ := H
 replace H : (if t1036 = true then ((spec_StoreValid.f k l0).bind fun t1039 => (if t1039 = true then ((spec_l9Walk.f k l0 a1 t1035).bind fun bt1040 => (some (bt1040.1, bt1040.2))) else (some ((-1), false)))) else (some ((-1), false))) = some (r1, r2) := H
 have A4 := Aside0.mk A40
 clear A40
 by_cases c5 : t1036 = true
 ·subst c5
  have H1 : ((spec_StoreValid.f k l0).bind fun t1039 => (if t1039 = true then ((spec_l9Walk.f k l0 a1 t1035).bind fun bt1040 => (some (bt1040.1, bt1040.2))) else (some ((-1), false)))) = some (r1, r2) := by rw [if_pos rfl] at H; exact H
  clear H
  have H := H1
  clear H1
  replace H := Option.bind_eq_some_iff.mp H
  obtain ⟨t1039, A60, H⟩ := H
  replace H : (if t1039 = true then ((spec_l9Walk.f k l0 a1 t1035).bind fun bt1040 => (some (bt1040.1, bt1040.2))) else (some ((-1), false))) = some (r1, r2) := H
  have A6 := Aside0.mk A60
  clear A60
  by_cases c7 : t1039 = true
  ·subst c7
   have H1 : ((spec_l9Walk.f k l0 a1 t1035).bind fun bt1040 => (some (bt1040.1, bt1040.2))) = some (r1, r2) := by rw [if_pos rfl] at H; exact H
   clear H
   have H := H1
   clear H1
   replace H := Option.bind_eq_some_iff.mp H
   obtain ⟨⟨t1040, t1041⟩, A80, H⟩ := H
   replace H : (some (t1040, t1041)) = some (r1, r2) := H
   have A8 := Aside0.mk A80
   clear A80
   simp only [Option.some.injEq, Prod.mk.injEq] at H
   obtain ⟨rfl, rfl⟩ := H
   go_enter Tryd.func72, Tryd.ntmps72
   go_wp2_with (first | ((with_reducible refine gate_callee (f := 63) rfl ?_); refine goesL_ (some 12) rfl rfl Tryd.func63 (by kernel_rfl) rfl #[.string a2] rfl sl_ ?_; (with_reducible refine (spec_PathParts.calls k a2 t1035 true _ A4.out).mono ?_); rintro e w9 ⟨v1037, rfl, ho0, hb⟩; refine ⟨_, rfl, ?_⟩; have HO1038 := Aside0.mk (Kd.R_lower ho0 (below_size hb_)); replace HB := Aside0.mk (below_step hb_ hb); (try clear hb); (try clear ho0)) | (go_at_call 49; (with_reducible refine (spec_StoreValid.calls k _ _ l0 true _ ?side1 ?side2 A6.out).mono ?_); (case side1 => exact kC_ (Kd.C_below HR0.out HB.out)); (case side2 => exact HC0.out); rintro e w10 ⟨rfl, hb⟩; replace HO1038 := Aside0.mk (Kd.R_below (kR_ HO1038.out) hb); replace HB := Aside0.mk (below_step hb_ hb); (try clear hb); obtain ⟨Ao11, co11, eo11⟩ := Kd.R_slice HO1038.out; subst eo11) | ((with_reducible refine gate_callee (f := 73) rfl ?_); refine goesL_ (some 25) rfl rfl Tryd.func73 (by kernel_rfl) rfl #[.slice A0 l0.length c0, .int .i64 a1, .slice Ao11 t1035.length co11] rfl sl_ ?_; (with_reducible refine (spec_l9Walk.calls k _ _ l0 a1 _ _ t1035 t1040 t1041 _ ?side1 ?side2 ?side3 ?side4 A8.out).mono ?_); (case side1 => exact kC_ (Kd.C_below HR0.out HB.out)); (case side2 => exact HC0.out); (case side3 => exact kC_ ((Kd.R_reads' HO1038.out).2.2)); (case side4 => exact (Kd.R_reads' HO1038.out).2.1); rintro e w12 ⟨rfl, hb⟩; refine ⟨_, rfl, ?_⟩; replace HO1038 := Aside0.mk (Kd.R_below (kR_ HO1038.out) hb); replace HB := Aside0.mk (below_step hb_ hb); (try clear hb)))
   go_ret2
   exact ⟨er_, hb_⟩
  ·replace c7 := Bool.eq_false_iff.mpr c7
   subst c7
   have H1 : (some ((-1), false)) = some (r1, r2) := by rw [if_neg (show ¬ (false = true) by decide)] at H; exact H
   clear H
   have H := H1
   clear H1
   simp only [Option.some.injEq, Prod.mk.injEq] at H
   obtain ⟨rfl, rfl⟩ := H
   go_enter Tryd.func72, Tryd.ntmps72
   go_wp2_with (first | ((with_reducible refine gate_callee (f := 63) rfl ?_); refine goesL_ (some 12) rfl rfl Tryd.func63 (by kernel_rfl) rfl #[.string a2] rfl sl_ ?_; (with_reducible refine (spec_PathParts.calls k a2 t1035 true _ A4.out).mono ?_); rintro e w13 ⟨v1037, rfl, ho0, hb⟩; refine ⟨_, rfl, ?_⟩; have HO1038 := Aside0.mk (Kd.R_lower ho0 (below_size hb_)); replace HB := Aside0.mk (below_step hb_ hb); (try clear hb); (try clear ho0)) | (go_at_call 49; (with_reducible refine (spec_StoreValid.calls k _ _ l0 false _ ?side1 ?side2 A6.out).mono ?_); (case side1 => exact kC_ (Kd.C_below HR0.out HB.out)); (case side2 => exact HC0.out); rintro e w14 ⟨rfl, hb⟩; replace HO1038 := Aside0.mk (Kd.R_below (kR_ HO1038.out) hb); replace HB := Aside0.mk (below_step hb_ hb); (try clear hb)))
   go_ret2
   exact ⟨er_, hb_⟩
 ·replace c5 := Bool.eq_false_iff.mpr c5
  subst c5
  have H1 : (some ((-1), false)) = some (r1, r2) := by rw [if_neg (show ¬ (false = true) by decide)] at H; exact H
  clear H
  have H := H1
  clear H1
  simp only [Option.some.injEq, Prod.mk.injEq] at H
  obtain ⟨rfl, rfl⟩ := H
  go_enter Tryd.func72, Tryd.ntmps72
  go_wp2_with (first | ((with_reducible refine gate_callee (f := 63) rfl ?_); refine goesL_ (some 12) rfl rfl Tryd.func63 (by kernel_rfl) rfl #[.string a2] rfl sl_ ?_; (with_reducible refine (spec_PathParts.calls k a2 t1035 false _ A4.out).mono ?_); rintro e w15 ⟨v1037, rfl, ho0, hb⟩; refine ⟨_, rfl, ?_⟩; have HO1038 := Aside0.mk (Kd.R_lower ho0 (below_size hb_)); replace HB := Aside0.mk (below_step hb_ hb); (try clear hb); (try clear ho0)))
  go_ret2
  exact ⟨er_, hb_⟩
/-! ### spec_PathProof: function 46 -/
mutual
def spec_PathProof.l0 : Nat → List (S58) → Int → List ByteArray → List ByteArray → Bool → Int → Option (List ByteArray)
 | 0, _, _, _, _, _, _ => none
 | k + 1, x0, x1, x7, x8, x11, x12 => if x12 ≤ (x8.length : Int) then (spec_PathProof.j1 k x0 x1 x7 x8 x11 x12 x11) else (spec_PathProof.j1 k x0 x1 x7 x8 x11 x12 false)
def spec_PathProof.j1 : Nat → List (S58) → Int → List ByteArray → List ByteArray → Bool → Int → Bool → Option (List ByteArray)
 | 0, _, _, _, _, _, _, _ => none
 | k + 1, x0, x1, x7, x8, x11, x12, x36 => if x36 = true then (if 0 ≤ x12 then (if x12 ≤ (x8.length : Int) then ((spec_l9Walk.f k x0 x1 (x8.take (x12 : Int).toNat)).bind fun bt1055 => ((spec_l4Get.f k x0 bt1055.1).bind fun bt1057 => (if x7.length < 8796093022208 then (spec_PathProof.l0 k x0 x1 (x7 ++ [bt1057.1]) x8 x11 (wrap64 (x12 + 1))) else (none)))) else (none)) else (none)) else (some x7)
end
def spec_PathProof.f (k : Nat) (l0 : List (S58)) (a1 : Int) (a2 : ByteArray) : Option (List ByteArray) := (spec_PathParts.f k a2).bind fun bt1045 => ((spec_WalkTo.f k l0 a1 a2).bind fun bt1049 => (spec_PathProof.l0 k l0 a1 (([] : List ByteArray)) bt1045.1 bt1049.2 0))
theorem spec_PathProof.mono_l : ∀ k, (∀ y0 y1 y2 y3 y4 y5, LeO (spec_PathProof.l0 k y0 y1 y2 y3 y4 y5) (spec_PathProof.l0 (k + 1) y0 y1 y2 y3 y4 y5)) ∧ (∀ y0 y1 y2 y3 y4 y5 y6, LeO (spec_PathProof.j1 k y0 y1 y2 y3 y4 y5 y6) (spec_PathProof.j1 (k + 1) y0 y1 y2 y3 y4 y5 y6))
 | 0 => ⟨fun _ _ _ _ _ _ r h => by simp [spec_PathProof.l0] at h, fun _ _ _ _ _ _ _ r h => by simp [spec_PathProof.j1] at h⟩
 | k + 1 => by
  obtain ⟨ih0, ih1⟩ := spec_PathProof.mono_l k
  refine ⟨?_, ?_⟩
  ·intro y0 y1 y2 y3 y4 y5
   unfold spec_PathProof.l0
   repeat' first
   | (with_reducible exact ih0 _ _ _ _ _ _)
   | (with_reducible exact ih1 _ _ _ _ _ _ _)
   | (with_reducible exact spec_PathParts.mono _ _)
   | (with_reducible exact spec_WalkTo.mono _ _ _ _)
   | (with_reducible exact spec_l4Get.mono _ _ _)
   | (with_reducible exact spec_l9Walk.mono _ _ _ _)
   | (with_reducible exact LeO.refl _)
   | (with_reducible exact LeO.none _)
   | (with_reducible refine LeO.ite ?_ ?_)
   | (with_reducible refine LeO.bind ?_ (fun _ => ?_))
   | exact ih0 _ _ _ _ _ _
   | exact ih1 _ _ _ _ _ _ _
   | exact spec_PathParts.mono _ _
   | exact spec_WalkTo.mono _ _ _ _
   | exact spec_l4Get.mono _ _ _
   | exact spec_l9Walk.mono _ _ _ _
   | exact LeO.none _
   | refine LeO.ite ?_ ?_
   | refine LeO.bind ?_ (fun _ => ?_)
  ·intro y0 y1 y2 y3 y4 y5 y6
   unfold spec_PathProof.j1
   repeat' first
   | (with_reducible exact ih0 _ _ _ _ _ _)
   | (with_reducible exact ih1 _ _ _ _ _ _ _)
   | (with_reducible exact spec_PathParts.mono _ _)
   | (with_reducible exact spec_WalkTo.mono _ _ _ _)
   | (with_reducible exact spec_l4Get.mono _ _ _)
   | (with_reducible exact spec_l9Walk.mono _ _ _ _)
   | (with_reducible exact LeO.refl _)
   | (with_reducible exact LeO.none _)
   | (with_reducible refine LeO.ite ?_ ?_)
   | (with_reducible refine LeO.bind ?_ (fun _ => ?_))
   | exact ih0 _ _ _ _ _ _
   | exact ih1 _ _ _ _ _ _ _
   | exact spec_PathParts.mono _ _
   | exact spec_WalkTo.mono _ _ _ _
   | exact spec_l4Get.mono _ _ _
   | exact spec_l9Walk.mono _ _ _ _
   | exact LeO.none _
   | refine LeO.ite ?_ ?_
   | refine LeO.bind ?_ (fun _ => ?_)
theorem spec_PathProof.mono : ∀ a0 a1 a2 k, LeO (spec_PathProof.f k a0 a1 a2) (spec_PathProof.f (k + 1) a0 a1 a2) := by
 intro a0 a1 a2 k
 obtain ⟨ih0, ih1⟩ := spec_PathProof.mono_l k
 unfold spec_PathProof.f
 repeat' first
   | (with_reducible exact ih0 _ _ _ _ _ _)
   | (with_reducible exact ih1 _ _ _ _ _ _ _)
   | (with_reducible exact spec_PathParts.mono _ _)
   | (with_reducible exact spec_WalkTo.mono _ _ _ _)
   | (with_reducible exact spec_l4Get.mono _ _ _)
   | (with_reducible exact spec_l9Walk.mono _ _ _ _)
   | (with_reducible exact LeO.refl _)
   | (with_reducible exact LeO.none _)
   | (with_reducible refine LeO.ite ?_ ?_)
   | (with_reducible refine LeO.bind ?_ (fun _ => ?_))
   | exact ih0 _ _ _ _ _ _
   | exact ih1 _ _ _ _ _ _ _
   | exact spec_PathParts.mono _ _
   | exact spec_WalkTo.mono _ _ _ _
   | exact spec_l4Get.mono _ _ _
   | exact spec_l9Walk.mono _ _ _ _
   | exact LeO.none _
   | refine LeO.ite ?_ ?_
   | refine LeO.bind ?_ (fun _ => ?_)
set_option maxHeartbeats 8000000 in
set_option maxRecDepth 100000 in
theorem spec_PathProof.calls (k : Nat) (A0 : Option Addr) (c0 : Nat) (l0 : List (S58)) (a1 : Int) (a2 : ByteArray) (r : List ByteArray) (w : World) (hr0 : Kd.C k58 w A0 l0.length l0) (hc0 : l0.length ≤ c0) (h : spec_PathProof.f k l0 a1 a2 = some r) :
  Calls Tryd.prog 46 #[.slice A0 l0.length c0, .int .i64 a1, .string a2] w fun e w' => ∃ v0_ : Value, e = .returned (v0_) ∧ Kd.R Kd.string 9 w' w.heap.size (fun _ => True) v0_ r ∧ Below w.heap.size w w' := by
 have HR0 := Aside0.mk hr0
 have HC0 := Aside0.mk hc0
 clear hr0 hc0
 have HB := Aside0.mk (Below.refl w.heap.size w)
 have H : ((spec_PathParts.f k a2).bind fun bt1045 => ((spec_WalkTo.f k l0 a1 a2).bind fun bt1049 => (spec_PathProof.l0 k l0 a1 (([] : List ByteArray)) bt1045.1 bt1049.2 0))) = some r := h
 clear h
 obtain ⟨y1042, hy1042⟩ : ∃ y_ : List ByteArray, y_ = (([] : List ByteArray)) := ⟨_, rfl⟩
 replace H : ((spec_PathParts.f k a2).bind fun bt1045 => ((spec_WalkTo.f k l0 a1 a2).bind fun bt1049 => (spec_PathProof.l0 k l0 a1 y1042 bt1045.1 bt1049.2 0))) = some r := by first | (rw [hy1042]; with_reducible exact H) | (have H2_ := (Option.bind_some _ _).symm.trans H; rw [hy1042]; with_reducible exact H2_) | (have H2_ := (Option.bind_some _ _).symm.trans H; with_reducible exact H2_) | with_reducible exact H | (rw [hy1042]; exact H) | exact H
 have Ny1042 := Aside0.mk hy1042
 clear hy1042
 replace H := Option.bind_eq_some_iff.mp H
 obtain ⟨⟨t1045, t1046⟩, A40, H⟩ := H
 replace H : ((spec_WalkTo.f k l0 a1 a2).bind fun bt1049 => (spec_PathProof.l0 k l0 a1 y1042 t1045 bt1049.2 0)) = some r := H
 have A4 := Aside0.mk A40
 clear A40
 replace H := Option.bind_eq_some_iff.mp H
 obtain ⟨⟨t1049, t1050⟩, A50, H⟩ := H
 replace H : (spec_PathProof.l0 k l0 a1 y1042 t1045 t1050 0) = some r := H
 have A5 := Aside0.mk A50
 clear A50
 have H' := Aside0.mk H
 clear H
 go_enter Tryd.func46, Tryd.ntmps46
 go_wp2_with (first | ((with_reducible refine gate_dst (N := 17) rfl ?_); refine Kd.R_lit Kd.string _ 9 ?hg (N := 17) ?hd (xs := ([] : List ByteArray)) (inner := []) (ok := fun _ => True) (okp := fun _ => True) ?hr ?hp (fun _ hk => hk) trivial (Below.refl _ _) (Nat.le_refl _) (by simp) ?_; (case hd => rfl); (case hg => rfl); (case hr => first | (go_simp; done) | (go_simp; rfl)); (case hp => exact (Reps.none _ _)); intro v1043 w6 ho7 hb hg_ hnew_; clear hg_ hnew_; (first | rw [← Ny1042.out] at ho7 | (simp only [Int.reduceToNat] at ho7; rw [← Ny1042.out] at ho7)); have HO1044 := Aside0.mk (Kd.R_lower ho7 (below_size hb_)); replace HB := Aside0.mk (below_step hb_ hb); clear hb ho7) | ((with_reducible refine gate_callee (f := 63) rfl ?_); refine goesL_ (some 20) rfl rfl Tryd.func63 (by kernel_rfl) rfl #[.string a2] rfl sl_ ?_; (with_reducible refine (spec_PathParts.calls k a2 t1045 t1046 _ A4.out).mono ?_); rintro e w8 ⟨v1047, rfl, ho0, hb⟩; refine ⟨_, rfl, ?_⟩; have HO1048 := Aside0.mk (Kd.R_lower (Kd.R_new' ho0 (Kd.R_lt (kR_ HO1044.out))) (below_size hb_)); replace HO1044 := Aside0.mk (Kd.R_elder' (kR_ HO1044.out) (Kd.R_base ho0) hb); replace HB := Aside0.mk (below_step hb_ hb); (try clear hb); (try clear hk); (try clear ho0)) | ((with_reducible refine gate_callee (f := 72) rfl ?_); refine goesL_ (some 27) rfl rfl Tryd.func72 (by kernel_rfl) rfl #[.slice A0 l0.length c0, .int .i64 a1, .string a2] rfl sl_ ?_; (with_reducible refine (spec_WalkTo.calls k _ _ l0 a1 a2 t1049 t1050 _ ?side1 ?side2 A5.out).mono ?_); (case side1 => exact kC_ (Kd.C_below HR0.out HB.out)); (case side2 => exact HC0.out); rintro e w9 ⟨rfl, hb⟩; refine ⟨_, rfl, ?_⟩; replace HO1044 := Aside0.mk (Kd.R_below (kR_ HO1044.out) hb); replace HO1048 := Aside0.mk (Kd.R_below (kR_ HO1048.out) hb); replace HB := Aside0.mk (below_step hb_ hb); (try clear hb); (try clear hk)))
 go_loopg [7, 12] k (fun kq v7 v12 w' => ∃ (x7_1 : List ByteArray) (x12_1 : Int), v12 = .int .i64 x12_1 ∧ Aside0 (spec_PathProof.l0 kq l0 a1 x7_1 t1045 t1050 x12_1 = some r) ∧ Aside0 (kq ≤ k) ∧ Aside0 (Kd.R Kd.string 9 w' w.heap.size (fun k_ => some k_ ≠ (v1047 : Value).ownBlock) v7 x7_1) ∧ Aside0 (Kd.R Kd.string 9 w' w.heap.size (fun k_ => some k_ ≠ (v7 : Value).ownBlock) v1047 t1045) ∧ Aside0 (Below w.heap.size w w'))
 case atStart => exact ⟨(y1042), (0), (by first | rfl | (simp; done) | (simp [*]; done)), H', ⟨Nat.le_refl _⟩, ⟨by (with_reducible repeat (first | apply Kd.R_alloc | apply Kd.R_drewN | apply Kd.R_drew)); exact Kd.R_mono HO1044.out (fun _ hk => hk.2)⟩, ⟨by (with_reducible repeat (first | apply Kd.R_alloc | apply Kd.R_drewN | apply Kd.R_drew)); exact Kd.R_mono HO1048.out (fun _ hk => hk.2)⟩, ⟨hb_⟩⟩
 case round =>
  clear H'
  try clear p2
  try clear c4
  try clear c6
  try clear c7
  obtain ⟨x7_1, x12_1, rfl, HA, HK1, HO_7, HO_8, HB⟩ := hrel
  cases gk with
  | zero => exact absurd HA.out (by simp [spec_PathProof.l0])
  | succ k1 =>
   have H := HA.out
   clear HA
   simp only [spec_PathProof.l0] at H
   have HC10 := Aside0.mk H
   clear H
   go_upto_region 5 with (fail)
   go_cut [36] (fun v36 wc => ∃ (kq : Nat) (x36_9 : Bool), v36 = .bool x36_9 ∧ Aside0 (spec_PathProof.j1 kq l0 a1 x7_1 t1045 t1050 x12_1 x36_9 = some r) ∧ Aside0 (kq ≤ k1) ∧ Aside0 (Kd.R Kd.string 9 wc w.heap.size (fun k_ => some k_ ≠ (v1047 : Value).ownBlock) u7 x7_1) ∧ Aside0 (Kd.R Kd.string 9 wc w.heap.size (fun k_ => some k_ ≠ (u7 : Value).ownBlock) v1047 t1045) ∧ Aside0 (Below w.heap.size w wc))
   case first =>
    have H := HC10.out
    clear HC10
    by_cases c11 : x12_1 ≤ (t1045.length : Int)
    ·rw [if_pos c11] at H
     have c11b0 : decide (x12_1 ≤ (t1045.length : Int)) = true := decide_eq_true c11
     clear c11
     (first | rw [c11b0] | (simp only [i64_w, i32_w]; rw [c11b0]) | skip)
     have H' := Aside0.mk H
     clear H
     obtain ⟨Ao12, co12, eo12⟩ := Kd.R_slice HO_8.out
     subst eo12
     go_wp2
     go_meet
     case rel => exact ⟨_, (t1050), (by first | rfl | (simp; done) | (simp [*]; done)), H', ⟨by have := HK1.out; first | omega | exact Nat.le_refl _⟩, ⟨by (with_reducible repeat (first | apply Kd.R_alloc | apply Kd.R_drewN | apply Kd.R_drew)); exact HO_7.out⟩, ⟨by (with_reducible repeat (first | apply Kd.R_alloc | apply Kd.R_drewN | apply Kd.R_drew)); exact HO_8.out⟩, ⟨hb_⟩⟩
    ·rw [if_neg c11] at H
     have c11b0 : decide (x12_1 ≤ (t1045.length : Int)) = false := decide_eq_false c11
     clear c11
     (first | rw [c11b0] | (simp only [i64_w, i32_w]; rw [c11b0]) | skip)
     have H' := Aside0.mk H
     clear H
     obtain ⟨Ao13, co13, eo13⟩ := Kd.R_slice HO_8.out
     subst eo13
     go_wp2
     go_meet
     case rel => exact ⟨_, (false), (by first | rfl | (simp; done) | (simp [*]; done)), H', ⟨by have := HK1.out; first | omega | exact Nat.le_refl _⟩, ⟨by (with_reducible repeat (first | apply Kd.R_alloc | apply Kd.R_drewN | apply Kd.R_drew)); exact HO_7.out⟩, ⟨by (with_reducible repeat (first | apply Kd.R_alloc | apply Kd.R_drewN | apply Kd.R_drew)); exact HO_8.out⟩, ⟨hb_⟩⟩
   case rest =>
    clear HC10
    try clear c1
    try clear p2
    try clear c4
    try clear c6
    try clear c7
    try clear c11
    try clear c11b0
    try clear p2
    obtain ⟨kq, x36_9, rfl, HA, HJ9, HO_7, HO_8, HB⟩ := hcut
    cases kq with
    | zero => exact absurd HA.out (by simp [spec_PathProof.j1])
    | succ kj9 =>
     have H := HA.out
     clear HA
     simp only [spec_PathProof.j1] at H
     by_cases c14 : x36_9 = true
     ·subst c14
      have H1 : (if 0 ≤ x12_1 then (if x12_1 ≤ (t1045.length : Int) then ((spec_l9Walk.f kj9 l0 a1 (t1045.take (x12_1 : Int).toNat)).bind fun bt1055 => ((spec_l4Get.f kj9 l0 bt1055.1).bind fun bt1057 => (if x7_1.length < 8796093022208 then (spec_PathProof.l0 kj9 l0 a1 (x7_1 ++ [bt1057.1]) t1045 t1050 (wrap64 (x12_1 + 1))) else (none)))) else (none)) else (none)) = some r := by rw [if_pos rfl] at H; exact H
      clear H
      have H := H1
      clear H1
      by_cases c15 : 0 ≤ x12_1
      ·rw [if_pos c15] at H
       have c15b0 := eq_true c15
       have c15b1 : decide (0 ≤ x12_1) = true := decide_eq_true c15
       clear c15
       by_cases c16 : x12_1 ≤ (t1045.length : Int)
       ·rw [if_pos c16] at H
        have c16b0 := eq_true c16
        have c16b1 : decide (x12_1 ≤ (t1045.length : Int)) = true := decide_eq_true c16
        clear c16
        obtain ⟨y1051, hy1051⟩ : ∃ y_ : List ByteArray, y_ = (t1045.take (x12_1 : Int).toNat) := ⟨_, rfl⟩
        replace H : ((spec_l9Walk.f kj9 l0 a1 y1051).bind fun bt1055 => ((spec_l4Get.f kj9 l0 bt1055.1).bind fun bt1057 => (if x7_1.length < 8796093022208 then (spec_PathProof.l0 kj9 l0 a1 (x7_1 ++ [bt1057.1]) t1045 t1050 (wrap64 (x12_1 + 1))) else (none)))) = some r := by first | (rw [hy1051]; with_reducible exact H) | (have H2_ := (Option.bind_some _ _).symm.trans H; rw [hy1051]; with_reducible exact H2_) | (have H2_ := (Option.bind_some _ _).symm.trans H; with_reducible exact H2_) | with_reducible exact H | (rw [hy1051]; exact H) | exact H
        have Ny1051 := Aside0.mk hy1051
        clear hy1051
        replace H := Option.bind_eq_some_iff.mp H
        obtain ⟨⟨t1055, t1056⟩, A170, H⟩ := H
        replace H : ((spec_l4Get.f kj9 l0 t1055).bind fun bt1057 => (if x7_1.length < 8796093022208 then (spec_PathProof.l0 kj9 l0 a1 (x7_1 ++ [bt1057.1]) t1045 t1050 (wrap64 (x12_1 + 1))) else (none))) = some r := H
        have A17 := Aside0.mk A170
        clear A170
        replace H := Option.bind_eq_some_iff.mp H
        obtain ⟨⟨t1057, t1058⟩, A180, H⟩ := H
        replace H : (if x7_1.length < 8796093022208 then (spec_PathProof.l0 kj9 l0 a1 (x7_1 ++ [t1057]) t1045 t1050 (wrap64 (x12_1 + 1))) else (none)) = some r := H
        have A18 := Aside0.mk A180
        clear A180
        by_cases c19 : x7_1.length < 8796093022208
        ·rw [if_pos c19] at H
         have LMc19 := Aside0.mk c19
         clear c19
         obtain ⟨y1059, hy1059⟩ : ∃ y_ : List ByteArray, y_ = (x7_1 ++ [t1057]) := ⟨_, rfl⟩
         replace H : (spec_PathProof.l0 kj9 l0 a1 y1059 t1045 t1050 (wrap64 (x12_1 + 1))) = some r := by first | (rw [hy1059]; with_reducible exact H) | (have H2_ := (Option.bind_some _ _).symm.trans H; rw [hy1059]; with_reducible exact H2_) | (have H2_ := (Option.bind_some _ _).symm.trans H; with_reducible exact H2_) | with_reducible exact H | (rw [hy1059]; exact H) | exact H
         have Ny1059 := Aside0.mk hy1059
         clear hy1059
         have H' := Aside0.mk H
         clear H
         obtain ⟨Ao21, co21, eo21⟩ := Kd.R_slice HO_8.out
         subst eo21
         have q20 : (x12_1 : Int) ≤ ((t1045.length : Int) : Int) := of_decide_eq_true ma_
         obtain ⟨i020, hi020, _, hsz20, _⟩ := info_parts info9
         have hroom20 : t1045.length ≤ co21 := (Kd.R_reads' HO_8.out).2.1
         have hC20 : Kd.C Kd.string _ Ao21 t1045.length t1045 := (Kd.R_reads' HO_8.out).2.2
         have hcut20 := cut_to (P := Tryd.prog) 44 9 .i64 Tryd.underlying44 hi020 Ao21 t1045.length co21 x12_1 (of_decide_eq_true ma_) q20 hroom20
         have hr20 := Kd.C_take (m := (x12_1 : Int).toNat) hC20 (by omega)
         have hy20 : y1051.length = (x12_1 : Int).toNat := (by rw [Ny1051.out, List.length_take]; omega)
         rw [← Ny1051.out] at hr20
         rw [← hy20] at hcut20
         have HR1054 := Aside0.mk hr20
         have HC1054 := Aside0.mk (show y1051.length ≤ co21 from by omega)
         clear hr20 hC20 hroom20 hi020 hsz20
         have KY20 := Aside0.mk hy20
         clear hy20
         have KL20 := Aside0.mk (show (x12_1 : Int).toNat ≤ t1045.length from by omega)
         replace q20 := eq_true q20
         go_wp2_with (first | ((with_reducible refine gate_callee (f := 73) rfl ?_); refine goesL_ (some 45) rfl rfl Tryd.func73 (by kernel_rfl) rfl #[.slice A0 l0.length c0, .int .i64 a1, .slice Ao21 y1051.length co21] rfl sl_ ?_; (with_reducible refine (spec_l9Walk.calls kj9 _ _ l0 a1 _ _ y1051 t1055 t1056 _ ?side1 ?side2 ?side3 ?side4 A17.out).mono ?_); (case side1 => exact kC_ (Kd.C_below HR0.out HB.out)); (case side2 => exact HC0.out); (case side3 => repeat (first | exact (by repeat (first | (with_reducible exact HR1054.out) | (with_reducible refine Kd.C_alloc ?_ _) | (with_reducible refine Kd.C_drewN ?_ _) | (with_reducible refine Kd.C_drew ?_) | exact HR1054.out)) | (with_reducible refine Kd.C_alloc ?_ _) | (with_reducible refine Kd.C_drewN ?_ _) | (with_reducible refine Kd.C_drew ?_))); (case side4 => exact HC1054.out); rintro e w22 ⟨rfl, hb⟩; refine ⟨_, rfl, ?_⟩; replace HO_7 := Aside0.mk (Kd.R_below (kR_ HO_7.out) hb); replace HO_8 := Aside0.mk (Kd.R_below (kR_ HO_8.out) hb); replace HR1054 := Aside0.mk (Kd.C_below (by repeat (first | (with_reducible exact HR1054.out) | (with_reducible refine Kd.C_alloc ?_ _) | (with_reducible refine Kd.C_drewN ?_ _) | (with_reducible refine Kd.C_drew ?_) | exact HR1054.out)) hb); replace HB := Aside0.mk (below_step hb_ hb); (try clear hb); (try clear hk)) | ((with_reducible refine gate_callee (f := 74) rfl ?_); refine goesL_ (some 51) rfl rfl Tryd.func74 (by kernel_rfl) rfl #[.slice A0 l0.length c0, .int .i64 t1055] rfl sl_ ?_; (with_reducible refine (spec_l4Get.calls kj9 _ _ l0 t1055 t1057 t1058 _ ?side1 ?side2 A18.out).mono ?_); (case side1 => exact kC_ (Kd.C_below HR0.out HB.out)); (case side2 => exact HC0.out); rintro e w' ⟨rfl, ⟨nd, rfl⟩⟩; refine ⟨_, rfl, ?_⟩) | ((with_reducible refine gate_builtin (b := .append) (xs := #[.tmp 54, .tmp 56]) rfl ?_); at_builtin; refine Kd.R_append Kd.string (w0 := w) w.heap.size rfl (.tmp 54) (.tmp 56) 44 9 (.string ⟨#[]⟩) 16 rfl Tryd.underlying44 info9 rfl (by decide) (by omega) u7 x7_1 t1057 [.string t1057] (fun k_ => some k_ ≠ (.slice Ao21 t1045.length co21 : Value).ownBlock) (fun _ => False) rfl rfl ?aP (fun _ hk => hk.elim) ?aF ?aO ?aB ?aS ?aL ?_; (case aP => exact rfl); (case aB => exact hb_); (case aF => exact (fun k_ hk => Kd.fresh' (Kd.R_lt (kR_ HO_8.out)) k_ hk)); (case aO => exact (kR_ HO_7.out)); (case aS => exact (below_size hb_)); (case aL => have := LMc19.out; omega); intro v1060 w23 ho hb hg hat; rw [← Ny1059.out] at ho; have n0_ := Aside0.mk (Kd.R_after (ok := (fun _ => True)) (by (with_reducible repeat (first | apply Kd.R_alloc | apply Kd.R_drewN | apply Kd.R_drew)); exact Kd.R_mono HO_8.out (fun _ hk => ⟨trivial, hk⟩)) hg hat); have n1_ := Aside0.mk (hb); have n2_ := Aside0.mk ((show Kd.C Kd.string w23 Ao21 y1051.length y1051 from by rw [Ny1051.out]; exact Kd.C_take (m := (x12_1 : Int).toNat) ((Kd.R_reads' (Kd.R_after (ok := (fun _ => True)) (by (with_reducible repeat (first | apply Kd.R_alloc | apply Kd.R_drewN | apply Kd.R_drew)); exact Kd.R_mono HO_8.out (fun _ hk => ⟨trivial, hk⟩)) hg hat)).2.2) KL20.out)); have n3_ := Aside0.mk (ho); clear HO_8; clear HB; clear HR1054; clear HO_7; have HO_8 := n0_; have HB := n1_; have HR1054 := n2_; have HO1061 := n3_; clear n0_ n1_ n2_ n3_; clear ho hb hg hat))
         go_roundg kj9
         case measure => have := HK1.out; have := HJ9.out; omega
         case rel => exact ⟨(y1059), (wrap64 (x12_1 + 1)), (by first | rfl | (simp; done) | (simp [*]; done)), H', ⟨by have := HK1.out; have := HJ9.out; omega⟩, ⟨by (with_reducible repeat (first | apply Kd.R_alloc | apply Kd.R_drewN | apply Kd.R_drew)); exact HO1061.out⟩, ⟨by (with_reducible repeat (first | apply Kd.R_alloc | apply Kd.R_drewN | apply Kd.R_drew)); exact Kd.R_mono HO_8.out (fun _ hk => hk.2)⟩, ⟨hb_⟩⟩
        ·rw [if_neg c19] at H
         exact absurd H (by simp)
       ·rw [if_neg c16] at H
        exact absurd H (by simp)
      ·rw [if_neg c15] at H
       exact absurd H (by simp)
     ·replace c14 := Bool.eq_false_iff.mpr c14
      subst c14
      have H1 : (some x7_1) = some r := by rw [if_neg (show ¬ (false = true) by decide)] at H; exact H
      clear H
      have H := H1
      clear H1
      obtain rfl := Option.some.inj H
      go_wp2
      go_ret
      exact ⟨_, er_, by (with_reducible repeat (first | apply Kd.R_alloc | apply Kd.R_drewN | apply Kd.R_drew)); exact Kd.R_mono HO_7.out (fun _ hk => trivial), hb_⟩
/-! ### impl_WalkTo: function 75 -/
mutual
def impl_WalkTo.j0 : Nat → List (S58) → Int → List ByteArray → Bool → Option (Int × Bool)
 | 0, _, _, _, _ => none
 | k + 1, x0, x1, x8, x30 => if x30 = true then (some ((-1), false)) else (impl_WalkTo.l0 k x0 x1 x8 (x8.length : Int) 0)
def impl_WalkTo.l0 : Nat → List (S58) → Int → List ByteArray → Int → Int → Option (Int × Bool)
 | 0, _, _, _, _, _ => none
 | k + 1, x0, x10, x32, x33, x34 => if x34 < x33 then (if 0 ≤ x34 then (if x34 < (x32.length : Int) then ((impl_folderOf.f k x0 x10).bind fun bt1068 => (if bt1068.2 = true then ((impl_printNamed.f k bt1068.1 (rdOf ByteArray.empty x32 x34)).bind fun bt1072 => (if bt1072.2 = true then (impl_WalkTo.l0 k x0 bt1072.1 x32 x33 (wrap64 (x34 + 1))) else (some ((-1), false)))) else (some ((-1), false)))) else (none)) else (none)) else ((impl_textOf.f k x0 x10).bind fun bt1074 => (if bt1074.2 = true then (some (x10, true)) else (some ((-1), false))))
end
def impl_WalkTo.f (k : Nat) (l0 : List (S58)) (a1 : Int) (a2 : ByteArray) : Option (Int × Bool) := (impl_PathParts.f k a2).bind fun bt1062 => (if bt1062.2 = true then ((impl_StoreValid.f k l0).bind fun t1066 => (impl_WalkTo.j0 k l0 a1 bt1062.1 (!t1066))) else (impl_WalkTo.j0 k l0 a1 bt1062.1 true))
theorem impl_WalkTo.mono_l : ∀ k, (∀ y0 y1 y2 y3, LeO (impl_WalkTo.j0 k y0 y1 y2 y3) (impl_WalkTo.j0 (k + 1) y0 y1 y2 y3)) ∧ (∀ y0 y1 y2 y3 y4, LeO (impl_WalkTo.l0 k y0 y1 y2 y3 y4) (impl_WalkTo.l0 (k + 1) y0 y1 y2 y3 y4))
 | 0 => ⟨fun _ _ _ _ r h => by simp [impl_WalkTo.j0] at h, fun _ _ _ _ _ r h => by simp [impl_WalkTo.l0] at h⟩
 | k + 1 => by
  obtain ⟨ih0, ih1⟩ := impl_WalkTo.mono_l k
  refine ⟨?_, ?_⟩
  ·intro y0 y1 y2 y3
   unfold impl_WalkTo.j0
   repeat' first
   | (with_reducible exact ih0 _ _ _ _)
   | (with_reducible exact ih1 _ _ _ _ _)
   | (with_reducible exact impl_PathParts.mono _ _)
   | (with_reducible exact impl_StoreValid.mono _ _)
   | (with_reducible exact impl_folderOf.mono _ _ _)
   | (with_reducible exact impl_printNamed.mono _ _ _)
   | (with_reducible exact impl_textOf.mono _ _ _)
   | (with_reducible exact LeO.refl _)
   | (with_reducible exact LeO.none _)
   | (with_reducible refine LeO.ite ?_ ?_)
   | (with_reducible refine LeO.bind ?_ (fun _ => ?_))
   | exact ih0 _ _ _ _
   | exact ih1 _ _ _ _ _
   | exact impl_PathParts.mono _ _
   | exact impl_StoreValid.mono _ _
   | exact impl_folderOf.mono _ _ _
   | exact impl_printNamed.mono _ _ _
   | exact impl_textOf.mono _ _ _
   | exact LeO.none _
   | refine LeO.ite ?_ ?_
   | refine LeO.bind ?_ (fun _ => ?_)
  ·intro y0 y1 y2 y3 y4
   unfold impl_WalkTo.l0
   repeat' first
   | (with_reducible exact ih0 _ _ _ _)
   | (with_reducible exact ih1 _ _ _ _ _)
   | (with_reducible exact impl_PathParts.mono _ _)
   | (with_reducible exact impl_StoreValid.mono _ _)
   | (with_reducible exact impl_folderOf.mono _ _ _)
   | (with_reducible exact impl_printNamed.mono _ _ _)
   | (with_reducible exact impl_textOf.mono _ _ _)
   | (with_reducible exact LeO.refl _)
   | (with_reducible exact LeO.none _)
   | (with_reducible refine LeO.ite ?_ ?_)
   | (with_reducible refine LeO.bind ?_ (fun _ => ?_))
   | exact ih0 _ _ _ _
   | exact ih1 _ _ _ _ _
   | exact impl_PathParts.mono _ _
   | exact impl_StoreValid.mono _ _
   | exact impl_folderOf.mono _ _ _
   | exact impl_printNamed.mono _ _ _
   | exact impl_textOf.mono _ _ _
   | exact LeO.none _
   | refine LeO.ite ?_ ?_
   | refine LeO.bind ?_ (fun _ => ?_)
theorem impl_WalkTo.mono : ∀ a0 a1 a2 k, LeO (impl_WalkTo.f k a0 a1 a2) (impl_WalkTo.f (k + 1) a0 a1 a2) := by
 intro a0 a1 a2 k
 obtain ⟨ih0, ih1⟩ := impl_WalkTo.mono_l k
 unfold impl_WalkTo.f
 repeat' first
   | (with_reducible exact ih0 _ _ _ _)
   | (with_reducible exact ih1 _ _ _ _ _)
   | (with_reducible exact impl_PathParts.mono _ _)
   | (with_reducible exact impl_StoreValid.mono _ _)
   | (with_reducible exact impl_folderOf.mono _ _ _)
   | (with_reducible exact impl_printNamed.mono _ _ _)
   | (with_reducible exact impl_textOf.mono _ _ _)
   | (with_reducible exact LeO.refl _)
   | (with_reducible exact LeO.none _)
   | (with_reducible refine LeO.ite ?_ ?_)
   | (with_reducible refine LeO.bind ?_ (fun _ => ?_))
   | exact ih0 _ _ _ _
   | exact ih1 _ _ _ _ _
   | exact impl_PathParts.mono _ _
   | exact impl_StoreValid.mono _ _
   | exact impl_folderOf.mono _ _ _
   | exact impl_printNamed.mono _ _ _
   | exact impl_textOf.mono _ _ _
   | exact LeO.none _
   | refine LeO.ite ?_ ?_
   | refine LeO.bind ?_ (fun _ => ?_)
set_option maxHeartbeats 8000000 in
set_option maxRecDepth 100000 in
theorem impl_WalkTo.calls (k : Nat) (A0 : Option Addr) (c0 : Nat) (l0 : List (S58)) (a1 : Int) (a2 : ByteArray) (r1 : Int) (r2 : Bool) (w : World) (hr0 : Kd.C k58 w A0 l0.length l0) (hc0 : l0.length ≤ c0) (hG : GT w) (h : impl_WalkTo.f k l0 a1 a2 = some (r1, r2)) :
  Calls Tryd.prog 75 #[.slice A0 l0.length c0, .int .i64 a1, .string a2] w fun e w' => e = .returned (.tuple #[.int .i64 r1, .bool r2]) ∧ Below w.heap.size w w' := by
 have HR0 := Aside0.mk hr0
 have HC0 := Aside0.mk hc0
 clear hr0 hc0
 have HB := Aside0.mk (Below.refl w.heap.size w)
 have H : ((impl_PathParts.f k a2).bind fun bt1062 => (if bt1062.2 = true then ((impl_StoreValid.f k l0).bind fun t1066 => (impl_WalkTo.j0 k l0 a1 bt1062.1 (!t1066))) else (impl_WalkTo.j0 k l0 a1 bt1062.1 true))) = some (r1, r2) := h
 clear h
 replace H := Option.bind_eq_some_iff.mp H
 obtain ⟨⟨t1062, t1063⟩, A40, H⟩ := H
 replace H : (if t1063 = true then ((impl_StoreValid.f k l0).bind fun t1066 => (impl_WalkTo.j0 k l0 a1 t1062 (!t1066))) else (impl_WalkTo.j0 k l0 a1 t1062 true)) = some (r1, r2) := H
 have A4 := Aside0.mk A40
 clear A40
 have HC5 := Aside0.mk H
 clear H
 go_enter Tryd.func75, Tryd.ntmps75
 go_upto_region 2 with (first | ((with_reducible refine gate_callee (f := 65) rfl ?_); refine goesL_ (some 21) rfl rfl Tryd.func65 (by kernel_rfl) rfl #[.string a2] rfl sl_ ?_; (with_reducible refine (impl_PathParts.calls k a2 t1062 t1063 _ A4.out).mono ?_); rintro e w6 ⟨v1064, rfl, ho0, hb⟩; refine ⟨_, rfl, ?_⟩; have HO1065 := Aside0.mk (Kd.R_lower ho0 (below_size hb_)); replace HB := Aside0.mk (below_step hb_ hb); (try clear hb); (try clear ho0)))
 (try simp only [Act.put, List.setIfInBounds_toArray, List.set_cons_zero, List.set_cons_succ])
 go_cut [30] (fun v30 wc => ∃ (kq : Nat) (x30_4 : Bool), v30 = .bool x30_4 ∧ Aside0 (impl_WalkTo.j0 kq l0 a1 t1062 x30_4 = some (r1, r2)) ∧ Aside0 (kq ≤ k) ∧ Aside0 (Kd.R Kd.string 9 wc w.heap.size (fun _ => True) v1064 t1062) ∧ Aside0 (Below w.heap.size w wc))
 case first =>
  have H := HC5.out
  clear HC5
  by_cases c7 : t1063 = true
  ·subst c7
   have H1 : ((impl_StoreValid.f k l0).bind fun t1066 => (impl_WalkTo.j0 k l0 a1 t1062 (!t1066))) = some (r1, r2) := by rw [if_pos rfl] at H; exact H
   clear H
   have H := H1
   clear H1
   replace H := Option.bind_eq_some_iff.mp H
   obtain ⟨t1066, A80, H⟩ := H
   replace H : (impl_WalkTo.j0 k l0 a1 t1062 (!t1066)) = some (r1, r2) := H
   have A8 := Aside0.mk A80
   clear A80
   have H' := Aside0.mk H
   clear H
   go_wp2_with (first | (go_at_call 29; (with_reducible refine (impl_StoreValid.calls k _ _ l0 t1066 _ ?side1 ?side2 A8.out).mono ?_); (case side1 => exact kC_ (Kd.C_below HR0.out HB.out)); (case side2 => exact HC0.out); rintro e w9 ⟨rfl, hb⟩; replace HO1065 := Aside0.mk (Kd.R_below (kR_ HO1065.out) hb); replace HB := Aside0.mk (below_step hb_ hb); (try clear hb)))
   go_meet
   case rel => exact ⟨_, (!t1066), (by first | rfl | (simp; done) | (simp [*]; done)), H', ⟨by first | omega | exact Nat.le_refl _⟩, ⟨by (with_reducible repeat (first | apply Kd.R_alloc | apply Kd.R_drewN | apply Kd.R_drew)); exact HO1065.out⟩, ⟨hb_⟩⟩
  ·replace c7 := Bool.eq_false_iff.mpr c7
   subst c7
   have H1 : (impl_WalkTo.j0 k l0 a1 t1062 true) = some (r1, r2) := by rw [if_neg (show ¬ (false = true) by decide)] at H; exact H
   clear H
   have H := H1
   clear H1
   have H' := Aside0.mk H
   clear H
   go_wp2
   go_meet
   case rel => exact ⟨_, (true), (by first | rfl | (simp; done) | (simp [*]; done)), H', ⟨by first | omega | exact Nat.le_refl _⟩, ⟨by (with_reducible repeat (first | apply Kd.R_alloc | apply Kd.R_drewN | apply Kd.R_drew)); exact HO1065.out⟩, ⟨hb_⟩⟩
 case rest =>
  clear HC5
  try clear p2
  try clear c6
  try clear c7
  obtain ⟨kq, x30_4, rfl, HA, HJ4, HO_8, HB⟩ := hcut
  cases kq with
  | zero => exact absurd HA.out (by simp [impl_WalkTo.j0])
  | succ kj4 =>
   have H := HA.out
   clear HA
   simp only [impl_WalkTo.j0] at H
   by_cases c10 : x30_4 = true
   ·subst c10
    have H1 : (some ((-1), false)) = some (r1, r2) := by rw [if_pos rfl] at H; exact H
    clear H
    have H := H1
    clear H1
    simp only [Option.some.injEq, Prod.mk.injEq] at H
    obtain ⟨rfl, rfl⟩ := H
    go_wp2
    go_ret2
    exact ⟨er_, hb_⟩
   ·replace c10 := Bool.eq_false_iff.mpr c10
    subst c10
    have H1 : (impl_WalkTo.l0 kj4 l0 a1 t1062 (t1062.length : Int) 0) = some (r1, r2) := by rw [if_neg (show ¬ (false = true) by decide)] at H; exact H
    clear H
    have H := H1
    clear H1
    have H' := Aside0.mk H
    clear H
    obtain ⟨Ao11, co11, eo11⟩ := Kd.R_slice HO_8.out
    subst eo11
    go_wp2
    go_loopg [10, 34] kj4 (fun kq v10 v34 w' => ∃ (x10_2 : Int) (x34_2 : Int), v10 = .int .i64 x10_2 ∧ v34 = .int .i64 x34_2 ∧ Aside0 (impl_WalkTo.l0 kq l0 x10_2 t1062 (t1062.length : Int) x34_2 = some (r1, r2)) ∧ Aside0 (kq ≤ kj4) ∧ Aside0 (Kd.R Kd.string 9 w' w.heap.size (fun _ => True) (.slice Ao11 t1062.length co11) t1062) ∧ Aside0 (Below w.heap.size w w'))
    case atStart => exact ⟨(a1), (0), (by first | rfl | (simp; done) | (simp [*]; done)), (by first | rfl | (simp; done) | (simp [*]; done)), H', ⟨Nat.le_refl _⟩, ⟨by (with_reducible repeat (first | apply Kd.R_alloc | apply Kd.R_drewN | apply Kd.R_drew)); exact HO_8.out⟩, ⟨hb_⟩⟩
    case round =>
     clear H'
     try clear c1
     try clear p2
     try clear c6
     try clear c7
     try clear c10
     try clear p2
     obtain ⟨x10_2, x34_2, rfl, rfl, HA, HK2, HO_32, HB⟩ := hrel
     cases gk with
     | zero => exact absurd HA.out (by simp [impl_WalkTo.l0])
     | succ k2 =>
      have H := HA.out
      clear HA
      simp only [impl_WalkTo.l0] at H
      by_cases c12 : x34_2 < (t1062.length : Int)
      ·rw [if_pos c12] at H
       have c12b0 : decide (x34_2 < (t1062.length : Int)) = true := decide_eq_true c12
       clear c12
       by_cases c13 : 0 ≤ x34_2
       ·rw [if_pos c13] at H
        have c13b0 : decide (0 ≤ x34_2) = true := decide_eq_true c13
        clear c13
        by_cases c14 : x34_2 < (t1062.length : Int)
        ·rw [if_pos c14] at H
         have c14b0 : decide (x34_2 < (t1062.length : Int)) = true := decide_eq_true c14
         clear c14
         replace H := Option.bind_eq_some_iff.mp H
         obtain ⟨⟨t1068, t1069⟩, A150, H⟩ := H
         replace H : (if t1069 = true then ((impl_printNamed.f k2 t1068 (rdOf ByteArray.empty t1062 x34_2)).bind fun bt1072 => (if bt1072.2 = true then (impl_WalkTo.l0 k2 l0 bt1072.1 t1062 (t1062.length : Int) (wrap64 (x34_2 + 1))) else (some ((-1), false)))) else (some ((-1), false))) = some (r1, r2) := H
         have A15 := Aside0.mk A150
         clear A150
         by_cases c16 : t1069 = true
         ·subst c16
          have H1 : ((impl_printNamed.f k2 t1068 (rdOf ByteArray.empty t1062 x34_2)).bind fun bt1072 => (if bt1072.2 = true then (impl_WalkTo.l0 k2 l0 bt1072.1 t1062 (t1062.length : Int) (wrap64 (x34_2 + 1))) else (some ((-1), false)))) = some (r1, r2) := by rw [if_pos rfl] at H; exact H
          clear H
          have H := H1
          clear H1
          replace H := Option.bind_eq_some_iff.mp H
          obtain ⟨⟨t1072, t1073⟩, A170, H⟩ := H
          replace H : (if t1073 = true then (impl_WalkTo.l0 k2 l0 t1072 t1062 (t1062.length : Int) (wrap64 (x34_2 + 1))) else (some ((-1), false))) = some (r1, r2) := H
          have A17 := Aside0.mk A170
          clear A170
          by_cases c18 : t1073 = true
          ·subst c18
           have H1 : (impl_WalkTo.l0 k2 l0 t1072 t1062 (t1062.length : Int) (wrap64 (x34_2 + 1))) = some (r1, r2) := by rw [if_pos rfl] at H; exact H
           clear H
           have H := H1
           clear H1
           have H' := Aside0.mk H
           clear H
           have p1067 : 0 ≤ (x34_2 : Int) := of_decide_eq_true ma_
           have q1067 : x34_2 < (t1062.length : Int) := of_decide_eq_true ma_
           obtain ⟨ad1067, e1067, hx1067_0⟩ := Kd.at_string (Kd.R_reads' HO_32.out).2.2 x34_2 p1067 q1067
           cases e1067
           replace p1067 := eq_true p1067
           replace q1067 := eq_true q1067
           go_wp2_with (first | ((with_reducible refine gate_callee (f := 89) rfl ?_); refine goesL_ (some 41) rfl rfl Tryd.func89 (by kernel_rfl) rfl #[.slice A0 l0.length c0, .int .i64 x10_2] rfl sl_ ?_; (with_reducible refine (impl_folderOf.calls k2 _ _ l0 x10_2 t1068 true _ ?side1 ?side2 (GT_on hb_ hG) A15.out).mono ?_); (case side1 => exact kC_ (Kd.C_below HR0.out HB.out)); (case side2 => exact HC0.out); rintro e w19 ⟨v1070, rfl, ho0, hb⟩; refine ⟨_, rfl, ?_⟩; replace HO_32 := Aside0.mk (Kd.R_below (kR_ HO_32.out) hb); have HO1071 := Aside0.mk (Kd.R_lower ho0 (below_size hb_)); replace HB := Aside0.mk (below_step hb_ hb); (try clear hb); (try clear ho0); obtain ⟨Ao20, co20, eo20⟩ := Kd.R_slice HO1071.out; subst eo20) | ((with_reducible refine gate_callee (f := 69) rfl ?_); refine goesL_ (some 49) rfl rfl Tryd.func69 (by kernel_rfl) rfl #[.slice Ao20 t1068.length co20, .string (rdOf ByteArray.empty t1062 x34_2)] rfl sl_ ?_; (with_reducible refine (impl_printNamed.calls k2 _ _ t1068 (rdOf ByteArray.empty t1062 x34_2) t1072 true _ ?side1 ?side2 A17.out).mono ?_); (case side1 => exact kC_ ((Kd.R_reads' HO1071.out).2.2)); (case side2 => exact (Kd.R_reads' HO1071.out).2.1); rintro e w21 ⟨rfl, hb⟩; refine ⟨_, rfl, ?_⟩; replace HO_32 := Aside0.mk (Kd.R_below (kR_ HO_32.out) hb); replace HO1071 := Aside0.mk (Kd.R_below (kR_ HO1071.out) hb); replace HB := Aside0.mk (below_step hb_ hb); (try clear hb)))
           go_roundg k2
           case measure => have := HJ4.out; have := HK2.out; omega
           case rel => exact ⟨(t1072), (wrap64 (x34_2 + 1)), (by first | rfl | (simp; done) | (simp [*]; done)), (by first | rfl | (simp; done) | (simp [*]; done)), H', ⟨by have := HJ4.out; have := HK2.out; omega⟩, ⟨by (with_reducible repeat (first | apply Kd.R_alloc | apply Kd.R_drewN | apply Kd.R_drew)); exact HO_32.out⟩, ⟨hb_⟩⟩
          ·replace c18 := Bool.eq_false_iff.mpr c18
           subst c18
           have H1 : (some ((-1), false)) = some (r1, r2) := by rw [if_neg (show ¬ (false = true) by decide)] at H; exact H
           clear H
           have H := H1
           clear H1
           simp only [Option.some.injEq, Prod.mk.injEq] at H
           obtain ⟨rfl, rfl⟩ := H
           have p1067 : 0 ≤ (x34_2 : Int) := of_decide_eq_true ma_
           have q1067 : x34_2 < (t1062.length : Int) := of_decide_eq_true ma_
           obtain ⟨ad1067, e1067, hx1067_0⟩ := Kd.at_string (Kd.R_reads' HO_32.out).2.2 x34_2 p1067 q1067
           cases e1067
           replace p1067 := eq_true p1067
           replace q1067 := eq_true q1067
           go_wp2_with (first | ((with_reducible refine gate_callee (f := 89) rfl ?_); refine goesL_ (some 41) rfl rfl Tryd.func89 (by kernel_rfl) rfl #[.slice A0 l0.length c0, .int .i64 x10_2] rfl sl_ ?_; (with_reducible refine (impl_folderOf.calls k2 _ _ l0 x10_2 t1068 true _ ?side1 ?side2 (GT_on hb_ hG) A15.out).mono ?_); (case side1 => exact kC_ (Kd.C_below HR0.out HB.out)); (case side2 => exact HC0.out); rintro e w22 ⟨v1070, rfl, ho0, hb⟩; refine ⟨_, rfl, ?_⟩; replace HO_32 := Aside0.mk (Kd.R_below (kR_ HO_32.out) hb); have HO1071 := Aside0.mk (Kd.R_lower ho0 (below_size hb_)); replace HB := Aside0.mk (below_step hb_ hb); (try clear hb); (try clear ho0); obtain ⟨Ao23, co23, eo23⟩ := Kd.R_slice HO1071.out; subst eo23) | ((with_reducible refine gate_callee (f := 69) rfl ?_); refine goesL_ (some 49) rfl rfl Tryd.func69 (by kernel_rfl) rfl #[.slice Ao23 t1068.length co23, .string (rdOf ByteArray.empty t1062 x34_2)] rfl sl_ ?_; (with_reducible refine (impl_printNamed.calls k2 _ _ t1068 (rdOf ByteArray.empty t1062 x34_2) t1072 false _ ?side1 ?side2 A17.out).mono ?_); (case side1 => exact kC_ ((Kd.R_reads' HO1071.out).2.2)); (case side2 => exact (Kd.R_reads' HO1071.out).2.1); rintro e w24 ⟨rfl, hb⟩; refine ⟨_, rfl, ?_⟩; replace HO_32 := Aside0.mk (Kd.R_below (kR_ HO_32.out) hb); replace HO1071 := Aside0.mk (Kd.R_below (kR_ HO1071.out) hb); replace HB := Aside0.mk (below_step hb_ hb); (try clear hb)))
           go_ret2
           exact ⟨er_, hb_⟩
         ·replace c16 := Bool.eq_false_iff.mpr c16
          subst c16
          have H1 : (some ((-1), false)) = some (r1, r2) := by rw [if_neg (show ¬ (false = true) by decide)] at H; exact H
          clear H
          have H := H1
          clear H1
          simp only [Option.some.injEq, Prod.mk.injEq] at H
          obtain ⟨rfl, rfl⟩ := H
          have p1067 : 0 ≤ (x34_2 : Int) := of_decide_eq_true ma_
          have q1067 : x34_2 < (t1062.length : Int) := of_decide_eq_true ma_
          obtain ⟨ad1067, e1067, hx1067_0⟩ := Kd.at_string (Kd.R_reads' HO_32.out).2.2 x34_2 p1067 q1067
          cases e1067
          replace p1067 := eq_true p1067
          replace q1067 := eq_true q1067
          go_wp2_with (first | ((with_reducible refine gate_callee (f := 89) rfl ?_); refine goesL_ (some 41) rfl rfl Tryd.func89 (by kernel_rfl) rfl #[.slice A0 l0.length c0, .int .i64 x10_2] rfl sl_ ?_; (with_reducible refine (impl_folderOf.calls k2 _ _ l0 x10_2 t1068 false _ ?side1 ?side2 (GT_on hb_ hG) A15.out).mono ?_); (case side1 => exact kC_ (Kd.C_below HR0.out HB.out)); (case side2 => exact HC0.out); rintro e w25 ⟨v1070, rfl, ho0, hb⟩; refine ⟨_, rfl, ?_⟩; replace HO_32 := Aside0.mk (Kd.R_below (kR_ HO_32.out) hb); have HO1071 := Aside0.mk (Kd.R_lower ho0 (below_size hb_)); replace HB := Aside0.mk (below_step hb_ hb); (try clear hb); (try clear ho0)))
          go_ret2
          exact ⟨er_, hb_⟩
        ·rw [if_neg c14] at H
         exact absurd H (by simp)
       ·rw [if_neg c13] at H
        exact absurd H (by simp)
      ·rw [if_neg c12] at H
       have c12b0 : decide (x34_2 < (t1062.length : Int)) = false := decide_eq_false c12
       clear c12
       replace H := Option.bind_eq_some_iff.mp H
       obtain ⟨⟨t1074, t1075⟩, A260, H⟩ := H
       replace H : (if t1075 = true then (some (x10_2, true)) else (some ((-1), false))) = some (r1, r2) := H
       have A26 := Aside0.mk A260
       clear A260
       by_cases c27 : t1075 = true
       ·subst c27
        have H1 : (some (x10_2, true)) = some (r1, r2) := by rw [if_pos rfl] at H; exact H
        clear H
        have H := H1
        clear H1
        simp only [Option.some.injEq, Prod.mk.injEq] at H
        obtain ⟨rfl, rfl⟩ := H
        go_wp2_with (first | ((with_reducible refine gate_callee (f := 60) rfl ?_); refine goesL_ (some 59) rfl rfl Tryd.func60 (by kernel_rfl) rfl #[.slice A0 l0.length c0, .int .i64 x10_2] rfl sl_ ?_; (with_reducible refine (impl_textOf.calls k2 _ _ l0 x10_2 t1074 true _ ?side1 ?side2 A26.out).mono ?_); (case side1 => exact kC_ (Kd.C_below HR0.out HB.out)); (case side2 => exact HC0.out); rintro e w28 ⟨rfl, hb⟩; refine ⟨_, rfl, ?_⟩; replace HO_32 := Aside0.mk (Kd.R_below (kR_ HO_32.out) hb); replace HB := Aside0.mk (below_step hb_ hb); (try clear hb)))
        go_ret2
        exact ⟨er_, hb_⟩
       ·replace c27 := Bool.eq_false_iff.mpr c27
        subst c27
        have H1 : (some ((-1), false)) = some (r1, r2) := by rw [if_neg (show ¬ (false = true) by decide)] at H; exact H
        clear H
        have H := H1
        clear H1
        simp only [Option.some.injEq, Prod.mk.injEq] at H
        obtain ⟨rfl, rfl⟩ := H
        go_wp2_with (first | ((with_reducible refine gate_callee (f := 60) rfl ?_); refine goesL_ (some 59) rfl rfl Tryd.func60 (by kernel_rfl) rfl #[.slice A0 l0.length c0, .int .i64 x10_2] rfl sl_ ?_; (with_reducible refine (impl_textOf.calls k2 _ _ l0 x10_2 t1074 false _ ?side1 ?side2 A26.out).mono ?_); (case side1 => exact kC_ (Kd.C_below HR0.out HB.out)); (case side2 => exact HC0.out); rintro e w29 ⟨rfl, hb⟩; refine ⟨_, rfl, ?_⟩; replace HO_32 := Aside0.mk (Kd.R_below (kR_ HO_32.out) hb); replace HB := Aside0.mk (below_step hb_ hb); (try clear hb)))
        go_ret2
        exact ⟨er_, hb_⟩
/-! ### impl_PathProof: function 47 -/
def impl_PathProof.l0 : Nat → List (S58) → ByteArray → List ByteArray → List ByteArray → Int → Int → Option (List ByteArray)
 | 0, _, _, _, _, _, _ => none
 | k + 1, x0, x11, x13, x42, x43, x44 => if x44 < x43 then (if 0 ≤ x44 then (if x44 < (x42.length : Int) then ((impl_ReadFolder.f k x11).bind fun bt1088 => ((impl_printNamed.f k bt1088.1 (rdOf ByteArray.empty x42 x44)).bind fun bt1092 => ((impl_textOf.f k x0 bt1092.1).bind fun bt1094 => (if x13.length < 8796093022208 then (impl_PathProof.l0 k x0 bt1094.1 (x13 ++ [bt1094.1]) x42 x43 (wrap64 (x44 + 1))) else (none))))) else (none)) else (none)) else (some x13)
def impl_PathProof.f (k : Nat) (l0 : List (S58)) (a1 : Int) (a2 : ByteArray) : Option (List ByteArray) := (impl_WalkTo.f k l0 a1 a2).bind fun bt1076 => (if bt1076.2 = true then ((impl_PathParts.f k a2).bind fun bt1078 => ((impl_textOf.f k l0 a1).bind fun bt1082 => (impl_PathProof.l0 k l0 bt1082.1 (([bt1082.1] : List ByteArray)) bt1078.1 (bt1078.1.length : Int) 0))) else (some ([] : List ByteArray)))
theorem impl_PathProof.mono_l : ∀ k, (∀ y0 y1 y2 y3 y4 y5, LeO (impl_PathProof.l0 k y0 y1 y2 y3 y4 y5) (impl_PathProof.l0 (k + 1) y0 y1 y2 y3 y4 y5))
 | 0 => fun _ _ _ _ _ _ r h => by simp [impl_PathProof.l0] at h
 | k + 1 => by
  have ih0 := impl_PathProof.mono_l k
  ·intro y0 y1 y2 y3 y4 y5
   unfold impl_PathProof.l0
   repeat' first
   | (with_reducible exact ih0 _ _ _ _ _ _)
   | (with_reducible exact impl_PathParts.mono _ _)
   | (with_reducible exact impl_ReadFolder.mono _ _)
   | (with_reducible exact impl_WalkTo.mono _ _ _ _)
   | (with_reducible exact impl_printNamed.mono _ _ _)
   | (with_reducible exact impl_textOf.mono _ _ _)
   | (with_reducible exact LeO.refl _)
   | (with_reducible exact LeO.none _)
   | (with_reducible refine LeO.ite ?_ ?_)
   | (with_reducible refine LeO.bind ?_ (fun _ => ?_))
   | exact ih0 _ _ _ _ _ _
   | exact impl_PathParts.mono _ _
   | exact impl_ReadFolder.mono _ _
   | exact impl_WalkTo.mono _ _ _ _
   | exact impl_printNamed.mono _ _ _
   | exact impl_textOf.mono _ _ _
   | exact LeO.none _
   | refine LeO.ite ?_ ?_
   | refine LeO.bind ?_ (fun _ => ?_)
theorem impl_PathProof.mono : ∀ a0 a1 a2 k, LeO (impl_PathProof.f k a0 a1 a2) (impl_PathProof.f (k + 1) a0 a1 a2) := by
 intro a0 a1 a2 k
 have ih0 := impl_PathProof.mono_l k
 unfold impl_PathProof.f
 repeat' first
   | (with_reducible exact ih0 _ _ _ _ _ _)
   | (with_reducible exact impl_PathParts.mono _ _)
   | (with_reducible exact impl_ReadFolder.mono _ _)
   | (with_reducible exact impl_WalkTo.mono _ _ _ _)
   | (with_reducible exact impl_printNamed.mono _ _ _)
   | (with_reducible exact impl_textOf.mono _ _ _)
   | (with_reducible exact LeO.refl _)
   | (with_reducible exact LeO.none _)
   | (with_reducible refine LeO.ite ?_ ?_)
   | (with_reducible refine LeO.bind ?_ (fun _ => ?_))
   | exact ih0 _ _ _ _ _ _
   | exact impl_PathParts.mono _ _
   | exact impl_ReadFolder.mono _ _
   | exact impl_WalkTo.mono _ _ _ _
   | exact impl_printNamed.mono _ _ _
   | exact impl_textOf.mono _ _ _
   | exact LeO.none _
   | refine LeO.ite ?_ ?_
   | refine LeO.bind ?_ (fun _ => ?_)
set_option maxHeartbeats 8000000 in
set_option maxRecDepth 100000 in
theorem impl_PathProof.calls (k : Nat) (A0 : Option Addr) (c0 : Nat) (l0 : List (S58)) (a1 : Int) (a2 : ByteArray) (r : List ByteArray) (w : World) (hr0 : Kd.C k58 w A0 l0.length l0) (hc0 : l0.length ≤ c0) (hG : GT w) (h : impl_PathProof.f k l0 a1 a2 = some r) :
  Calls Tryd.prog 47 #[.slice A0 l0.length c0, .int .i64 a1, .string a2] w fun e w' => ∃ v0_ : Value, e = .returned (v0_) ∧ Kd.R Kd.string 9 w' w.heap.size (fun _ => True) v0_ r ∧ Below w.heap.size w w' := by
 have HR0 := Aside0.mk hr0
 have HC0 := Aside0.mk hc0
 clear hr0 hc0
 have HB := Aside0.mk (Below.refl w.heap.size w)
 have H : ((impl_WalkTo.f k l0 a1 a2).bind fun bt1076 => (if bt1076.2 = true then ((impl_PathParts.f k a2).bind fun bt1078 => ((impl_textOf.f k l0 a1).bind fun bt1082 => (impl_PathProof.l0 k l0 bt1082.1 (([bt1082.1] : List ByteArray)) bt1078.1 (bt1078.1.length : Int) 0))) else (some ([] : List ByteArray)))) = some r := h
 clear h
 replace H := Option.bind_eq_some_iff.mp H
 obtain ⟨⟨t1076, t1077⟩, A40, H⟩ := H
 replace H : (if t1077 = true then ((impl_PathParts.f k a2).bind fun bt1078 => ((impl_textOf.f k l0 a1).bind fun bt1082 => (impl_PathProof.l0 k l0 bt1082.1 (([bt1082.1] : List ByteArray)) bt1078.1 (bt1078.1.length : Int) 0))) else (some ([] : List ByteArray))) = some r := H
 have A4 := Aside0.mk A40
 clear A40
 by_cases c5 : t1077 = true
 ·subst c5
  have H1 : ((impl_PathParts.f k a2).bind fun bt1078 => ((impl_textOf.f k l0 a1).bind fun bt1082 => (impl_PathProof.l0 k l0 bt1082.1 (([bt1082.1] : List ByteArray)) bt1078.1 (bt1078.1.length : Int) 0))) = some r := by rw [if_pos rfl] at H; exact H
  clear H
  have H := H1
  clear H1
  replace H := Option.bind_eq_some_iff.mp H
  obtain ⟨⟨t1078, t1079⟩, A60, H⟩ := H
  replace H : ((impl_textOf.f k l0 a1).bind fun bt1082 => (impl_PathProof.l0 k l0 bt1082.1 (([bt1082.1] : List ByteArray)) t1078 (t1078.length : Int) 0)) = some r := H
  have A6 := Aside0.mk A60
  clear A60
  replace H := Option.bind_eq_some_iff.mp H
  obtain ⟨⟨t1082, t1083⟩, A70, H⟩ := H
  replace H : (impl_PathProof.l0 k l0 t1082 (([t1082] : List ByteArray)) t1078 (t1078.length : Int) 0) = some r := H
  have A7 := Aside0.mk A70
  clear A70
  obtain ⟨y1084, hy1084⟩ : ∃ y_ : List ByteArray, y_ = (([t1082] : List ByteArray)) := ⟨_, rfl⟩
  replace H : (impl_PathProof.l0 k l0 t1082 y1084 t1078 (t1078.length : Int) 0) = some r := by first | (rw [hy1084]; with_reducible exact H) | (have H2_ := (Option.bind_some _ _).symm.trans H; rw [hy1084]; with_reducible exact H2_) | (have H2_ := (Option.bind_some _ _).symm.trans H; with_reducible exact H2_) | with_reducible exact H | (rw [hy1084]; exact H) | exact H
  have Ny1084 := Aside0.mk hy1084
  clear hy1084
  have H' := Aside0.mk H
  clear H
  go_enter Tryd.func47, Tryd.ntmps47
  go_wp2_with (first | ((with_reducible refine gate_callee (f := 75) rfl ?_); refine goesL_ (some 24) rfl rfl Tryd.func75 (by kernel_rfl) rfl #[.slice A0 l0.length c0, .int .i64 a1, .string a2] rfl sl_ ?_; (with_reducible refine (impl_WalkTo.calls k _ _ l0 a1 a2 t1076 true _ ?side1 ?side2 (GT_on hb_ hG) A4.out).mono ?_); (case side1 => exact kC_ HR0.out); (case side2 => exact HC0.out); rintro e w8 ⟨rfl, hb⟩; refine ⟨_, rfl, ?_⟩; replace HB := Aside0.mk (below_step hb_ hb); (try clear hb); (try clear hk)) | ((with_reducible refine gate_callee (f := 65) rfl ?_); refine goesL_ (some 31) rfl rfl Tryd.func65 (by kernel_rfl) rfl #[.string a2] rfl sl_ ?_; (with_reducible refine (impl_PathParts.calls k a2 t1078 t1079 _ A6.out).mono ?_); rintro e w9 ⟨v1080, rfl, ho0, hb⟩; refine ⟨_, rfl, ?_⟩; have HO1081 := Aside0.mk (Kd.R_lower ho0 (below_size hb_)); replace HB := Aside0.mk (below_step hb_ hb); (try clear hb); (try clear hk); (try clear ho0)) | ((with_reducible refine gate_callee (f := 60) rfl ?_); refine goesL_ (some 37) rfl rfl Tryd.func60 (by kernel_rfl) rfl #[.slice A0 l0.length c0, .int .i64 a1] rfl sl_ ?_; (with_reducible refine (impl_textOf.calls k _ _ l0 a1 t1082 t1083 _ ?side1 ?side2 A7.out).mono ?_); (case side1 => exact kC_ (Kd.C_below HR0.out HB.out)); (case side2 => exact HC0.out); rintro e w10 ⟨rfl, hb⟩; refine ⟨_, rfl, ?_⟩; replace HO1081 := Aside0.mk (Kd.R_below (kR_ HO1081.out) hb); replace HB := Aside0.mk (below_step hb_ hb); (try clear hb); (try clear hk)) | ((with_reducible refine gate_dst (N := 41) rfl ?_); refine Kd.R_lit Kd.string _ 9 ?hg (N := 41) ?hd (xs := ([t1082] : List ByteArray)) (inner := [.string t1082]) (ok := fun _ => True) (okp := fun _ => True) ?hr ?hp (fun _ hk => hk) trivial (Below.refl _ _) (Nat.le_refl _) (by simp) ?_; (case hd => rfl); (case hg => rfl); (case hr => first | (go_simp; done) | (go_simp; rfl)); (case hp => exact (Reps.one (show Kd.M Kd.string _ _ _ t1082 [.string t1082] from rfl) (Reps.none _ _))); intro v1085 w11 ho12 hb hg_ hnew_; clear hg_ hnew_; (first | rw [← Ny1084.out] at ho12 | (simp only [Int.reduceToNat] at ho12; rw [← Ny1084.out] at ho12)); have HO1086 := Aside0.mk (Kd.R_lower (Kd.R_new' ho12 (Kd.R_lt (kR_ HO1081.out))) (below_size hb_)); replace HO1081 := Aside0.mk (Kd.R_elder' (kR_ HO1081.out) (Kd.R_base ho12) hb); replace HB := Aside0.mk (below_step hb_ hb); clear hb ho12; obtain ⟨Ao13, co13, eo13⟩ := Kd.R_slice HO1081.out; subst eo13))
  go_loopg [11, 13, 44] k (fun kq v11 v13 v44 w' => ∃ (x11_1 : ByteArray) (x13_1 : List ByteArray) (x44_1 : Int), v11 = .string x11_1 ∧ v44 = .int .i64 x44_1 ∧ Aside0 (impl_PathProof.l0 kq l0 x11_1 x13_1 t1078 (t1078.length : Int) x44_1 = some r) ∧ Aside0 (kq ≤ k) ∧ Aside0 (Kd.R Kd.string 9 w' w.heap.size (fun k_ => some k_ ≠ ((.slice Ao13 t1078.length co13) : Value).ownBlock) v13 x13_1) ∧ Aside0 (Kd.R Kd.string 9 w' w.heap.size (fun k_ => some k_ ≠ (v13 : Value).ownBlock) (.slice Ao13 t1078.length co13) t1078) ∧ Aside0 (Below w.heap.size w w'))
  case atStart => exact ⟨(t1082), (y1084), (0), (by first | rfl | (simp; done) | (simp [*]; done)), (by first | rfl | (simp; done) | (simp [*]; done)), H', ⟨Nat.le_refl _⟩, ⟨by (with_reducible repeat (first | apply Kd.R_alloc | apply Kd.R_drewN | apply Kd.R_drew)); exact Kd.R_mono HO1086.out (fun _ hk => hk.2)⟩, ⟨by (with_reducible repeat (first | apply Kd.R_alloc | apply Kd.R_drewN | apply Kd.R_drew)); exact Kd.R_mono HO1081.out (fun _ hk => hk.2)⟩, ⟨hb_⟩⟩
  case round =>
   clear H'
   try clear p2
   try clear c4
   try clear c5
   try clear c6
   try clear c7
   obtain ⟨x11_1, x13_1, x44_1, rfl, rfl, HA, HK1, HO_13, HO_42, HB⟩ := hrel
   cases gk with
   | zero => exact absurd HA.out (by simp [impl_PathProof.l0])
   | succ k1 =>
    have H := HA.out
    clear HA
    simp only [impl_PathProof.l0] at H
    by_cases c14 : x44_1 < (t1078.length : Int)
    ·rw [if_pos c14] at H
     have c14b0 : decide (x44_1 < (t1078.length : Int)) = true := decide_eq_true c14
     clear c14
     by_cases c15 : 0 ≤ x44_1
     ·rw [if_pos c15] at H
      have c15b0 : decide (0 ≤ x44_1) = true := decide_eq_true c15
      clear c15
      by_cases c16 : x44_1 < (t1078.length : Int)
      ·rw [if_pos c16] at H
       have c16b0 : decide (x44_1 < (t1078.length : Int)) = true := decide_eq_true c16
       clear c16
       replace H := Option.bind_eq_some_iff.mp H
       obtain ⟨⟨t1088, t1089⟩, A170, H⟩ := H
       replace H : ((impl_printNamed.f k1 t1088 (rdOf ByteArray.empty t1078 x44_1)).bind fun bt1092 => ((impl_textOf.f k1 l0 bt1092.1).bind fun bt1094 => (if x13_1.length < 8796093022208 then (impl_PathProof.l0 k1 l0 bt1094.1 (x13_1 ++ [bt1094.1]) t1078 (t1078.length : Int) (wrap64 (x44_1 + 1))) else (none)))) = some r := H
       have A17 := Aside0.mk A170
       clear A170
       replace H := Option.bind_eq_some_iff.mp H
       obtain ⟨⟨t1092, t1093⟩, A180, H⟩ := H
       replace H : ((impl_textOf.f k1 l0 t1092).bind fun bt1094 => (if x13_1.length < 8796093022208 then (impl_PathProof.l0 k1 l0 bt1094.1 (x13_1 ++ [bt1094.1]) t1078 (t1078.length : Int) (wrap64 (x44_1 + 1))) else (none))) = some r := H
       have A18 := Aside0.mk A180
       clear A180
       replace H := Option.bind_eq_some_iff.mp H
       obtain ⟨⟨t1094, t1095⟩, A190, H⟩ := H
       replace H : (if x13_1.length < 8796093022208 then (impl_PathProof.l0 k1 l0 t1094 (x13_1 ++ [t1094]) t1078 (t1078.length : Int) (wrap64 (x44_1 + 1))) else (none)) = some r := H
       have A19 := Aside0.mk A190
       clear A190
       by_cases c20 : x13_1.length < 8796093022208
       ·rw [if_pos c20] at H
        have LMc20 := Aside0.mk c20
        clear c20
        obtain ⟨y1096, hy1096⟩ : ∃ y_ : List ByteArray, y_ = (x13_1 ++ [t1094]) := ⟨_, rfl⟩
        replace H : (impl_PathProof.l0 k1 l0 t1094 y1096 t1078 (t1078.length : Int) (wrap64 (x44_1 + 1))) = some r := by first | (rw [hy1096]; with_reducible exact H) | (have H2_ := (Option.bind_some _ _).symm.trans H; rw [hy1096]; with_reducible exact H2_) | (have H2_ := (Option.bind_some _ _).symm.trans H; with_reducible exact H2_) | with_reducible exact H | (rw [hy1096]; exact H) | exact H
        have Ny1096 := Aside0.mk hy1096
        clear hy1096
        have H' := Aside0.mk H
        clear H
        have p1087 : 0 ≤ (x44_1 : Int) := of_decide_eq_true ma_
        have q1087 : x44_1 < (t1078.length : Int) := of_decide_eq_true ma_
        obtain ⟨ad1087, e1087, hx1087_0⟩ := Kd.at_string (Kd.R_reads' HO_42.out).2.2 x44_1 p1087 q1087
        cases e1087
        replace p1087 := eq_true p1087
        replace q1087 := eq_true q1087
        go_wp2_with (first | ((with_reducible refine gate_callee (f := 68) rfl ?_); refine goesL_ (some 50) rfl rfl Tryd.func68 (by kernel_rfl) rfl #[.string x11_1] rfl sl_ ?_; (with_reducible refine (impl_ReadFolder.calls k1 x11_1 t1088 t1089 _ (GT_on hb_ hG) A17.out).mono ?_); rintro e w21 ⟨v1090, rfl, ho0, hb⟩; refine ⟨_, rfl, ?_⟩; replace HO_13 := Aside0.mk (Kd.R_below (kR_ HO_13.out) hb); replace HO_42 := Aside0.mk (Kd.R_below (kR_ HO_42.out) hb); have HO1091 := Aside0.mk (Kd.R_lower ho0 (below_size hb_)); replace HB := Aside0.mk (below_step hb_ hb); (try clear hb); (try clear hk); (try clear ho0); obtain ⟨Ao22, co22, eo22⟩ := Kd.R_slice HO1091.out; subst eo22) | ((with_reducible refine gate_callee (f := 69) rfl ?_); refine goesL_ (some 56) rfl rfl Tryd.func69 (by kernel_rfl) rfl #[.slice Ao22 t1088.length co22, .string (rdOf ByteArray.empty t1078 x44_1)] rfl sl_ ?_; (with_reducible refine (impl_printNamed.calls k1 _ _ t1088 (rdOf ByteArray.empty t1078 x44_1) t1092 t1093 _ ?side1 ?side2 A18.out).mono ?_); (case side1 => exact kC_ ((Kd.R_reads' HO1091.out).2.2)); (case side2 => exact (Kd.R_reads' HO1091.out).2.1); rintro e w23 ⟨rfl, hb⟩; refine ⟨_, rfl, ?_⟩; replace HO_13 := Aside0.mk (Kd.R_below (kR_ HO_13.out) hb); replace HO_42 := Aside0.mk (Kd.R_below (kR_ HO_42.out) hb); replace HO1091 := Aside0.mk (Kd.R_below (kR_ HO1091.out) hb); replace HB := Aside0.mk (below_step hb_ hb); (try clear hb); (try clear hk)) | ((with_reducible refine gate_callee (f := 60) rfl ?_); refine goesL_ (some 62) rfl rfl Tryd.func60 (by kernel_rfl) rfl #[.slice A0 l0.length c0, .int .i64 t1092] rfl sl_ ?_; (with_reducible refine (impl_textOf.calls k1 _ _ l0 t1092 t1094 t1095 _ ?side1 ?side2 A19.out).mono ?_); (case side1 => exact kC_ (Kd.C_below HR0.out HB.out)); (case side2 => exact HC0.out); rintro e w24 ⟨rfl, hb⟩; refine ⟨_, rfl, ?_⟩; replace HO_13 := Aside0.mk (Kd.R_below (kR_ HO_13.out) hb); replace HO_42 := Aside0.mk (Kd.R_below (kR_ HO_42.out) hb); replace HO1091 := Aside0.mk (Kd.R_below (kR_ HO1091.out) hb); replace HB := Aside0.mk (below_step hb_ hb); (try clear hb); (try clear hk)) | ((with_reducible refine gate_builtin (b := .append) (xs := #[.tmp 65, .tmp 67]) rfl ?_); at_builtin; refine Kd.R_append Kd.string (w0 := w) w.heap.size rfl (.tmp 65) (.tmp 67) 44 9 (.string ⟨#[]⟩) 16 rfl Tryd.underlying44 info9 rfl (by decide) (by omega) u13 x13_1 t1094 [.string t1094] (fun k_ => some k_ ≠ (.slice (some ad1087) t1078.length co13 : Value).ownBlock) (fun _ => False) rfl rfl ?aP (fun _ hk => hk.elim) ?aF ?aO ?aB ?aS ?aL ?_; (case aP => exact rfl); (case aB => exact hb_); (case aF => exact (fun k_ hk => Kd.fresh' (Kd.R_lt (kR_ HO_42.out)) k_ hk)); (case aO => exact (kR_ HO_13.out)); (case aS => exact (below_size hb_)); (case aL => have := LMc20.out; omega); intro v1097 w25 ho hb hg hat; rw [← Ny1096.out] at ho; have n0_ := Aside0.mk (Kd.R_after (ok := (fun _ => True)) (by (with_reducible repeat (first | apply Kd.R_alloc | apply Kd.R_drewN | apply Kd.R_drew)); exact Kd.R_mono HO_42.out (fun _ hk => ⟨trivial, hk⟩)) hg hat); have n1_ := Aside0.mk (Kd.R_over' (kR_ HO1091.out) (Kd.R_typed (kR_ HO_13.out)) (by decide) hg); have n2_ := Aside0.mk (hb); have n3_ := Aside0.mk (ho); clear HO_42; clear HO1091; clear HB; clear HO_13; have HO_42 := n0_; have HO1091 := n1_; have HB := n2_; have HO1098 := n3_; clear n0_ n1_ n2_ n3_; clear ho hb hg hat))
        go_roundg k1
        case measure => have := HK1.out; omega
        case rel => exact ⟨(t1094), (y1096), (wrap64 (x44_1 + 1)), (by first | rfl | (simp; done) | (simp [*]; done)), (by first | rfl | (simp; done) | (simp [*]; done)), H', ⟨by have := HK1.out; omega⟩, ⟨by (with_reducible repeat (first | apply Kd.R_alloc | apply Kd.R_drewN | apply Kd.R_drew)); exact HO1098.out⟩, ⟨by (with_reducible repeat (first | apply Kd.R_alloc | apply Kd.R_drewN | apply Kd.R_drew)); exact Kd.R_mono HO_42.out (fun _ hk => hk.2)⟩, ⟨hb_⟩⟩
       ·rw [if_neg c20] at H
        exact absurd H (by simp)
      ·rw [if_neg c16] at H
       exact absurd H (by simp)
     ·rw [if_neg c15] at H
      exact absurd H (by simp)
    ·rw [if_neg c14] at H
     have c14b0 : decide (x44_1 < (t1078.length : Int)) = false := decide_eq_false c14
     clear c14
     obtain rfl := Option.some.inj H
     go_wp2
     go_ret
     exact ⟨_, er_, by (with_reducible repeat (first | apply Kd.R_alloc | apply Kd.R_drewN | apply Kd.R_drew)); exact Kd.R_mono HO_13.out (fun _ hk => trivial), hb_⟩
 ·replace c5 := Bool.eq_false_iff.mpr c5
  subst c5
  have H1 : (some ([] : List ByteArray)) = some r := by rw [if_neg (show ¬ (false = true) by decide)] at H; exact H
  clear H
  have H := H1
  clear H1
  obtain rfl := Option.some.inj H
  go_enter Tryd.func47, Tryd.ntmps47
  go_wp2_with (first | ((with_reducible refine gate_callee (f := 75) rfl ?_); refine goesL_ (some 24) rfl rfl Tryd.func75 (by kernel_rfl) rfl #[.slice A0 l0.length c0, .int .i64 a1, .string a2] rfl sl_ ?_; (with_reducible refine (impl_WalkTo.calls k _ _ l0 a1 a2 t1076 false _ ?side1 ?side2 (GT_on hb_ hG) A4.out).mono ?_); (case side1 => exact kC_ HR0.out); (case side2 => exact HC0.out); rintro e w26 ⟨rfl, hb⟩; refine ⟨_, rfl, ?_⟩; replace HB := Aside0.mk (below_step hb_ hb); (try clear hb)))
  go_ret
  exact ⟨_, er_, by first | exact Kd.R_nil _ _ _ _ _ | exact Kd.N_nil _ _ _ _ _ | exact Kd.V_nil _ _ _ _ _ | exact Kd.Q_nil _ _ _ _ _ | exact Kd.S_nil _ _ _ _ _, hb_⟩
end Go.Proofs.YtjgbidklkhohfaaDoor.P
