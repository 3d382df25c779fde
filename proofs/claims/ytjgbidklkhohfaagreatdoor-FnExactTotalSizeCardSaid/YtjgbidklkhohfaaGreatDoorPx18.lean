-- The functions of the seat as plain Lean functions, made by the kit's print.py for all laws at once. Not trusted: Lean checks it.
import Derived.Test.YtjgbidklkhohfaaGreatDoorPx0
import Derived.Test.YtjgbidklkhohfaaGreatDoorPx3
import Derived.Test.YtjgbidklkhohfaaGreatDoorPx5
import Derived.Test.YtjgbidklkhohfaaGreatDoorPx7
import Derived.Test.YtjgbidklkhohfaaGreatDoorPx8
import Derived.Test.YtjgbidklkhohfaaGreatDoorPx10
namespace Go.Proofs.YtjgbidklkhohfaaGreatDoor.P
open Go.RowKit Go.Proofs.YtjgbidklkhohfaaGreatDoorW.PrintWords Go.Proofs.YtjgbidklkhohfaaGreatDoorW.PrintLast Go.Proofs.YtjgbidklkhohfaaGreatDoorW.PrintMore
attribute [local go_sem] max2_int min2_int max_two min_two max_three min_three max_four min_four   -- for this text's walks alone
set_option linter.unusedVariables false
set_option linter.unusedSimpArgs false
/-! ### spec_TotalSize: function 19 -/
def spec_TotalSize.l0 : Nat → List (S46) → Int → Int → List ByteArray → Int → Option (Int)
 | 0, _, _, _, _, _ => none
 | k + 1, x0, x1, x5, x6, x7 => if x7 < (x6.length : Int) then (if 0 ≤ x7 then ((spec_ReadAt.f k x0 x1 (rdOf ByteArray.empty x6 x7)).bind fun bt548 => (spec_TotalSize.l0 k x0 x1 (wrap64 (x5 + (bt548.1.size : Int))) x6 (wrap64 (x7 + 1)))) else (none)) else (some x5)
def spec_TotalSize.f (k : Nat) (l0 : List (S46)) (a1 : Int) : Option (Int) := (spec_AllFiles.f k l0 a1).bind fun t544 => (spec_TotalSize.l0 k l0 a1 0 t544 0)
theorem spec_TotalSize.mono_l : ∀ k, (∀ y0 y1 y2 y3 y4, LeO (spec_TotalSize.l0 k y0 y1 y2 y3 y4) (spec_TotalSize.l0 (k + 1) y0 y1 y2 y3 y4))
 | 0 => fun _ _ _ _ _ r h => by simp [spec_TotalSize.l0] at h
 | k + 1 => by
  have ih0 := spec_TotalSize.mono_l k
  ·intro y0 y1 y2 y3 y4
   unfold spec_TotalSize.l0
   repeat' first
   | (with_reducible exact ih0 _ _ _ _ _)
   | (with_reducible exact spec_AllFiles.mono _ _ _)
   | (with_reducible exact spec_ReadAt.mono _ _ _ _)
   | (with_reducible exact LeO.refl _)
   | (with_reducible exact LeO.none _)
   | (with_reducible refine LeO.ite ?_ ?_)
   | (with_reducible refine LeO.bind ?_ (fun _ => ?_))
   | exact ih0 _ _ _ _ _
   | exact spec_AllFiles.mono _ _ _
   | exact spec_ReadAt.mono _ _ _ _
   | exact LeO.none _
   | refine LeO.ite ?_ ?_
   | refine LeO.bind ?_ (fun _ => ?_)
theorem spec_TotalSize.mono : ∀ a0 a1 k, LeO (spec_TotalSize.f k a0 a1) (spec_TotalSize.f (k + 1) a0 a1) := by
 intro a0 a1 k
 have ih0 := spec_TotalSize.mono_l k
 unfold spec_TotalSize.f
 repeat' first
   | (with_reducible exact ih0 _ _ _ _ _)
   | (with_reducible exact spec_AllFiles.mono _ _ _)
   | (with_reducible exact spec_ReadAt.mono _ _ _ _)
   | (with_reducible exact LeO.refl _)
   | (with_reducible exact LeO.none _)
   | (with_reducible refine LeO.ite ?_ ?_)
   | (with_reducible refine LeO.bind ?_ (fun _ => ?_))
   | exact ih0 _ _ _ _ _
   | exact spec_AllFiles.mono _ _ _
   | exact spec_ReadAt.mono _ _ _ _
   | exact LeO.none _
   | refine LeO.ite ?_ ?_
   | refine LeO.bind ?_ (fun _ => ?_)
set_option maxHeartbeats 8000000 in
set_option maxRecDepth 100000 in
theorem spec_TotalSize.calls (k : Nat) (A0 : Option Addr) (c0 : Nat) (l0 : List (S46)) (a1 : Int) (r : Int) (w : World) (hr0 : Kd.C k46 w A0 l0.length l0) (hc0 : l0.length ≤ c0) (h : spec_TotalSize.f k l0 a1 = some r) :
  Calls Tryz.prog 19 #[.slice A0 l0.length c0, .int .i64 a1] w fun e w' => e = .returned (.int .i64 r) ∧ Below w.heap.size w w' := by
 have HR0 := Aside0.mk hr0
 have HC0 := Aside0.mk hc0
 clear hr0 hc0
 have HB := Aside0.mk (Below.refl w.heap.size w)
 have H : ((spec_AllFiles.f k l0 a1).bind fun t544 => (spec_TotalSize.l0 k l0 a1 0 t544 0)) = some r := h
 clear h
 replace H := Option.bind_eq_some_iff.mp H
 obtain ⟨t544, A30, H⟩ := H
 replace H : (spec_TotalSize.l0 k l0 a1 0 t544 0) = some r := H
 have A3 := Aside0.mk A30
 clear A30
 have H' := Aside0.mk H
 clear H
 go_enter Tryz.func19, Tryz.ntmps19
 go_wp2_with (first | ((with_reducible refine gate_callee (f := 29) rfl ?_); refine goesL_ (some 12) rfl rfl Tryz.func29 (by kernel_rfl) rfl #[.slice A0 l0.length c0, .int .i64 a1] rfl sl_ ?_; (with_reducible refine (spec_AllFiles.calls k _ _ l0 a1 t544 _ ?side1 ?side2 A3.out).mono ?_); (case side1 => exact kC_ HR0.out); (case side2 => exact HC0.out); rintro e w4 ⟨v545, rfl, ho0, hb⟩; refine ⟨_, rfl, ?_⟩; have HO546 := Aside0.mk (Kd.R_lower ho0 (below_size hb_)); replace HB := Aside0.mk (below_step hb_ hb); (try clear hb); (try clear ho0)))
 go_loopg [5, 7] k (fun kq v5 v7 w' => ∃ (x5_1 : Int) (x7_1 : Int), v5 = .int .i64 x5_1 ∧ v7 = .int .i64 x7_1 ∧ Aside0 (spec_TotalSize.l0 kq l0 a1 x5_1 t544 x7_1 = some r) ∧ Aside0 (kq ≤ k) ∧ Aside0 (Kd.R Kd.string 9 w' w.heap.size (fun _ => True) v545 t544) ∧ Aside0 (Below w.heap.size w w'))
 case atStart => exact ⟨(0), (0), (by first | rfl | (simp; done) | (simp [*]; done)), (by first | rfl | (simp; done) | (simp [*]; done)), H', ⟨Nat.le_refl _⟩, ⟨by (with_reducible repeat (first | apply Kd.R_alloc | apply Kd.R_drewN | apply Kd.R_drew)); exact HO546.out⟩, ⟨hb_⟩⟩
 case round =>
  clear H'
  try clear c1
  try clear c2
  try clear p2
  obtain ⟨x5_1, x7_1, rfl, rfl, HA, HK1, HO_6, HB⟩ := hrel
  cases gk with
  | zero => exact absurd HA.out (by simp [spec_TotalSize.l0])
  | succ k1 =>
   have H := HA.out
   clear HA
   simp only [spec_TotalSize.l0] at H
   by_cases c5 : x7_1 < (t544.length : Int)
   ·rw [if_pos c5] at H
    have c5b0 : decide (x7_1 < (t544.length : Int)) = true := decide_eq_true c5
    clear c5
    by_cases c6 : 0 ≤ x7_1
    ·rw [if_pos c6] at H
     have c6b0 : decide (0 ≤ x7_1) = true := decide_eq_true c6
     clear c6
     replace H := Option.bind_eq_some_iff.mp H
     obtain ⟨⟨t548, t549⟩, A70, H⟩ := H
     replace H : (spec_TotalSize.l0 k1 l0 a1 (wrap64 (x5_1 + (t548.size : Int))) t544 (wrap64 (x7_1 + 1))) = some r := H
     have A7 := Aside0.mk A70
     clear A70
     have H' := Aside0.mk H
     clear H
     obtain ⟨Ao8, co8, eo8⟩ := Kd.R_slice HO_6.out
     subst eo8
     have p547 : 0 ≤ (x7_1 : Int) := of_decide_eq_true ma_
     have q547 : x7_1 < (t544.length : Int) := of_decide_eq_true ma_
     obtain ⟨ad547, e547, hx547_0⟩ := Kd.at_string (Kd.R_reads' HO_6.out).2.2 x7_1 p547 q547
     cases e547
     replace p547 := eq_true p547
     replace q547 := eq_true q547
     go_wp2_with (first | ((with_reducible refine gate_callee (f := 44) rfl ?_); refine goesL_ (some 26) rfl rfl Tryz.func44 (by kernel_rfl) rfl #[.slice A0 l0.length c0, .int .i64 a1, .string (rdOf ByteArray.empty t544 x7_1)] rfl sl_ ?_; (with_reducible refine (spec_ReadAt.calls k1 _ _ l0 a1 (rdOf ByteArray.empty t544 x7_1) t548 t549 _ ?side1 ?side2 A7.out).mono ?_); (case side1 => exact kC_ (Kd.C_below HR0.out HB.out)); (case side2 => exact HC0.out); rintro e w9 ⟨rfl, hb⟩; refine ⟨_, rfl, ?_⟩; replace HO_6 := Aside0.mk (Kd.R_below (kR_ HO_6.out) hb); replace HB := Aside0.mk (below_step hb_ hb); (try clear hb)))
     go_roundg k1
     case measure => have := HK1.out; omega
     case rel => exact ⟨(wrap64 (x5_1 + (t548.size : Int))), (wrap64 (x7_1 + 1)), (by first | rfl | (simp; done) | (simp [*]; done)), (by first | rfl | (simp; done) | (simp [*]; done)), H', ⟨by have := HK1.out; omega⟩, ⟨by (with_reducible repeat (first | apply Kd.R_alloc | apply Kd.R_drewN | apply Kd.R_drew)); exact HO_6.out⟩, ⟨hb_⟩⟩
    ·rw [if_neg c6] at H
     exact absurd H (by simp)
   ·rw [if_neg c5] at H
    have c5b0 : decide (x7_1 < (t544.length : Int)) = false := decide_eq_false c5
    clear c5
    obtain rfl := Option.some.inj H
    obtain ⟨Ao10, co10, eo10⟩ := Kd.R_slice HO_6.out
    subst eo10
    go_wp2
    go_ret
    exact ⟨er_, hb_⟩
/-! ### impl_TotalSize: function 20 -/
def impl_TotalSize.l0 : Nat → List (S46) → Int → Int → List ByteArray → Int → Int → Option (Int)
 | 0, _, _, _, _, _, _ => none
 | k + 1, x0, x1, x5, x12, x13, x14 => if x14 < x13 then (if 0 ≤ x14 then (if x14 < (x12.length : Int) then ((impl_ReadAt.f k x0 x1 (rdOf ByteArray.empty x12 x14)).bind fun bt572 => (impl_TotalSize.l0 k x0 x1 (wrap64 (x5 + (bt572.1.size : Int))) x12 x13 (wrap64 (x14 + 1)))) else (none)) else (none)) else (some x5)
def impl_TotalSize.f (k : Nat) (l0 : List (S46)) (a1 : Int) : Option (Int) := (impl_AllFiles.f k l0 a1).bind fun t568 => (impl_TotalSize.l0 k l0 a1 0 t568 (t568.length : Int) 0)
theorem impl_TotalSize.mono_l : ∀ k, (∀ y0 y1 y2 y3 y4 y5, LeO (impl_TotalSize.l0 k y0 y1 y2 y3 y4 y5) (impl_TotalSize.l0 (k + 1) y0 y1 y2 y3 y4 y5))
 | 0 => fun _ _ _ _ _ _ r h => by simp [impl_TotalSize.l0] at h
 | k + 1 => by
  have ih0 := impl_TotalSize.mono_l k
  ·intro y0 y1 y2 y3 y4 y5
   unfold impl_TotalSize.l0
   repeat' first
   | (with_reducible exact ih0 _ _ _ _ _ _)
   | (with_reducible exact impl_AllFiles.mono _ _ _)
   | (with_reducible exact impl_ReadAt.mono _ _ _ _)
   | (with_reducible exact LeO.refl _)
   | (with_reducible exact LeO.none _)
   | (with_reducible refine LeO.ite ?_ ?_)
   | (with_reducible refine LeO.bind ?_ (fun _ => ?_))
   | exact ih0 _ _ _ _ _ _
   | exact impl_AllFiles.mono _ _ _
   | exact impl_ReadAt.mono _ _ _ _
   | exact LeO.none _
   | refine LeO.ite ?_ ?_
   | refine LeO.bind ?_ (fun _ => ?_)
theorem impl_TotalSize.mono : ∀ a0 a1 k, LeO (impl_TotalSize.f k a0 a1) (impl_TotalSize.f (k + 1) a0 a1) := by
 intro a0 a1 k
 have ih0 := impl_TotalSize.mono_l k
 unfold impl_TotalSize.f
 repeat' first
   | (with_reducible exact ih0 _ _ _ _ _ _)
   | (with_reducible exact impl_AllFiles.mono _ _ _)
   | (with_reducible exact impl_ReadAt.mono _ _ _ _)
   | (with_reducible exact LeO.refl _)
   | (with_reducible exact LeO.none _)
   | (with_reducible refine LeO.ite ?_ ?_)
   | (with_reducible refine LeO.bind ?_ (fun _ => ?_))
   | exact ih0 _ _ _ _ _ _
   | exact impl_AllFiles.mono _ _ _
   | exact impl_ReadAt.mono _ _ _ _
   | exact LeO.none _
   | refine LeO.ite ?_ ?_
   | refine LeO.bind ?_ (fun _ => ?_)
set_option maxHeartbeats 8000000 in
set_option maxRecDepth 100000 in
theorem impl_TotalSize.calls (k : Nat) (A0 : Option Addr) (c0 : Nat) (l0 : List (S46)) (a1 : Int) (r : Int) (w : World) (hr0 : Kd.C k46 w A0 l0.length l0) (hc0 : l0.length ≤ c0) (hG : GT w) (h : impl_TotalSize.f k l0 a1 = some r) :
  Calls Tryz.prog 20 #[.slice A0 l0.length c0, .int .i64 a1] w fun e w' => e = .returned (.int .i64 r) ∧ Below w.heap.size w w' := by
 have HR0 := Aside0.mk hr0
 have HC0 := Aside0.mk hc0
 clear hr0 hc0
 have HB := Aside0.mk (Below.refl w.heap.size w)
 have H : ((impl_AllFiles.f k l0 a1).bind fun t568 => (impl_TotalSize.l0 k l0 a1 0 t568 (t568.length : Int) 0)) = some r := h
 clear h
 replace H := Option.bind_eq_some_iff.mp H
 obtain ⟨t568, A30, H⟩ := H
 replace H : (impl_TotalSize.l0 k l0 a1 0 t568 (t568.length : Int) 0) = some r := H
 have A3 := Aside0.mk A30
 clear A30
 have H' := Aside0.mk H
 clear H
 go_enter Tryz.func20, Tryz.ntmps20
 go_wp2_with (first | ((with_reducible refine gate_callee (f := 32) rfl ?_); refine goesL_ (some 12) rfl rfl Tryz.func32 (by kernel_rfl) rfl #[.slice A0 l0.length c0, .int .i64 a1] rfl sl_ ?_; (with_reducible refine (impl_AllFiles.calls k _ _ l0 a1 t568 _ ?side1 ?side2 (GT_on hb_ hG) A3.out).mono ?_); (case side1 => exact kC_ HR0.out); (case side2 => exact HC0.out); rintro e w4 ⟨v569, rfl, ho0, hb⟩; refine ⟨_, rfl, ?_⟩; have HO570 := Aside0.mk (Kd.R_lower ho0 (below_size hb_)); replace HB := Aside0.mk (below_step hb_ hb); (try clear hb); (try clear ho0); obtain ⟨Ao5, co5, eo5⟩ := Kd.R_slice HO570.out; subst eo5))
 go_loopg [5, 14] k (fun kq v5 v14 w' => ∃ (x5_1 : Int) (x14_1 : Int), v5 = .int .i64 x5_1 ∧ v14 = .int .i64 x14_1 ∧ Aside0 (impl_TotalSize.l0 kq l0 a1 x5_1 t568 (t568.length : Int) x14_1 = some r) ∧ Aside0 (kq ≤ k) ∧ Aside0 (Kd.R Kd.string 9 w' w.heap.size (fun _ => True) (.slice Ao5 t568.length co5) t568) ∧ Aside0 (Below w.heap.size w w'))
 case atStart => exact ⟨(0), (0), (by first | rfl | (simp; done) | (simp [*]; done)), (by first | rfl | (simp; done) | (simp [*]; done)), H', ⟨Nat.le_refl _⟩, ⟨by (with_reducible repeat (first | apply Kd.R_alloc | apply Kd.R_drewN | apply Kd.R_drew)); exact HO570.out⟩, ⟨hb_⟩⟩
 case round =>
  clear H'
  try clear c2
  try clear p2
  try clear c3
  obtain ⟨x5_1, x14_1, rfl, rfl, HA, HK1, HO_12, HB⟩ := hrel
  cases gk with
  | zero => exact absurd HA.out (by simp [impl_TotalSize.l0])
  | succ k1 =>
   have H := HA.out
   clear HA
   simp only [impl_TotalSize.l0] at H
   by_cases c6 : x14_1 < (t568.length : Int)
   ·rw [if_pos c6] at H
    have c6b0 : decide (x14_1 < (t568.length : Int)) = true := decide_eq_true c6
    clear c6
    by_cases c7 : 0 ≤ x14_1
    ·rw [if_pos c7] at H
     have c7b0 : decide (0 ≤ x14_1) = true := decide_eq_true c7
     clear c7
     by_cases c8 : x14_1 < (t568.length : Int)
     ·rw [if_pos c8] at H
      have c8b0 : decide (x14_1 < (t568.length : Int)) = true := decide_eq_true c8
      clear c8
      replace H := Option.bind_eq_some_iff.mp H
      obtain ⟨⟨t572, t573⟩, A90, H⟩ := H
      replace H : (impl_TotalSize.l0 k1 l0 a1 (wrap64 (x5_1 + (t572.size : Int))) t568 (t568.length : Int) (wrap64 (x14_1 + 1))) = some r := H
      have A9 := Aside0.mk A90
      clear A90
      have H' := Aside0.mk H
      clear H
      have p571 : 0 ≤ (x14_1 : Int) := of_decide_eq_true ma_
      have q571 : x14_1 < (t568.length : Int) := of_decide_eq_true ma_
      obtain ⟨ad571, e571, hx571_0⟩ := Kd.at_string (Kd.R_reads' HO_12.out).2.2 x14_1 p571 q571
      cases e571
      replace p571 := eq_true p571
      replace q571 := eq_true q571
      go_wp2_with (first | ((with_reducible refine gate_callee (f := 45) rfl ?_); refine goesL_ (some 22) rfl rfl Tryz.func45 (by kernel_rfl) rfl #[.slice A0 l0.length c0, .int .i64 a1, .string (rdOf ByteArray.empty t568 x14_1)] rfl sl_ ?_; (with_reducible refine (impl_ReadAt.calls k1 _ _ l0 a1 (rdOf ByteArray.empty t568 x14_1) t572 t573 _ ?side1 ?side2 (GT_on hb_ hG) A9.out).mono ?_); (case side1 => exact kC_ (Kd.C_below HR0.out HB.out)); (case side2 => exact HC0.out); rintro e w10 ⟨rfl, hb⟩; refine ⟨_, rfl, ?_⟩; replace HO_12 := Aside0.mk (Kd.R_below (kR_ HO_12.out) hb); replace HB := Aside0.mk (below_step hb_ hb); (try clear hb)))
      go_roundg k1
      case measure => have := HK1.out; omega
      case rel => exact ⟨(wrap64 (x5_1 + (t572.size : Int))), (wrap64 (x14_1 + 1)), (by first | rfl | (simp; done) | (simp [*]; done)), (by first | rfl | (simp; done) | (simp [*]; done)), H', ⟨by have := HK1.out; omega⟩, ⟨by (with_reducible repeat (first | apply Kd.R_alloc | apply Kd.R_drewN | apply Kd.R_drew)); exact HO_12.out⟩, ⟨hb_⟩⟩
     ·rw [if_neg c8] at H
      exact absurd H (by simp)
    ·rw [if_neg c7] at H
     exact absurd H (by simp)
   ·rw [if_neg c6] at H
    have c6b0 : decide (x14_1 < (t568.length : Int)) = false := decide_eq_false c6
    clear c6
    obtain rfl := Option.some.inj H
    go_wp2
    go_ret
    exact ⟨er_, hb_⟩
/-! ### laws_FnExactTotalSize: function 5 -/
def laws_FnExactTotalSize.f (k : Nat) (l0 : List (S42)) (a1 : Int) : Option (Bool) := (laws_szPieceS.f k l0 1048576).bind fun t574 => (if t574 < 0 then (some true) else ((laws_toPieceS.f k l0).bind fun t575 => ((spec_TotalSize.f k t575 a1).bind fun t578 => ((laws_toPieceS.f k l0).bind fun t579 => ((impl_TotalSize.f k t579 a1).bind fun t582 => (if t582 = t578 then ((laws_toPieceS.f k l0).bind fun t583 => ((laws_eqPieceS.f k t579 t583).bind fun t586 => (if t586 = true then (some true) else (some false)))) else (some false)))))))
theorem laws_FnExactTotalSize.mono : ∀ a0 a1 k, LeO (laws_FnExactTotalSize.f k a0 a1) (laws_FnExactTotalSize.f (k + 1) a0 a1) := by
 intro a0 a1 k
 unfold laws_FnExactTotalSize.f
 repeat' first
   | (with_reducible exact impl_TotalSize.mono _ _ _)
   | (with_reducible exact laws_eqPieceS.mono _ _ _)
   | (with_reducible exact laws_szPieceS.mono _ _ _)
   | (with_reducible exact laws_toPieceS.mono _ _)
   | (with_reducible exact spec_TotalSize.mono _ _ _)
   | (with_reducible exact LeO.refl _)
   | (with_reducible exact LeO.none _)
   | (with_reducible refine LeO.ite ?_ ?_)
   | (with_reducible refine LeO.bind ?_ (fun _ => ?_))
   | exact impl_TotalSize.mono _ _ _
   | exact laws_eqPieceS.mono _ _ _
   | exact laws_szPieceS.mono _ _ _
   | exact laws_toPieceS.mono _ _
   | exact spec_TotalSize.mono _ _ _
   | exact LeO.none _
   | refine LeO.ite ?_ ?_
   | refine LeO.bind ?_ (fun _ => ?_)
set_option maxHeartbeats 8000000 in
set_option maxRecDepth 100000 in
theorem laws_FnExactTotalSize.calls (k : Nat) (A0 : Option Addr) (c0 : Nat) (l0 : List (S42)) (a1 : Int) (r : Bool) (w : World) (hr0 : Kd.C k42 w A0 l0.length l0) (hc0 : l0.length ≤ c0) (hG : GT w) (h : laws_FnExactTotalSize.f k l0 a1 = some r) (hrt : r = true) :
  Calls Tryz.prog 5 #[.slice A0 l0.length c0, .int .i64 a1] w fun e w' => e = .returned (.bool r) ∧ Below w.heap.size w w' := by
 have HR0 := Aside0.mk hr0
 have HC0 := Aside0.mk hc0
 clear hr0 hc0
 have HB := Aside0.mk (Below.refl w.heap.size w)
 have H : ((laws_szPieceS.f k l0 1048576).bind fun t574 => (if t574 < 0 then (some true) else ((laws_toPieceS.f k l0).bind fun t575 => ((spec_TotalSize.f k t575 a1).bind fun t578 => ((laws_toPieceS.f k l0).bind fun t579 => ((impl_TotalSize.f k t579 a1).bind fun t582 => (if t582 = t578 then ((laws_toPieceS.f k l0).bind fun t583 => ((laws_eqPieceS.f k t579 t583).bind fun t586 => (if t586 = true then (some true) else (some false)))) else (some false)))))))) = some r := h
 clear h
 replace H := Option.bind_eq_some_iff.mp H
 obtain ⟨t574, A30, H⟩ := H
 replace H : (if t574 < 0 then (some true) else ((laws_toPieceS.f k l0).bind fun t575 => ((spec_TotalSize.f k t575 a1).bind fun t578 => ((laws_toPieceS.f k l0).bind fun t579 => ((impl_TotalSize.f k t579 a1).bind fun t582 => (if t582 = t578 then ((laws_toPieceS.f k l0).bind fun t583 => ((laws_eqPieceS.f k t579 t583).bind fun t586 => (if t586 = true then (some true) else (some false)))) else (some false))))))) = some r := H
 have A3 := Aside0.mk A30
 clear A30
 by_cases c4 : t574 < 0
 ·rw [if_pos c4] at H
  have c4b0 : decide (t574 < 0) = true := decide_eq_true c4
  clear c4
  obtain rfl := Option.some.inj H
  go_enter Tryz.func5, Tryz.ntmps5
  go_wp2_with (first | ((with_reducible refine gate_callee (f := 8) rfl ?_); refine goesL_ (some 11) rfl rfl Tryz.func8 (by kernel_rfl) rfl #[.slice A0 l0.length c0, .int .i64 1048576] rfl sl_ ?_; (with_reducible refine (laws_szPieceS.calls k _ _ l0 1048576 t574 _ ?side1 ?side2 A3.out).mono ?_); (case side1 => exact kC_ HR0.out); (case side2 => exact HC0.out); rintro e w5 ⟨rfl, hb⟩; refine ⟨_, rfl, ?_⟩; replace HB := Aside0.mk (below_step hb_ hb); (try clear hb)))
  go_ret
  exact ⟨er_, hb_⟩
 ·rw [if_neg c4] at H
  have c4b0 : decide (t574 < 0) = false := decide_eq_false c4
  clear c4
  replace H := Option.bind_eq_some_iff.mp H
  obtain ⟨t575, A60, H⟩ := H
  replace H : ((spec_TotalSize.f k t575 a1).bind fun t578 => ((laws_toPieceS.f k l0).bind fun t579 => ((impl_TotalSize.f k t579 a1).bind fun t582 => (if t582 = t578 then ((laws_toPieceS.f k l0).bind fun t583 => ((laws_eqPieceS.f k t579 t583).bind fun t586 => (if t586 = true then (some true) else (some false)))) else (some false))))) = some r := H
  have A6 := Aside0.mk A60
  clear A60
  replace H := Option.bind_eq_some_iff.mp H
  obtain ⟨t578, A70, H⟩ := H
  replace H : ((laws_toPieceS.f k l0).bind fun t579 => ((impl_TotalSize.f k t579 a1).bind fun t582 => (if t582 = t578 then ((laws_toPieceS.f k l0).bind fun t583 => ((laws_eqPieceS.f k t579 t583).bind fun t586 => (if t586 = true then (some true) else (some false)))) else (some false)))) = some r := H
  have A7 := Aside0.mk A70
  clear A70
  replace H := Option.bind_eq_some_iff.mp H
  obtain ⟨t579, A80, H⟩ := H
  replace H : ((impl_TotalSize.f k t579 a1).bind fun t582 => (if t582 = t578 then ((laws_toPieceS.f k l0).bind fun t583 => ((laws_eqPieceS.f k t579 t583).bind fun t586 => (if t586 = true then (some true) else (some false)))) else (some false))) = some r := H
  have A8 := Aside0.mk A80
  clear A80
  replace H := Option.bind_eq_some_iff.mp H
  obtain ⟨t582, A90, H⟩ := H
  replace H : (if t582 = t578 then ((laws_toPieceS.f k l0).bind fun t583 => ((laws_eqPieceS.f k t579 t583).bind fun t586 => (if t586 = true then (some true) else (some false)))) else (some false)) = some r := H
  have A9 := Aside0.mk A90
  clear A90
  by_cases c10 : t582 = t578
  ·rw [if_pos c10] at H
   have c10b0 : (t582 == t578) = true := beq_iff_eq.mpr c10
   have c10b1 : (t582 != t578) = false := bne_eq_false_iff_eq.mpr c10
   clear c10
   replace H := Option.bind_eq_some_iff.mp H
   obtain ⟨t583, A110, H⟩ := H
   replace H : ((laws_eqPieceS.f k t579 t583).bind fun t586 => (if t586 = true then (some true) else (some false))) = some r := H
   have A11 := Aside0.mk A110
   clear A110
   replace H := Option.bind_eq_some_iff.mp H
   obtain ⟨t586, A120, H⟩ := H
   replace H : (if t586 = true then (some true) else (some false)) = some r := H
   have A12 := Aside0.mk A120
   clear A120
   by_cases c13 : t586 = true
   ·subst c13
    have H1 : (some true) = some r := by rw [if_pos rfl] at H; exact H
    clear H
    have H := H1
    clear H1
    obtain rfl := Option.some.inj H
    go_enter Tryz.func5, Tryz.ntmps5
    go_wp2_with (first | ((with_reducible refine gate_callee (f := 8) rfl ?_); refine goesL_ (some 11) rfl rfl Tryz.func8 (by kernel_rfl) rfl #[.slice A0 l0.length c0, .int .i64 1048576] rfl sl_ ?_; (with_reducible refine (laws_szPieceS.calls k _ _ l0 1048576 t574 _ ?side1 ?side2 A3.out).mono ?_); (case side1 => exact kC_ HR0.out); (case side2 => exact HC0.out); rintro e w14 ⟨rfl, hb⟩; refine ⟨_, rfl, ?_⟩; replace HB := Aside0.mk (below_step hb_ hb); (try clear hb)) | ((with_reducible refine gate_callee (f := 10) rfl ?_); refine goesL_ (some 15) rfl rfl Tryz.func10 (by kernel_rfl) rfl #[.slice A0 l0.length c0] rfl sl_ ?_; (with_reducible refine (laws_toPieceS.calls k _ _ l0 t575 _ ?side1 ?side2 A6.out).mono ?_); (case side1 => exact kC_ (Kd.C_below HR0.out HB.out)); (case side2 => exact HC0.out); rintro e w15 ⟨v576, rfl, ho0, hb⟩; refine ⟨_, rfl, ?_⟩; have HO577 := Aside0.mk (Kd.R_lower ho0 (below_size hb_)); replace HB := Aside0.mk (below_step hb_ hb); (try clear hb); (try clear ho0); obtain ⟨Ao16, co16, eo16⟩ := Kd.R_slice HO577.out; subst eo16) | ((with_reducible refine gate_callee (f := 19) rfl ?_); refine goesL_ (some 17) rfl rfl Tryz.func19 (by kernel_rfl) rfl #[.slice Ao16 t575.length co16, .int .i64 a1] rfl sl_ ?_; (with_reducible refine (spec_TotalSize.calls k _ _ t575 a1 t578 _ ?side1 ?side2 A7.out).mono ?_); (case side1 => exact kC_ ((Kd.R_reads' HO577.out).2.2)); (case side2 => exact (Kd.R_reads' HO577.out).2.1); rintro e w17 ⟨rfl, hb⟩; refine ⟨_, rfl, ?_⟩; replace HO577 := Aside0.mk (Kd.R_below (kR_ HO577.out) hb); replace HB := Aside0.mk (below_step hb_ hb); (try clear hb)) | ((with_reducible refine gate_callee (f := 10) rfl ?_); refine goesL_ (some 19) rfl rfl Tryz.func10 (by kernel_rfl) rfl #[.slice A0 l0.length c0] rfl sl_ ?_; (with_reducible refine (laws_toPieceS.calls k _ _ l0 t579 _ ?side1 ?side2 A8.out).mono ?_); (case side1 => exact kC_ (Kd.C_below HR0.out HB.out)); (case side2 => exact HC0.out); rintro e w18 ⟨v580, rfl, ho0, hb⟩; refine ⟨_, rfl, ?_⟩; have HO581 := Aside0.mk (Kd.R_lower (Kd.R_new' ho0 (Kd.R_lt (kR_ HO577.out))) (below_size hb_)); replace HO577 := Aside0.mk (Kd.R_elder' (kR_ HO577.out) (Kd.R_base ho0) hb); replace HB := Aside0.mk (below_step hb_ hb); (try clear hb); (try clear ho0); obtain ⟨Ao19, co19, eo19⟩ := Kd.R_slice HO581.out; subst eo19) | ((with_reducible refine gate_callee (f := 20) rfl ?_); refine goesL_ (some 22) rfl rfl Tryz.func20 (by kernel_rfl) rfl #[.slice Ao19 t579.length co19, .int .i64 a1] rfl sl_ ?_; (with_reducible refine (impl_TotalSize.calls k _ _ t579 a1 t582 _ ?side1 ?side2 (GT_on hb_ hG) A9.out).mono ?_); (case side1 => exact kC_ ((Kd.R_reads' HO581.out).2.2)); (case side2 => exact (Kd.R_reads' HO581.out).2.1); rintro e w20 ⟨rfl, hb⟩; refine ⟨_, rfl, ?_⟩; replace HO577 := Aside0.mk (Kd.R_below (kR_ HO577.out) hb); replace HO581 := Aside0.mk (Kd.R_below (kR_ HO581.out) hb); replace HB := Aside0.mk (below_step hb_ hb); (try clear hb)) | ((with_reducible refine gate_callee (f := 10) rfl ?_); refine goesL_ (some 28) rfl rfl Tryz.func10 (by kernel_rfl) rfl #[.slice A0 l0.length c0] rfl sl_ ?_; (with_reducible refine (laws_toPieceS.calls k _ _ l0 t583 _ ?side1 ?side2 A11.out).mono ?_); (case side1 => exact kC_ (Kd.C_below HR0.out HB.out)); (case side2 => exact HC0.out); rintro e w21 ⟨v584, rfl, ho0, hb⟩; refine ⟨_, rfl, ?_⟩; have HO585 := Aside0.mk (Kd.R_lower (Kd.R_new' (Kd.R_new' ho0 (Kd.R_lt (kR_ HO577.out))) (Kd.R_lt (kR_ HO581.out))) (below_size hb_)); replace HO577 := Aside0.mk (Kd.R_elder' (kR_ HO577.out) (Kd.R_base ho0) hb); replace HO581 := Aside0.mk (Kd.R_elder' (kR_ HO581.out) (Kd.R_base ho0) hb); replace HB := Aside0.mk (below_step hb_ hb); (try clear hb); (try clear ho0); obtain ⟨Ao22, co22, eo22⟩ := Kd.R_slice HO585.out; subst eo22) | ((with_reducible refine gate_callee (f := 13) rfl ?_); refine goesL_ (some 29) rfl rfl Tryz.func13 (by kernel_rfl) rfl #[.slice Ao19 t579.length co19, .slice Ao22 t583.length co22] rfl sl_ ?_; (with_reducible refine (laws_eqPieceS.calls k _ _ t579 _ _ t583 true _ ?side1 ?side2 ?side3 ?side4 A12.out).mono ?_); (case side1 => exact kC_ ((Kd.R_reads' HO581.out).2.2)); (case side2 => exact (Kd.R_reads' HO581.out).2.1); (case side3 => exact kC_ ((Kd.R_reads' HO585.out).2.2)); (case side4 => exact (Kd.R_reads' HO585.out).2.1); rintro e w23 ⟨rfl, hb⟩; refine ⟨_, rfl, ?_⟩; replace HO577 := Aside0.mk (Kd.R_below (kR_ HO577.out) hb); replace HO581 := Aside0.mk (Kd.R_below (kR_ HO581.out) hb); replace HO585 := Aside0.mk (Kd.R_below (kR_ HO585.out) hb); replace HB := Aside0.mk (below_step hb_ hb); (try clear hb)))
    go_ret
    exact ⟨er_, hb_⟩
   ·replace c13 := Bool.eq_false_iff.mpr c13
    subst c13
    have H1 : (some false) = some r := by rw [if_neg (show ¬ (false = true) by decide)] at H; exact H
    clear H
    have H := H1
    clear H1
    exact absurd H (by subst hrt; decide)
  ·rw [if_neg c10] at H
   have c10b0 : (t582 == t578) = false := beq_eq_false_iff_ne.mpr c10
   have c10b1 : (t582 != t578) = true := bne_iff_ne.mpr c10
   exact absurd H (by subst hrt; decide)
end Go.Proofs.YtjgbidklkhohfaaGreatDoor.P
