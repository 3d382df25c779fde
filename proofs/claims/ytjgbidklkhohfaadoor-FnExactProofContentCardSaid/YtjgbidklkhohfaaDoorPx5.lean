-- The functions of the seat as plain Lean functions, made by the kit's print.py for all laws at once. Not trusted: Lean checks it.
import Derived.Test.YtjgbidklkhohfaaDoorPx0
import Derived.Test.YtjgbidklkhohfaaDoorPx1
import Derived.Test.YtjgbidklkhohfaaDoorPx2
import Derived.Test.YtjgbidklkhohfaaDoorPx3
import Derived.Test.YtjgbidklkhohfaaDoorPx4
namespace Go.Proofs.YtjgbidklkhohfaaDoor.P
open Go.RowKit Go.Proofs.YtjgbidklkhohfaaDoorW.PrintWords Go.Proofs.YtjgbidklkhohfaaDoorW.PrintLast Go.Proofs.YtjgbidklkhohfaaDoorW.PrintMore
attribute [local go_sem] max2_int min2_int max_two min_two max_three min_three max_four min_four   -- for this text's walks alone
set_option linter.unusedVariables false
set_option linter.unusedSimpArgs false
/-! ### laws_szStringS: function 38 -/
def laws_szStringS.l0 : Nat → List ByteArray → Int → Int → Option (Int)
 | 0, _, _, _ => none
 | k + 1, x0, x1, x5 => if x5 < (x0.length : Int) then (if 0 ≤ x5 then (if (wrap64 (x1 - ((rdOf ByteArray.empty x0 x5).size : Int))) < 0 then (some (-1)) else (laws_szStringS.l0 k x0 (wrap64 (x1 - ((rdOf ByteArray.empty x0 x5).size : Int))) (wrap64 (x5 + 1)))) else (none)) else (some x1)
def laws_szStringS.f (k : Nat) (l0 : List ByteArray) (a1 : Int) : Option (Int) := if (wrap64 (a1 - (l0.length : Int))) < 0 then (some (-1)) else (laws_szStringS.l0 k l0 (wrap64 (a1 - (l0.length : Int))) 0)
theorem laws_szStringS.mono_l : ∀ k, (∀ y0 y1 y2, LeO (laws_szStringS.l0 k y0 y1 y2) (laws_szStringS.l0 (k + 1) y0 y1 y2))
 | 0 => fun _ _ _ r h => by simp [laws_szStringS.l0] at h
 | k + 1 => by
  have ih0 := laws_szStringS.mono_l k
  ·intro y0 y1 y2
   unfold laws_szStringS.l0
   repeat' first
   | (with_reducible exact ih0 _ _ _)
   | (with_reducible exact LeO.refl _)
   | (with_reducible exact LeO.none _)
   | (with_reducible refine LeO.ite ?_ ?_)
   | (with_reducible refine LeO.bind ?_ (fun _ => ?_))
   | exact ih0 _ _ _
   | exact LeO.none _
   | refine LeO.ite ?_ ?_
   | refine LeO.bind ?_ (fun _ => ?_)
theorem laws_szStringS.mono : ∀ a0 a1 k, LeO (laws_szStringS.f k a0 a1) (laws_szStringS.f (k + 1) a0 a1) := by
 intro a0 a1 k
 have ih0 := laws_szStringS.mono_l k
 unfold laws_szStringS.f
 repeat' first
   | (with_reducible exact ih0 _ _ _)
   | (with_reducible exact LeO.refl _)
   | (with_reducible exact LeO.none _)
   | (with_reducible refine LeO.ite ?_ ?_)
   | (with_reducible refine LeO.bind ?_ (fun _ => ?_))
   | exact ih0 _ _ _
   | exact LeO.none _
   | refine LeO.ite ?_ ?_
   | refine LeO.bind ?_ (fun _ => ?_)
set_option maxHeartbeats 8000000 in
set_option maxRecDepth 100000 in
theorem laws_szStringS.calls (k : Nat) (A0 : Option Addr) (c0 : Nat) (l0 : List ByteArray) (a1 : Int) (r : Int) (w : World) (hr0 : Kd.C Kd.string w A0 l0.length l0) (hc0 : l0.length ≤ c0) (h : laws_szStringS.f k l0 a1 = some r) :
  Calls Tryd.prog 38 #[.slice A0 l0.length c0, .int .i64 a1] w fun e w' => e = .returned (.int .i64 r) ∧ Drawn0 w w' := by
 have HR0 := Aside0.mk hr0
 have HC0 := Aside0.mk hc0
 clear hr0 hc0
 have H : (if (wrap64 (a1 - (l0.length : Int))) < 0 then (some (-1)) else (laws_szStringS.l0 k l0 (wrap64 (a1 - (l0.length : Int))) 0)) = some r := h
 clear h
 by_cases c3 : (wrap64 (a1 - (l0.length : Int))) < 0
 ·rw [if_pos c3] at H
  have c3b0 : decide ((wrap64 (a1 - (l0.length : Int))) < 0) = true := decide_eq_true c3
  clear c3
  obtain rfl := Option.some.inj H
  go_enter Tryd.func38, Tryd.ntmps38
  go_wp2
  go_ret
  exact ⟨by first | rfl | (simp; done) | (simp [*]; done), by repeat (first | exact Drawn0.refl _ | apply Drawn0.step)⟩
 ·rw [if_neg c3] at H
  have c3b0 : decide ((wrap64 (a1 - (l0.length : Int))) < 0) = false := decide_eq_false c3
  clear c3
  have H' := Aside0.mk H
  clear H
  go_enter Tryd.func38, Tryd.ntmps38
  go_wp2
  go_loopg [1, 5] k (fun kq v1 v5 w' => ∃ (x1_1 : Int) (x5_1 : Int), v1 = .int .i64 x1_1 ∧ v5 = .int .i64 x5_1 ∧ Aside0 (laws_szStringS.l0 kq l0 x1_1 x5_1 = some r) ∧ Aside0 (kq ≤ k) ∧ Drawn0 w w')
  case atStart => exact ⟨(wrap64 (a1 - (l0.length : Int))), (0), (by first | rfl | (simp; done) | (simp [*]; done)), (by first | rfl | (simp; done) | (simp [*]; done)), H', ⟨Nat.le_refl _⟩, by repeat (first | exact Drawn0.refl _ | apply Drawn0.step)⟩
  case round =>
   clear H'
   try clear p2
   try clear c3
   try clear c3b0
   obtain ⟨x1_1, x5_1, rfl, rfl, HA, HK1, ⟨m1, rfl⟩⟩ := hrel
   cases gk with
   | zero => exact absurd HA.out (by simp [laws_szStringS.l0])
   | succ k1 =>
    have H := HA.out
    clear HA
    simp only [laws_szStringS.l0] at H
    by_cases c4 : x5_1 < (l0.length : Int)
    ·rw [if_pos c4] at H
     have c4b0 : decide (x5_1 < (l0.length : Int)) = true := decide_eq_true c4
     clear c4
     by_cases c5 : 0 ≤ x5_1
     ·rw [if_pos c5] at H
      have c5b0 : decide (0 ≤ x5_1) = true := decide_eq_true c5
      clear c5
      by_cases c6 : (wrap64 (x1_1 - ((rdOf ByteArray.empty l0 x5_1).size : Int))) < 0
      ·rw [if_pos c6] at H
       have c6b0 : decide ((wrap64 (x1_1 - ((rdOf ByteArray.empty l0 x5_1).size : Int))) < 0) = true := decide_eq_true c6
       clear c6
       obtain rfl := Option.some.inj H
       have p912 : 0 ≤ (x5_1 : Int) := of_decide_eq_true ma_
       have q912 : x5_1 < (l0.length : Int) := of_decide_eq_true ma_
       obtain ⟨ad912, e912, hx912_0⟩ := Kd.at_string HR0.out x5_1 p912 q912
       cases e912
       replace p912 := eq_true p912
       replace q912 := eq_true q912
       go_wp2
       go_ret
       exact ⟨by first | rfl | (simp; done) | (simp [*]; done), by repeat (first | exact Drawn0.refl _ | apply Drawn0.step)⟩
      ·rw [if_neg c6] at H
       have c6b0 : decide ((wrap64 (x1_1 - ((rdOf ByteArray.empty l0 x5_1).size : Int))) < 0) = false := decide_eq_false c6
       clear c6
       have H' := Aside0.mk H
       clear H
       have p912 : 0 ≤ (x5_1 : Int) := of_decide_eq_true ma_
       have q912 : x5_1 < (l0.length : Int) := of_decide_eq_true ma_
       obtain ⟨ad912, e912, hx912_0⟩ := Kd.at_string HR0.out x5_1 p912 q912
       cases e912
       replace p912 := eq_true p912
       replace q912 := eq_true q912
       go_wp2
       go_roundg k1
       case measure => have := HK1.out; omega
       case rel => exact ⟨(wrap64 (x1_1 - ((rdOf ByteArray.empty l0 x5_1).size : Int))), (wrap64 (x5_1 + 1)), (by first | rfl | (simp; done) | (simp [*]; done)), (by first | rfl | (simp; done) | (simp [*]; done)), H', ⟨by have := HK1.out; omega⟩, by repeat (first | exact Drawn0.refl _ | apply Drawn0.step)⟩
     ·rw [if_neg c5] at H
      exact absurd H (by simp)
    ·rw [if_neg c4] at H
     have c4b0 : decide (x5_1 < (l0.length : Int)) = false := decide_eq_false c4
     clear c4
     obtain rfl := Option.some.inj H
     go_wp2
     go_ret
     exact ⟨by first | rfl | (simp; done) | (simp [*]; done), by repeat (first | exact Drawn0.refl _ | apply Drawn0.step)⟩
/-! ### spec_l12Way: function 64 -/
mutual
def spec_l12Way.l0 : Nat → List ByteArray → List ByteArray → Int → Int → Option (Bool)
 | 0, _, _, _, _ => none
 | k + 1, x1, x2, x7, x8 => if x8 < (x2.length : Int) then (if 0 ≤ x8 then ((spec_PrintOf.f k (rdOf ByteArray.empty x2 x8)).bind fun t914 => (if t914 = x7 then (if (wrap64 (x8 + 1)) = (x2.length : Int) then (some true) else ((spec_ReadFolder.f k (rdOf ByteArray.empty x2 x8)).bind fun bt916 => (spec_l12Way.l1 k x1 x2 (-2) x8 bt916.1 0))) else (some false))) else (none)) else (some false)
def spec_l12Way.l1 : Nat → List ByteArray → List ByteArray → Int → Int → List (S63) → Int → Option (Bool)
 | 0, _, _, _, _, _, _ => none
 | k + 1, x1, x2, x7, x8, x9, x11 => if x11 < (x9.length : Int) then (if 0 ≤ x11 then (if 0 ≤ x8 then (if x8 < (x1.length : Int) then (if ((rd_T63 x9 x11).f0).toList = (rdOf ByteArray.empty x1 x8).toList then (spec_l12Way.l1 k x1 x2 ((rd_T63 x9 x11).f1) x8 x9 (wrap64 (x11 + 1))) else (spec_l12Way.l1 k x1 x2 x7 x8 x9 (wrap64 (x11 + 1)))) else (none)) else (none)) else (none)) else (spec_l12Way.l0 k x1 x2 x7 (wrap64 (x8 + 1)))
end
def spec_l12Way.f (k : Nat) (a0 : Int) (l1 : List ByteArray) (l2 : List ByteArray) : Option (Bool) := spec_l12Way.l0 k l1 l2 a0 0
theorem spec_l12Way.mono_l : ∀ k, (∀ y0 y1 y2 y3, LeO (spec_l12Way.l0 k y0 y1 y2 y3) (spec_l12Way.l0 (k + 1) y0 y1 y2 y3)) ∧ (∀ y0 y1 y2 y3 y4 y5, LeO (spec_l12Way.l1 k y0 y1 y2 y3 y4 y5) (spec_l12Way.l1 (k + 1) y0 y1 y2 y3 y4 y5))
 | 0 => ⟨fun _ _ _ _ r h => by simp [spec_l12Way.l0] at h, fun _ _ _ _ _ _ r h => by simp [spec_l12Way.l1] at h⟩
 | k + 1 => by
  obtain ⟨ih0, ih1⟩ := spec_l12Way.mono_l k
  refine ⟨?_, ?_⟩
  ·intro y0 y1 y2 y3
   unfold spec_l12Way.l0
   repeat' first
   | (with_reducible exact ih0 _ _ _ _)
   | (with_reducible exact ih1 _ _ _ _ _ _)
   | (with_reducible exact spec_PrintOf.mono _ _)
   | (with_reducible exact spec_ReadFolder.mono _ _)
   | (with_reducible exact LeO.refl _)
   | (with_reducible exact LeO.none _)
   | (with_reducible refine LeO.ite ?_ ?_)
   | (with_reducible refine LeO.bind ?_ (fun _ => ?_))
   | exact ih0 _ _ _ _
   | exact ih1 _ _ _ _ _ _
   | exact spec_PrintOf.mono _ _
   | exact spec_ReadFolder.mono _ _
   | exact LeO.none _
   | refine LeO.ite ?_ ?_
   | refine LeO.bind ?_ (fun _ => ?_)
  ·intro y0 y1 y2 y3 y4 y5
   unfold spec_l12Way.l1
   repeat' first
   | (with_reducible exact ih0 _ _ _ _)
   | (with_reducible exact ih1 _ _ _ _ _ _)
   | (with_reducible exact spec_PrintOf.mono _ _)
   | (with_reducible exact spec_ReadFolder.mono _ _)
   | (with_reducible exact LeO.refl _)
   | (with_reducible exact LeO.none _)
   | (with_reducible refine LeO.ite ?_ ?_)
   | (with_reducible refine LeO.bind ?_ (fun _ => ?_))
   | exact ih0 _ _ _ _
   | exact ih1 _ _ _ _ _ _
   | exact spec_PrintOf.mono _ _
   | exact spec_ReadFolder.mono _ _
   | exact LeO.none _
   | refine LeO.ite ?_ ?_
   | refine LeO.bind ?_ (fun _ => ?_)
theorem spec_l12Way.mono : ∀ a0 a1 a2 k, LeO (spec_l12Way.f k a0 a1 a2) (spec_l12Way.f (k + 1) a0 a1 a2) := by
 intro a0 a1 a2 k
 obtain ⟨ih0, ih1⟩ := spec_l12Way.mono_l k
 unfold spec_l12Way.f
 repeat' first
   | (with_reducible exact ih0 _ _ _ _)
   | (with_reducible exact ih1 _ _ _ _ _ _)
   | (with_reducible exact spec_PrintOf.mono _ _)
   | (with_reducible exact spec_ReadFolder.mono _ _)
   | (with_reducible exact LeO.refl _)
   | (with_reducible exact LeO.none _)
   | (with_reducible refine LeO.ite ?_ ?_)
   | (with_reducible refine LeO.bind ?_ (fun _ => ?_))
   | exact ih0 _ _ _ _
   | exact ih1 _ _ _ _ _ _
   | exact spec_PrintOf.mono _ _
   | exact spec_ReadFolder.mono _ _
   | exact LeO.none _
   | refine LeO.ite ?_ ?_
   | refine LeO.bind ?_ (fun _ => ?_)
set_option maxHeartbeats 8000000 in
set_option maxRecDepth 100000 in
theorem spec_l12Way.calls (k : Nat) (a0 : Int) (A1 : Option Addr) (c1 : Nat) (l1 : List ByteArray) (A2 : Option Addr) (c2 : Nat) (l2 : List ByteArray) (r : Bool) (w : World) (hr1 : Kd.C Kd.string w A1 l1.length l1) (hc1 : l1.length ≤ c1) (hr2 : Kd.C Kd.string w A2 l2.length l2) (hc2 : l2.length ≤ c2) (h : spec_l12Way.f k a0 l1 l2 = some r) :
  Calls Tryd.prog 64 #[.int .i64 a0, .slice A1 l1.length c1, .slice A2 l2.length c2] w fun e w' => e = .returned (.bool r) ∧ Below w.heap.size w w' := by
 have HR1 := Aside0.mk hr1
 have HC1 := Aside0.mk hc1
 clear hr1 hc1
 have HR2 := Aside0.mk hr2
 have HC2 := Aside0.mk hc2
 clear hr2 hc2
 have HB := Aside0.mk (Below.refl w.heap.size w)
 have H : (spec_l12Way.l0 k l1 l2 a0 0) = some r := h
 clear h
 have H' := Aside0.mk H
 clear H
 go_enter Tryd.func64, Tryd.ntmps64
 go_wp2
 repeat (go_quiet (fail); try go_wp2)
 go_loopg [7, 8] k (fun kq v7 v8 w' => ∃ (x7_1 : Int) (x8_1 : Int), v7 = .int .i64 x7_1 ∧ v8 = .int .i64 x8_1 ∧ Aside0 (spec_l12Way.l0 kq l1 l2 x7_1 x8_1 = some r) ∧ Aside0 (kq ≤ k) ∧ Aside0 (Below w.heap.size w w'))
 case atStart => exact ⟨(a0), (0), (by first | rfl | (simp; done) | (simp [*]; done)), (by first | rfl | (simp; done) | (simp [*]; done)), H', ⟨Nat.le_refl _⟩, ⟨hb_⟩⟩
 case round =>
  clear H'
  try clear c1
  try clear c2
  try clear p2
  obtain ⟨x7_1, x8_1, rfl, rfl, HA, HK1, HB⟩ := hrel
  cases gk with
  | zero => exact absurd HA.out (by simp [spec_l12Way.l0])
  | succ k1 =>
   have H := HA.out
   clear HA
   simp only [spec_l12Way.l0] at H
   by_cases c4 : x8_1 < (l2.length : Int)
   ·rw [if_pos c4] at H
    have c4b0 : decide (x8_1 < (l2.length : Int)) = true := decide_eq_true c4
    clear c4
    by_cases c5 : 0 ≤ x8_1
    ·rw [if_pos c5] at H
     have c5b0 : decide (0 ≤ x8_1) = true := decide_eq_true c5
     clear c5
     replace H := Option.bind_eq_some_iff.mp H
     obtain ⟨t914, A60, H⟩ := H
     replace H : (if t914 = x7_1 then (if (wrap64 (x8_1 + 1)) = (l2.length : Int) then (some true) else ((spec_ReadFolder.f k1 (rdOf ByteArray.empty l2 x8_1)).bind fun bt916 => (spec_l12Way.l1 k1 l1 l2 (-2) x8_1 bt916.1 0))) else (some false)) = some r := H
     have A6 := Aside0.mk A60
     clear A60
     by_cases c7 : t914 = x7_1
     ·rw [if_pos c7] at H
      have c7b0 : (t914 == x7_1) = true := beq_iff_eq.mpr c7
      have c7b1 : (t914 != x7_1) = false := bne_eq_false_iff_eq.mpr c7
      clear c7
      by_cases c8 : (wrap64 (x8_1 + 1)) = (l2.length : Int)
      ·rw [if_pos c8] at H
       have c8b0 : ((wrap64 (x8_1 + 1)) == (l2.length : Int)) = true := beq_iff_eq.mpr c8
       have c8b1 : ((wrap64 (x8_1 + 1)) != (l2.length : Int)) = false := bne_eq_false_iff_eq.mpr c8
       clear c8
       obtain rfl := Option.some.inj H
       have p913 : 0 ≤ (x8_1 : Int) := of_decide_eq_true ma_
       have q913 : x8_1 < (l2.length : Int) := of_decide_eq_true ma_
       obtain ⟨ad913, e913, hx913_0⟩ := Kd.at_string HR2.out x8_1 p913 q913
       cases e913
       replace hx913_0 := (HB.out.cell (World.block_lt_of_cell? w _ hx913_0)).trans hx913_0
       replace p913 := eq_true p913
       replace q913 := eq_true q913
       go_wp2_with (first | (go_at_call 77; (with_reducible refine (spec_PrintOf.calls k1 (rdOf ByteArray.empty l2 x8_1) t914 _ A6.out).mono ?_); rintro e w' ⟨rfl, ⟨nd, rfl⟩⟩; (try first | exact ⟨rfl, _, World.drewN_drewN _ _ _⟩ | exact ⟨rfl, _, Eq.trans (World.drewN_drewN _ _ _) (congrArg (World.drewN _) (Nat.add_assoc _ _ _))⟩)))
       repeat (go_quiet (first | (go_at_call 77; (with_reducible refine (spec_PrintOf.calls k1 (rdOf ByteArray.empty l2 x8_1) t914 _ A6.out).mono ?_); rintro e w' ⟨rfl, ⟨nd, rfl⟩⟩; (try first | exact ⟨rfl, _, World.drewN_drewN _ _ _⟩ | exact ⟨rfl, _, Eq.trans (World.drewN_drewN _ _ _) (congrArg (World.drewN _) (Nat.add_assoc _ _ _))⟩))); try go_wp2_with (first | (go_at_call 77; (with_reducible refine (spec_PrintOf.calls k1 (rdOf ByteArray.empty l2 x8_1) t914 _ A6.out).mono ?_); rintro e w' ⟨rfl, ⟨nd, rfl⟩⟩; (try first | exact ⟨rfl, _, World.drewN_drewN _ _ _⟩ | exact ⟨rfl, _, Eq.trans (World.drewN_drewN _ _ _) (congrArg (World.drewN _) (Nat.add_assoc _ _ _))⟩))))
       go_ret
       exact ⟨er_, hb_⟩
      ·rw [if_neg c8] at H
       have c8b0 : ((wrap64 (x8_1 + 1)) == (l2.length : Int)) = false := beq_eq_false_iff_ne.mpr c8
       have c8b1 : ((wrap64 (x8_1 + 1)) != (l2.length : Int)) = true := bne_iff_ne.mpr c8
       replace H := Option.bind_eq_some_iff.mp H
       obtain ⟨⟨t916, t917⟩, A90, H⟩ := H
       replace H : (spec_l12Way.l1 k1 l1 l2 (-2) x8_1 t916 0) = some r := H
       have A9 := Aside0.mk A90
       clear A90
       have H' := Aside0.mk H
       clear H
       have p913 : 0 ≤ (x8_1 : Int) := of_decide_eq_true ma_
       have q913 : x8_1 < (l2.length : Int) := of_decide_eq_true ma_
       obtain ⟨ad913, e913, hx913_0⟩ := Kd.at_string HR2.out x8_1 p913 q913
       cases e913
       replace hx913_0 := (HB.out.cell (World.block_lt_of_cell? w _ hx913_0)).trans hx913_0
       replace p913 := eq_true p913
       replace q913 := eq_true q913
       go_wp2_with (first | (go_at_call 77; (with_reducible refine (spec_PrintOf.calls k1 (rdOf ByteArray.empty l2 x8_1) t914 _ A6.out).mono ?_); rintro e w' ⟨rfl, ⟨nd, rfl⟩⟩; (try first | exact ⟨rfl, _, World.drewN_drewN _ _ _⟩ | exact ⟨rfl, _, Eq.trans (World.drewN_drewN _ _ _) (congrArg (World.drewN _) (Nat.add_assoc _ _ _))⟩); have p915 : 0 ≤ (x8_1 : Int) := of_decide_eq_true ma_; have q915 : x8_1 < (l2.length : Int) := of_decide_eq_true ma_; obtain ⟨ad915, e915, hx915_0⟩ := Kd.at_string HR2.out x8_1 p915 q915; obtain rfl : ad913 = ad915 := (by injection e915); replace hx915_0 := (HB.out.cell (World.block_lt_of_cell? w _ hx915_0)).trans hx915_0; replace p915 := eq_true p915; replace q915 := eq_true q915) | (go_at_call 51; (with_reducible refine (spec_ReadFolder.calls k1 (rdOf ByteArray.empty l2 x8_1) t916 t917 _ A9.out).mono ?_); rintro e w10 ⟨v918, rfl, ho0, hb⟩; have HO919 := Aside0.mk (Kd.R_lower ho0 (below_size hb_)); replace HB := Aside0.mk (below_step hb_ hb); (try clear hb); (try clear ho0)))
       repeat (go_quiet (first | (go_at_call 77; (with_reducible refine (spec_PrintOf.calls k1 (rdOf ByteArray.empty l2 x8_1) t914 _ A6.out).mono ?_); rintro e w' ⟨rfl, ⟨nd, rfl⟩⟩; (try first | exact ⟨rfl, _, World.drewN_drewN _ _ _⟩ | exact ⟨rfl, _, Eq.trans (World.drewN_drewN _ _ _) (congrArg (World.drewN _) (Nat.add_assoc _ _ _))⟩); have p915 : 0 ≤ (x8_1 : Int) := of_decide_eq_true ma_; have q915 : x8_1 < (l2.length : Int) := of_decide_eq_true ma_; obtain ⟨ad915, e915, hx915_0⟩ := Kd.at_string HR2.out x8_1 p915 q915; obtain rfl : ad913 = ad915 := (by injection e915); replace hx915_0 := (HB.out.cell (World.block_lt_of_cell? w _ hx915_0)).trans hx915_0; replace p915 := eq_true p915; replace q915 := eq_true q915) | (go_at_call 51; (with_reducible refine (spec_ReadFolder.calls k1 (rdOf ByteArray.empty l2 x8_1) t916 t917 _ A9.out).mono ?_); rintro e w10 ⟨v918, rfl, ho0, hb⟩; have HO919 := Aside0.mk (Kd.R_lower ho0 (below_size hb_)); replace HB := Aside0.mk (below_step hb_ hb); (try clear hb); (try clear ho0))); try go_wp2_with (first | (go_at_call 77; (with_reducible refine (spec_PrintOf.calls k1 (rdOf ByteArray.empty l2 x8_1) t914 _ A6.out).mono ?_); rintro e w' ⟨rfl, ⟨nd, rfl⟩⟩; (try first | exact ⟨rfl, _, World.drewN_drewN _ _ _⟩ | exact ⟨rfl, _, Eq.trans (World.drewN_drewN _ _ _) (congrArg (World.drewN _) (Nat.add_assoc _ _ _))⟩); have p915 : 0 ≤ (x8_1 : Int) := of_decide_eq_true ma_; have q915 : x8_1 < (l2.length : Int) := of_decide_eq_true ma_; obtain ⟨ad915, e915, hx915_0⟩ := Kd.at_string HR2.out x8_1 p915 q915; obtain rfl : ad913 = ad915 := (by injection e915); replace hx915_0 := (HB.out.cell (World.block_lt_of_cell? w _ hx915_0)).trans hx915_0; replace p915 := eq_true p915; replace q915 := eq_true q915) | (go_at_call 51; (with_reducible refine (spec_ReadFolder.calls k1 (rdOf ByteArray.empty l2 x8_1) t916 t917 _ A9.out).mono ?_); rintro e w10 ⟨v918, rfl, ho0, hb⟩; have HO919 := Aside0.mk (Kd.R_lower ho0 (below_size hb_)); replace HB := Aside0.mk (below_step hb_ hb); (try clear hb); (try clear ho0))))
       go_loopg [7, 11] k1 (fun kq v7 v11 w' => ∃ (x7_2 : Int) (x11_2 : Int), v7 = .int .i64 x7_2 ∧ v11 = .int .i64 x11_2 ∧ Aside0 (spec_l12Way.l1 kq l1 l2 x7_2 x8_1 t916 x11_2 = some r) ∧ Aside0 (kq ≤ k1) ∧ Aside0 (Kd.R k63 63 w' w.heap.size (fun _ => True) v918 t916) ∧ Aside0 (Below w.heap.size w w'))
       case atStart => exact ⟨((-2)), (0), (by first | rfl | (simp; done) | (simp [*]; done)), (by first | rfl | (simp; done) | (simp [*]; done)), H', ⟨Nat.le_refl _⟩, ⟨by (with_reducible repeat (first | apply Kd.R_alloc | apply Kd.R_drewN | apply Kd.R_drew)); exact HO919.out⟩, ⟨hb_⟩⟩
       case round =>
        clear H'
        try clear c1
        try clear c2
        try clear p2
        try clear c4
        try clear c4b0
        try clear c5
        try clear c5b0
        try clear c6
        try clear p6
        try clear c7
        try clear c7b0
        try clear c7b1
        try clear c8
        try clear c8b0
        try clear c8b1
        try clear p9
        try clear q9
        try clear hx9
        try clear hx913_0
        try clear hx915_0
        try clear p2
        try clear p913
        try clear p915
        try clear q913
        try clear q915
        obtain ⟨x7_2, x11_2, rfl, rfl, HA, HK2, HO_9, HB⟩ := hrel
        cases gk with
        | zero => exact absurd HA.out (by simp [spec_l12Way.l1])
        | succ k2 =>
         have H := HA.out
         clear HA
         simp only [spec_l12Way.l1] at H
         by_cases c11 : x11_2 < (t916.length : Int)
         ·rw [if_pos c11] at H
          have c11b0 : decide (x11_2 < (t916.length : Int)) = true := decide_eq_true c11
          clear c11
          by_cases c12 : 0 ≤ x11_2
          ·rw [if_pos c12] at H
           have c12b0 : decide (0 ≤ x11_2) = true := decide_eq_true c12
           clear c12
           by_cases c13 : 0 ≤ x8_1
           ·rw [if_pos c13] at H
            have c13b0 : decide (0 ≤ x8_1) = true := decide_eq_true c13
            clear c13
            by_cases c14 : x8_1 < (l1.length : Int)
            ·rw [if_pos c14] at H
             have c14b0 : decide (x8_1 < (l1.length : Int)) = true := decide_eq_true c14
             clear c14
             by_cases c15 : ((rd_T63 t916 x11_2).f0).toList = (rdOf ByteArray.empty l1 x8_1).toList
             ·rw [if_pos c15] at H
              have c15b0 : (((rd_T63 t916 x11_2).f0).toList == (rdOf ByteArray.empty l1 x8_1).toList) = true := beq_iff_eq.mpr c15
              have c15b1 : (((rd_T63 t916 x11_2).f0).toList != (rdOf ByteArray.empty l1 x8_1).toList) = false := bne_eq_false_iff_eq.mpr c15
              clear c15
              have H' := Aside0.mk H
              clear H
              obtain ⟨Ao16, co16, eo16⟩ := Kd.R_slice HO_9.out
              subst eo16
              have p920 : 0 ≤ (x11_2 : Int) := of_decide_eq_true ma_
              have q920 : x11_2 < (t916.length : Int) := of_decide_eq_true ma_
              obtain ⟨ad920, e920, hx920_0, hx920_1⟩ := at_T63 (Kd.R_reads' HO_9.out).2.2 x11_2 p920 q920
              cases e920
              replace p920 := eq_true p920
              replace q920 := eq_true q920
              have p921 : 0 ≤ (x8_1 : Int) := of_decide_eq_true ma_
              have q921 : x8_1 < (l1.length : Int) := of_decide_eq_true ma_
              obtain ⟨ad921, e921, hx921_0⟩ := Kd.at_string HR1.out x8_1 p921 q921
              cases e921
              replace hx921_0 := (HB.out.cell (World.block_lt_of_cell? w _ hx921_0)).trans hx921_0
              replace p921 := eq_true p921
              replace q921 := eq_true q921
              have p922 : 0 ≤ (x11_2 : Int) := of_decide_eq_true ma_
              have q922 : x11_2 < (t916.length : Int) := of_decide_eq_true ma_
              obtain ⟨ad922, e922, hx922_0, hx922_1⟩ := at_T63 (Kd.R_reads' HO_9.out).2.2 x11_2 p922 q922
              obtain rfl : ad920 = ad922 := (by injection e922)
              replace p922 := eq_true p922
              replace q922 := eq_true q922
              go_wp2
              repeat (go_quiet (fail); try go_wp2)
              go_roundg k2
              case measure => have := HK1.out; have := HK2.out; omega
              case rel => exact ⟨((rd_T63 t916 x11_2).f1), (wrap64 (x11_2 + 1)), (by first | rfl | (simp; done) | (simp [*]; done)), (by first | rfl | (simp; done) | (simp [*]; done)), H', ⟨by have := HK1.out; have := HK2.out; omega⟩, ⟨by (with_reducible repeat (first | apply Kd.R_alloc | apply Kd.R_drewN | apply Kd.R_drew)); exact HO_9.out⟩, ⟨hb_⟩⟩
             ·rw [if_neg c15] at H
              have c15b0 : (((rd_T63 t916 x11_2).f0).toList == (rdOf ByteArray.empty l1 x8_1).toList) = false := beq_eq_false_iff_ne.mpr c15
              have c15b1 : (((rd_T63 t916 x11_2).f0).toList != (rdOf ByteArray.empty l1 x8_1).toList) = true := bne_iff_ne.mpr c15
              have H' := Aside0.mk H
              clear H
              obtain ⟨Ao17, co17, eo17⟩ := Kd.R_slice HO_9.out
              subst eo17
              have p920 : 0 ≤ (x11_2 : Int) := of_decide_eq_true ma_
              have q920 : x11_2 < (t916.length : Int) := of_decide_eq_true ma_
              obtain ⟨ad920, e920, hx920_0, hx920_1⟩ := at_T63 (Kd.R_reads' HO_9.out).2.2 x11_2 p920 q920
              cases e920
              replace p920 := eq_true p920
              replace q920 := eq_true q920
              have p921 : 0 ≤ (x8_1 : Int) := of_decide_eq_true ma_
              have q921 : x8_1 < (l1.length : Int) := of_decide_eq_true ma_
              obtain ⟨ad921, e921, hx921_0⟩ := Kd.at_string HR1.out x8_1 p921 q921
              cases e921
              replace hx921_0 := (HB.out.cell (World.block_lt_of_cell? w _ hx921_0)).trans hx921_0
              replace p921 := eq_true p921
              replace q921 := eq_true q921
              go_wp2
              repeat (go_quiet (fail); try go_wp2)
              go_roundg k2
              case measure => have := HK1.out; have := HK2.out; omega
              case rel => exact ⟨(x7_2), (wrap64 (x11_2 + 1)), (by first | rfl | (simp; done) | (simp [*]; done)), (by first | rfl | (simp; done) | (simp [*]; done)), H', ⟨by have := HK1.out; have := HK2.out; omega⟩, ⟨by (with_reducible repeat (first | apply Kd.R_alloc | apply Kd.R_drewN | apply Kd.R_drew)); exact HO_9.out⟩, ⟨hb_⟩⟩
            ·rw [if_neg c14] at H
             exact absurd H (by simp)
           ·rw [if_neg c13] at H
            exact absurd H (by simp)
          ·rw [if_neg c12] at H
           exact absurd H (by simp)
         ·rw [if_neg c11] at H
          have c11b0 : decide (x11_2 < (t916.length : Int)) = false := decide_eq_false c11
          clear c11
          have H' := Aside0.mk H
          clear H
          obtain ⟨Ao18, co18, eo18⟩ := Kd.R_slice HO_9.out
          subst eo18
          go_wp2
          repeat (go_quiet (fail); try go_wp2)
          go_roundg k2
          case measure => have := HK1.out; have := HK2.out; omega
          case rel => exact ⟨(x7_2), (wrap64 (x8_1 + 1)), (by first | rfl | (simp; done) | (simp [*]; done)), (by first | rfl | (simp; done) | (simp [*]; done)), H', ⟨by have := HK1.out; have := HK2.out; omega⟩, ⟨hb_⟩⟩
     ·rw [if_neg c7] at H
      have c7b0 : (t914 == x7_1) = false := beq_eq_false_iff_ne.mpr c7
      have c7b1 : (t914 != x7_1) = true := bne_iff_ne.mpr c7
      obtain rfl := Option.some.inj H
      have p913 : 0 ≤ (x8_1 : Int) := of_decide_eq_true ma_
      have q913 : x8_1 < (l2.length : Int) := of_decide_eq_true ma_
      obtain ⟨ad913, e913, hx913_0⟩ := Kd.at_string HR2.out x8_1 p913 q913
      cases e913
      replace hx913_0 := (HB.out.cell (World.block_lt_of_cell? w _ hx913_0)).trans hx913_0
      replace p913 := eq_true p913
      replace q913 := eq_true q913
      go_wp2_with (first | (go_at_call 77; (with_reducible refine (spec_PrintOf.calls k1 (rdOf ByteArray.empty l2 x8_1) t914 _ A6.out).mono ?_); rintro e w' ⟨rfl, ⟨nd, rfl⟩⟩; (try first | exact ⟨rfl, _, World.drewN_drewN _ _ _⟩ | exact ⟨rfl, _, Eq.trans (World.drewN_drewN _ _ _) (congrArg (World.drewN _) (Nat.add_assoc _ _ _))⟩)))
      repeat (go_quiet (first | (go_at_call 77; (with_reducible refine (spec_PrintOf.calls k1 (rdOf ByteArray.empty l2 x8_1) t914 _ A6.out).mono ?_); rintro e w' ⟨rfl, ⟨nd, rfl⟩⟩; (try first | exact ⟨rfl, _, World.drewN_drewN _ _ _⟩ | exact ⟨rfl, _, Eq.trans (World.drewN_drewN _ _ _) (congrArg (World.drewN _) (Nat.add_assoc _ _ _))⟩))); try go_wp2_with (first | (go_at_call 77; (with_reducible refine (spec_PrintOf.calls k1 (rdOf ByteArray.empty l2 x8_1) t914 _ A6.out).mono ?_); rintro e w' ⟨rfl, ⟨nd, rfl⟩⟩; (try first | exact ⟨rfl, _, World.drewN_drewN _ _ _⟩ | exact ⟨rfl, _, Eq.trans (World.drewN_drewN _ _ _) (congrArg (World.drewN _) (Nat.add_assoc _ _ _))⟩))))
      go_ret
      exact ⟨er_, hb_⟩
    ·rw [if_neg c5] at H
     exact absurd H (by simp)
   ·rw [if_neg c4] at H
    have c4b0 : decide (x8_1 < (l2.length : Int)) = false := decide_eq_false c4
    clear c4
    obtain rfl := Option.some.inj H
    go_wp2
    repeat (go_quiet (fail); try go_wp2)
    go_ret
    exact ⟨er_, hb_⟩
/-! ### laws_toStringS: function 40 -/
def laws_toStringS.l0 : Nat → List ByteArray → List ByteArray → Int → Option (List ByteArray)
 | 0, _, _, _ => none
 | k + 1, x0, x3, x4 => if x4 < (x0.length : Int) then (if 0 ≤ x4 then (if x4 < (x3.length : Int) then (laws_toStringS.l0 k x0 (x3.set (x4 : Int).toNat (rdOf ByteArray.empty x0 x4)) (wrap64 (x4 + 1))) else (none)) else (none)) else (some x3)
def laws_toStringS.f (k : Nat) (l0 : List ByteArray) : Option (List ByteArray) := if 0 ≤ (l0.length : Int) then (if ((l0.length : Int) : Int).toNat ≤ 17592186044416 then (laws_toStringS.l0 k l0 (List.replicate ((l0.length : Int) : Int).toNat (⟨#[]⟩ : ByteArray)) 0) else (none)) else (none)
theorem laws_toStringS.mono_l : ∀ k, (∀ y0 y1 y2, LeO (laws_toStringS.l0 k y0 y1 y2) (laws_toStringS.l0 (k + 1) y0 y1 y2))
 | 0 => fun _ _ _ r h => by simp [laws_toStringS.l0] at h
 | k + 1 => by
  have ih0 := laws_toStringS.mono_l k
  ·intro y0 y1 y2
   unfold laws_toStringS.l0
   repeat' first
   | (with_reducible exact ih0 _ _ _)
   | (with_reducible exact LeO.refl _)
   | (with_reducible exact LeO.none _)
   | (with_reducible refine LeO.ite ?_ ?_)
   | (with_reducible refine LeO.bind ?_ (fun _ => ?_))
   | exact ih0 _ _ _
   | exact LeO.none _
   | refine LeO.ite ?_ ?_
   | refine LeO.bind ?_ (fun _ => ?_)
theorem laws_toStringS.mono : ∀ a0 k, LeO (laws_toStringS.f k a0) (laws_toStringS.f (k + 1) a0) := by
 intro a0 k
 have ih0 := laws_toStringS.mono_l k
 unfold laws_toStringS.f
 repeat' first
   | (with_reducible exact ih0 _ _ _)
   | (with_reducible exact LeO.refl _)
   | (with_reducible exact LeO.none _)
   | (with_reducible refine LeO.ite ?_ ?_)
   | (with_reducible refine LeO.bind ?_ (fun _ => ?_))
   | exact ih0 _ _ _
   | exact LeO.none _
   | refine LeO.ite ?_ ?_
   | refine LeO.bind ?_ (fun _ => ?_)
set_option maxHeartbeats 8000000 in
set_option maxRecDepth 100000 in
theorem laws_toStringS.calls (k : Nat) (A0 : Option Addr) (c0 : Nat) (l0 : List ByteArray) (r : List ByteArray) (w : World) (hr0 : Kd.C Kd.string w A0 l0.length l0) (hc0 : l0.length ≤ c0) (h : laws_toStringS.f k l0 = some r) :
  Calls Tryd.prog 40 #[.slice A0 l0.length c0] w fun e w' => ∃ v0_ : Value, e = .returned (v0_) ∧ Kd.R Kd.string 9 w' w.heap.size (fun _ => True) v0_ r ∧ Below w.heap.size w w' := by
 have HR0 := Aside0.mk hr0
 have HC0 := Aside0.mk hc0
 clear hr0 hc0
 have HB := Aside0.mk (Below.refl w.heap.size w)
 have H : (if 0 ≤ (l0.length : Int) then (if ((l0.length : Int) : Int).toNat ≤ 17592186044416 then (laws_toStringS.l0 k l0 (List.replicate ((l0.length : Int) : Int).toNat (⟨#[]⟩ : ByteArray)) 0) else (none)) else (none)) = some r := h
 clear h
 by_cases c2 : 0 ≤ (l0.length : Int)
 ·rw [if_pos c2] at H
  have c2b0 := eq_true c2
  have c2b1 : decide (0 ≤ (l0.length : Int)) = true := decide_eq_true c2
  clear c2
  by_cases c3 : ((l0.length : Int) : Int).toNat ≤ 17592186044416
  ·rw [if_pos c3] at H
   have c3b0 := eq_true c3
   have c3b1 : decide (((l0.length : Int) : Int).toNat ≤ 17592186044416) = true := decide_eq_true c3
   clear c3
   obtain ⟨y928, hy928⟩ : ∃ y_ : List ByteArray, y_ = (List.replicate ((l0.length : Int) : Int).toNat (⟨#[]⟩ : ByteArray)) := ⟨_, rfl⟩
   replace H : (laws_toStringS.l0 k l0 y928 0) = some r := by first | (rw [hy928]; with_reducible exact H) | (have H2_ := (Option.bind_some _ _).symm.trans H; rw [hy928]; with_reducible exact H2_) | (have H2_ := (Option.bind_some _ _).symm.trans H; with_reducible exact H2_) | with_reducible exact H | (rw [hy928]; exact H) | exact H
   have Ny928 := Aside0.mk hy928
   clear hy928
   have H' := Aside0.mk H
   clear H
   go_enter Tryd.func40, Tryd.ntmps40
   go_wp2_with (first | ((with_reducible refine gate_dst (N := 7) rfl ?_); refine Kd.R_make Kd.string _ 9 rfl (N := 7) rfl 44 _ _ rfl (l0.length : Int) rfl rfl Tryd.underlying44 (.string ⟨#[]⟩) 16 info9 rfl (by decide) (by omega) (⟨#[]⟩ : ByteArray) (ok := fun _ => True) (okp := fun _ => True) rfl (fun _ hk => hk) trivial (of_decide_eq_true ma_) (Nat.le_trans (Nat.mul_le_mul_right _ (of_decide_eq_true ma_ : (l0.length : Int).toNat ≤ 17592186044416)) (by omega)) (Below.refl _ _) (Nat.le_refl _) ?_; intro v929 w4 ho5 hb hg_ hnew_; clear hg_ hnew_; (first | rw [← Ny928.out] at ho5 | (simp only [Int.reduceToNat] at ho5; rw [← Ny928.out] at ho5)); have HO930 := Aside0.mk (Kd.R_lower ho5 (below_size hb_)); replace HB := Aside0.mk (below_step hb_ hb); clear hb ho5))
   go_loopg [4] k (fun kq v4 w' => ∃ (x3_1 : List ByteArray) (x4_1 : Int), v4 = .int .i64 x4_1 ∧ Aside0 (laws_toStringS.l0 kq l0 x3_1 x4_1 = some r) ∧ Aside0 (kq ≤ k) ∧ Aside0 (Kd.R Kd.string 9 w' w.heap.size (fun _ => True) v929 x3_1) ∧ Aside0 (Below w.heap.size w w'))
   case atStart => exact ⟨(y928), (0), (by first | rfl | (simp; done) | (simp [*]; done)), H', ⟨Nat.le_refl _⟩, ⟨by (with_reducible repeat (first | apply Kd.R_alloc | apply Kd.R_drewN | apply Kd.R_drew)); exact HO930.out⟩, ⟨hb_⟩⟩
   case round =>
    clear H'
    try clear c2
    try clear c2b0
    try clear c2b1
    try clear p2
    try clear c3
    try clear c3b0
    try clear c3b1
    try clear c4
    obtain ⟨x3_1, x4_1, rfl, HA, HK1, HO_3, HB⟩ := hrel
    cases gk with
    | zero => exact absurd HA.out (by simp [laws_toStringS.l0])
    | succ k1 =>
     have H := HA.out
     clear HA
     simp only [laws_toStringS.l0] at H
     by_cases c6 : x4_1 < (l0.length : Int)
     ·rw [if_pos c6] at H
      have c6b0 : decide (x4_1 < (l0.length : Int)) = true := decide_eq_true c6
      clear c6
      by_cases c7 : 0 ≤ x4_1
      ·rw [if_pos c7] at H
       have c7b0 : decide (0 ≤ x4_1) = true := decide_eq_true c7
       clear c7
       by_cases c8 : x4_1 < (x3_1.length : Int)
       ·rw [if_pos c8] at H
        have c8b0 : decide (x4_1 < (x3_1.length : Int)) = true := decide_eq_true c8
        clear c8
        obtain ⟨y932, hy932⟩ : ∃ y_ : List ByteArray, y_ = (x3_1.set (x4_1 : Int).toNat (rdOf ByteArray.empty l0 x4_1)) := ⟨_, rfl⟩
        replace H : (laws_toStringS.l0 k1 l0 y932 (wrap64 (x4_1 + 1))) = some r := by first | (rw [hy932]; with_reducible exact H) | (have H2_ := (Option.bind_some _ _).symm.trans H; rw [hy932]; with_reducible exact H2_) | (have H2_ := (Option.bind_some _ _).symm.trans H; with_reducible exact H2_) | with_reducible exact H | (rw [hy932]; exact H) | exact H
        have Ny932 := Aside0.mk hy932
        clear hy932
        have H' := Aside0.mk H
        clear H
        have p931 : 0 ≤ (x4_1 : Int) := of_decide_eq_true ma_
        have q931 : x4_1 < (l0.length : Int) := of_decide_eq_true ma_
        obtain ⟨ad931, e931, hx931_0⟩ := Kd.at_string HR0.out x4_1 p931 q931
        cases e931
        replace hx931_0 := (HB.out.cell (World.block_lt_of_cell? w _ hx931_0)).trans hx931_0
        replace p931 := eq_true p931
        replace q931 := eq_true q931
        have p9 : 0 ≤ (x4_1 : Int) := of_decide_eq_true ma_
        have q9 : (x4_1 : Int) < ((x3_1.length : Int) : Int) := of_decide_eq_true ma_
        obtain ⟨go9, co9, eo9, gb9, gl9, cl9, HG9⟩ := Kd.R_form HO_3.out (by omega)
        (first | cases eo9 | (injection eo9 with ea_ en_ ec_; (first | subst ea_ | (injection ea_ with ea_; subst ea_)); subst ec_; clear en_))
        have GB9 := Aside0.mk gb9
        have GG9 := Aside0.mk HG9
        clear gb9 gl9 HG9
        obtain ⟨hx9_0, hf9_0⟩ := Kd.R_celln (⟨#[]⟩ : ByteArray) HO_3.out (x4_1 : Int) p9 q9
        replace p9 := eq_true p9
        replace q9 := eq_true q9
        have HP10 := Kd.R_putg HO_3.out (x4_1 : Int) (rdOf ByteArray.empty l0 x4_1)
        go_wp2_with (first | ((with_reducible refine gate_store (t := 9) (p := 20) rfl ?_); refine store_event (t := 9) (p := 20) (v := ?vo_w11) (w1 := (wr.setCell ⟨go9, (x4_1 : Int).toNat, none⟩ (.string (rdOf ByteArray.empty l0 x4_1)))) ?hg ?ho ?hn ?hr ?_; (case ho => rfl); (case hg => rfl); (case hn => rfl); (case hr => first | (go_simp; done) | (go_simp; rfl)); intro w11 hw; have hg : wr.grownBy w11 (some go9) := (by rw [hw]; exact HP10.2); have hp_ : Kd.R Kd.string 9 w11 w.heap.size (fun _ => True) (.slice (some ⟨go9, 0, none⟩) x3_1.length co9) y932 := (by rw [hw, Ny932.out]; exact HP10.1); clear HP10; have n0_ := Aside0.mk (hp_); have n1_ := Aside0.mk ((by rw [hw]; exact below_set (HB.out) GB9.out : Below w.heap.size w w11)); clear HO_3; clear HB; have HO_3 := n0_; have HB := n1_; clear n0_ n1_; clear hg hw hp_))
        go_roundg k1
        case measure => have := HK1.out; omega
        case rel => exact ⟨(y932), (wrap64 (x4_1 + 1)), (by first | rfl | (simp; done) | (simp [*]; done)), H', ⟨by have := HK1.out; omega⟩, ⟨by (with_reducible repeat (first | apply Kd.R_alloc | apply Kd.R_drewN | apply Kd.R_drew)); exact HO_3.out⟩, ⟨hb_⟩⟩
       ·rw [if_neg c8] at H
        exact absurd H (by simp)
      ·rw [if_neg c7] at H
       exact absurd H (by simp)
     ·rw [if_neg c6] at H
      have c6b0 : decide (x4_1 < (l0.length : Int)) = false := decide_eq_false c6
      clear c6
      obtain rfl := Option.some.inj H
      go_wp2
      go_ret
      exact ⟨_, er_, by (with_reducible repeat (first | apply Kd.R_alloc | apply Kd.R_drewN | apply Kd.R_drew)); exact HO_3.out, hb_⟩
  ·rw [if_neg c3] at H
   exact absurd H (by simp)
 ·rw [if_neg c2] at H
  exact absurd H (by simp)
/-! ### impl_onTheWay: function 66 -/
def impl_onTheWay.l0 : Nat → List ByteArray → List ByteArray → Int → List ByteArray → Int → Int → Option (Bool)
 | 0, _, _, _, _, _, _ => none
 | k + 1, x1, x2, x7, x15, x16, x17 => if x17 < x16 then (if 0 ≤ x17 then (if x17 < (x15.length : Int) then ((impl_PrintOf.f k (rdOf ByteArray.empty x15 x17)).bind fun t947 => (if t947 = x7 then (if x17 = (wrap64 ((x2.length : Int) - 1)) then (some true) else ((impl_ReadFolder.f k (rdOf ByteArray.empty x15 x17)).bind fun bt948 => (if bt948.2 = true then (if x17 < (x1.length : Int) then ((impl_printNamed.f k bt948.1 (rdOf ByteArray.empty x1 x17)).bind fun bt953 => (if bt953.2 = true then (impl_onTheWay.l0 k x1 x2 bt953.1 x15 x16 (wrap64 (x17 + 1))) else (some false))) else (none)) else (some false)))) else (some false))) else (none)) else (none)) else (some true)
def impl_onTheWay.f (k : Nat) (a0 : Int) (l1 : List ByteArray) (l2 : List ByteArray) : Option (Bool) := impl_onTheWay.l0 k l1 l2 a0 l2 (l2.length : Int) 0
theorem impl_onTheWay.mono_l : ∀ k, (∀ y0 y1 y2 y3 y4 y5, LeO (impl_onTheWay.l0 k y0 y1 y2 y3 y4 y5) (impl_onTheWay.l0 (k + 1) y0 y1 y2 y3 y4 y5))
 | 0 => fun _ _ _ _ _ _ r h => by simp [impl_onTheWay.l0] at h
 | k + 1 => by
  have ih0 := impl_onTheWay.mono_l k
  ·intro y0 y1 y2 y3 y4 y5
   unfold impl_onTheWay.l0
   repeat' first
   | (with_reducible exact ih0 _ _ _ _ _ _)
   | (with_reducible exact impl_PrintOf.mono _ _)
   | (with_reducible exact impl_ReadFolder.mono _ _)
   | (with_reducible exact impl_printNamed.mono _ _ _)
   | (with_reducible exact LeO.refl _)
   | (with_reducible exact LeO.none _)
   | (with_reducible refine LeO.ite ?_ ?_)
   | (with_reducible refine LeO.bind ?_ (fun _ => ?_))
   | exact ih0 _ _ _ _ _ _
   | exact impl_PrintOf.mono _ _
   | exact impl_ReadFolder.mono _ _
   | exact impl_printNamed.mono _ _ _
   | exact LeO.none _
   | refine LeO.ite ?_ ?_
   | refine LeO.bind ?_ (fun _ => ?_)
theorem impl_onTheWay.mono : ∀ a0 a1 a2 k, LeO (impl_onTheWay.f k a0 a1 a2) (impl_onTheWay.f (k + 1) a0 a1 a2) := by
 intro a0 a1 a2 k
 have ih0 := impl_onTheWay.mono_l k
 unfold impl_onTheWay.f
 repeat' first
   | (with_reducible exact ih0 _ _ _ _ _ _)
   | (with_reducible exact impl_PrintOf.mono _ _)
   | (with_reducible exact impl_ReadFolder.mono _ _)
   | (with_reducible exact impl_printNamed.mono _ _ _)
   | (with_reducible exact LeO.refl _)
   | (with_reducible exact LeO.none _)
   | (with_reducible refine LeO.ite ?_ ?_)
   | (with_reducible refine LeO.bind ?_ (fun _ => ?_))
   | exact ih0 _ _ _ _ _ _
   | exact impl_PrintOf.mono _ _
   | exact impl_ReadFolder.mono _ _
   | exact impl_printNamed.mono _ _ _
   | exact LeO.none _
   | refine LeO.ite ?_ ?_
   | refine LeO.bind ?_ (fun _ => ?_)
set_option maxHeartbeats 8000000 in
set_option maxRecDepth 100000 in
theorem impl_onTheWay.calls (k : Nat) (a0 : Int) (A1 : Option Addr) (c1 : Nat) (l1 : List ByteArray) (A2 : Option Addr) (c2 : Nat) (l2 : List ByteArray) (r : Bool) (w : World) (hr1 : Kd.C Kd.string w A1 l1.length l1) (hc1 : l1.length ≤ c1) (hr2 : Kd.C Kd.string w A2 l2.length l2) (hc2 : l2.length ≤ c2) (hG : GT w) (h : impl_onTheWay.f k a0 l1 l2 = some r) :
  Calls Tryd.prog 66 #[.int .i64 a0, .slice A1 l1.length c1, .slice A2 l2.length c2] w fun e w' => e = .returned (.bool r) ∧ Below w.heap.size w w' := by
 have HR1 := Aside0.mk hr1
 have HC1 := Aside0.mk hc1
 clear hr1 hc1
 have HR2 := Aside0.mk hr2
 have HC2 := Aside0.mk hc2
 clear hr2 hc2
 have HB := Aside0.mk (Below.refl w.heap.size w)
 have H : (impl_onTheWay.l0 k l1 l2 a0 l2 (l2.length : Int) 0) = some r := h
 clear h
 have H' := Aside0.mk H
 clear H
 go_enter Tryd.func66, Tryd.ntmps66
 go_wp2
 go_loopg [7, 17] k (fun kq v7 v17 w' => ∃ (x7_1 : Int) (x17_1 : Int), v7 = .int .i64 x7_1 ∧ v17 = .int .i64 x17_1 ∧ Aside0 (impl_onTheWay.l0 kq l1 l2 x7_1 l2 (l2.length : Int) x17_1 = some r) ∧ Aside0 (kq ≤ k) ∧ Aside0 (Below w.heap.size w w'))
 case atStart => exact ⟨(a0), (0), (by first | rfl | (simp; done) | (simp [*]; done)), (by first | rfl | (simp; done) | (simp [*]; done)), H', ⟨Nat.le_refl _⟩, ⟨hb_⟩⟩
 case round =>
  clear H'
  try clear c1
  try clear c2
  try clear p2
  obtain ⟨x7_1, x17_1, rfl, rfl, HA, HK1, HB⟩ := hrel
  cases gk with
  | zero => exact absurd HA.out (by simp [impl_onTheWay.l0])
  | succ k1 =>
   have H := HA.out
   clear HA
   simp only [impl_onTheWay.l0] at H
   by_cases c4 : x17_1 < (l2.length : Int)
   ·rw [if_pos c4] at H
    have c4b0 : decide (x17_1 < (l2.length : Int)) = true := decide_eq_true c4
    clear c4
    by_cases c5 : 0 ≤ x17_1
    ·rw [if_pos c5] at H
     have c5b0 : decide (0 ≤ x17_1) = true := decide_eq_true c5
     clear c5
     by_cases c6 : x17_1 < (l2.length : Int)
     ·rw [if_pos c6] at H
      have c6b0 : decide (x17_1 < (l2.length : Int)) = true := decide_eq_true c6
      clear c6
      replace H := Option.bind_eq_some_iff.mp H
      obtain ⟨t947, A70, H⟩ := H
      replace H : (if t947 = x7_1 then (if x17_1 = (wrap64 ((l2.length : Int) - 1)) then (some true) else ((impl_ReadFolder.f k1 (rdOf ByteArray.empty l2 x17_1)).bind fun bt948 => (if bt948.2 = true then (if x17_1 < (l1.length : Int) then ((impl_printNamed.f k1 bt948.1 (rdOf ByteArray.empty l1 x17_1)).bind fun bt953 => (if bt953.2 = true then (impl_onTheWay.l0 k1 l1 l2 bt953.1 l2 (l2.length : Int) (wrap64 (x17_1 + 1))) else (some false))) else (none)) else (some false)))) else (some false)) = some r := H
      have A7 := Aside0.mk A70
      clear A70
      by_cases c8 : t947 = x7_1
      ·rw [if_pos c8] at H
       have c8b0 : (t947 == x7_1) = true := beq_iff_eq.mpr c8
       have c8b1 : (t947 != x7_1) = false := bne_eq_false_iff_eq.mpr c8
       clear c8
       by_cases c9 : x17_1 = (wrap64 ((l2.length : Int) - 1))
       ·rw [if_pos c9] at H
        have c9b0 : (x17_1 == (wrap64 ((l2.length : Int) - 1))) = true := beq_iff_eq.mpr c9
        have c9b1 : (x17_1 != (wrap64 ((l2.length : Int) - 1))) = false := bne_eq_false_iff_eq.mpr c9
        clear c9
        obtain rfl := Option.some.inj H
        have p946 : 0 ≤ (x17_1 : Int) := of_decide_eq_true ma_
        have q946 : x17_1 < (l2.length : Int) := of_decide_eq_true ma_
        obtain ⟨ad946, e946, hx946_0⟩ := Kd.at_string HR2.out x17_1 p946 q946
        cases e946
        replace hx946_0 := (HB.out.cell (World.block_lt_of_cell? w _ hx946_0)).trans hx946_0
        replace p946 := eq_true p946
        replace q946 := eq_true q946
        go_wp2_with (first | ((with_reducible refine gate_callee (f := 58) rfl ?_); refine goesL_ (some 23) rfl rfl Tryd.func58 (by kernel_rfl) rfl #[.string (rdOf ByteArray.empty l2 x17_1)] rfl sl_ ?_; (with_reducible refine (impl_PrintOf.calls k1 (rdOf ByteArray.empty l2 x17_1) t947 _ A7.out).mono ?_); rintro e w' ⟨rfl, ⟨nd, rfl⟩⟩; refine ⟨_, rfl, ?_⟩))
        go_ret
        exact ⟨er_, hb_⟩
       ·rw [if_neg c9] at H
        have c9b0 : (x17_1 == (wrap64 ((l2.length : Int) - 1))) = false := beq_eq_false_iff_ne.mpr c9
        have c9b1 : (x17_1 != (wrap64 ((l2.length : Int) - 1))) = true := bne_iff_ne.mpr c9
        replace H := Option.bind_eq_some_iff.mp H
        obtain ⟨⟨t948, t949⟩, A100, H⟩ := H
        replace H : (if t949 = true then (if x17_1 < (l1.length : Int) then ((impl_printNamed.f k1 t948 (rdOf ByteArray.empty l1 x17_1)).bind fun bt953 => (if bt953.2 = true then (impl_onTheWay.l0 k1 l1 l2 bt953.1 l2 (l2.length : Int) (wrap64 (x17_1 + 1))) else (some false))) else (none)) else (some false)) = some r := H
        have A10 := Aside0.mk A100
        clear A100
        by_cases c11 : t949 = true
        ·subst c11
         have H1 : (if x17_1 < (l1.length : Int) then ((impl_printNamed.f k1 t948 (rdOf ByteArray.empty l1 x17_1)).bind fun bt953 => (if bt953.2 = true then (impl_onTheWay.l0 k1 l1 l2 bt953.1 l2 (l2.length : Int) (wrap64 (x17_1 + 1))) else (some false))) else (none)) = some r := by rw [if_pos rfl] at H; exact H
         clear H
         have H := H1
         clear H1
         by_cases c12 : x17_1 < (l1.length : Int)
         ·rw [if_pos c12] at H
          have c12b0 : decide (x17_1 < (l1.length : Int)) = true := decide_eq_true c12
          clear c12
          replace H := Option.bind_eq_some_iff.mp H
          obtain ⟨⟨t953, t954⟩, A130, H⟩ := H
          replace H : (if t954 = true then (impl_onTheWay.l0 k1 l1 l2 t953 l2 (l2.length : Int) (wrap64 (x17_1 + 1))) else (some false)) = some r := H
          have A13 := Aside0.mk A130
          clear A130
          by_cases c14 : t954 = true
          ·subst c14
           have H1 : (impl_onTheWay.l0 k1 l1 l2 t953 l2 (l2.length : Int) (wrap64 (x17_1 + 1))) = some r := by rw [if_pos rfl] at H; exact H
           clear H
           have H := H1
           clear H1
           have H' := Aside0.mk H
           clear H
           have p946 : 0 ≤ (x17_1 : Int) := of_decide_eq_true ma_
           have q946 : x17_1 < (l2.length : Int) := of_decide_eq_true ma_
           obtain ⟨ad946, e946, hx946_0⟩ := Kd.at_string HR2.out x17_1 p946 q946
           cases e946
           replace hx946_0 := (HB.out.cell (World.block_lt_of_cell? w _ hx946_0)).trans hx946_0
           replace p946 := eq_true p946
           replace q946 := eq_true q946
           go_wp2_with (first | ((with_reducible refine gate_callee (f := 58) rfl ?_); refine goesL_ (some 23) rfl rfl Tryd.func58 (by kernel_rfl) rfl #[.string (rdOf ByteArray.empty l2 x17_1)] rfl sl_ ?_; (with_reducible refine (impl_PrintOf.calls k1 (rdOf ByteArray.empty l2 x17_1) t947 _ A7.out).mono ?_); rintro e w' ⟨rfl, ⟨nd, rfl⟩⟩; refine ⟨_, rfl, ?_⟩) | ((with_reducible refine gate_callee (f := 68) rfl ?_); refine goesL_ (some 33) rfl rfl Tryd.func68 (by kernel_rfl) rfl #[.string (rdOf ByteArray.empty l2 x17_1)] rfl sl_ ?_; (with_reducible refine (impl_ReadFolder.calls k1 (rdOf ByteArray.empty l2 x17_1) t948 true _ (GT_on hb_ hG) A10.out).mono ?_); rintro e w15 ⟨v950, rfl, ho0, hb⟩; refine ⟨_, rfl, ?_⟩; have HO951 := Aside0.mk (Kd.R_lower ho0 (below_size hb_)); replace HB := Aside0.mk (below_step hb_ hb); (try clear hb); (try clear ho0); have p952 : 0 ≤ (x17_1 : Int) := of_decide_eq_true ma_; have q952 : x17_1 < (l1.length : Int) := of_decide_eq_true ma_; obtain ⟨ad952, e952, hx952_0⟩ := Kd.at_string HR1.out x17_1 p952 q952; cases e952; replace hx952_0 := (HB.out.cell (World.block_lt_of_cell? w _ hx952_0)).trans hx952_0; replace p952 := eq_true p952; replace q952 := eq_true q952; obtain ⟨Ao16, co16, eo16⟩ := Kd.R_slice HO951.out; subst eo16) | ((with_reducible refine gate_callee (f := 69) rfl ?_); refine goesL_ (some 44) rfl rfl Tryd.func69 (by kernel_rfl) rfl #[.slice Ao16 t948.length co16, .string (rdOf ByteArray.empty l1 x17_1)] rfl sl_ ?_; (with_reducible refine (impl_printNamed.calls k1 _ _ t948 (rdOf ByteArray.empty l1 x17_1) t953 true _ ?side1 ?side2 A13.out).mono ?_); (case side1 => exact kC_ ((Kd.R_reads' HO951.out).2.2)); (case side2 => exact (Kd.R_reads' HO951.out).2.1); rintro e w17 ⟨rfl, hb⟩; refine ⟨_, rfl, ?_⟩; replace HO951 := Aside0.mk (Kd.R_below (kR_ HO951.out) hb); replace HB := Aside0.mk (below_step hb_ hb); (try clear hb)))
           go_roundg k1
           case measure => have := HK1.out; omega
           case rel => exact ⟨(t953), (wrap64 (x17_1 + 1)), (by first | rfl | (simp; done) | (simp [*]; done)), (by first | rfl | (simp; done) | (simp [*]; done)), H', ⟨by have := HK1.out; omega⟩, ⟨hb_⟩⟩
          ·replace c14 := Bool.eq_false_iff.mpr c14
           subst c14
           have H1 : (some false) = some r := by rw [if_neg (show ¬ (false = true) by decide)] at H; exact H
           clear H
           have H := H1
           clear H1
           obtain rfl := Option.some.inj H
           have p946 : 0 ≤ (x17_1 : Int) := of_decide_eq_true ma_
           have q946 : x17_1 < (l2.length : Int) := of_decide_eq_true ma_
           obtain ⟨ad946, e946, hx946_0⟩ := Kd.at_string HR2.out x17_1 p946 q946
           cases e946
           replace hx946_0 := (HB.out.cell (World.block_lt_of_cell? w _ hx946_0)).trans hx946_0
           replace p946 := eq_true p946
           replace q946 := eq_true q946
           go_wp2_with (first | ((with_reducible refine gate_callee (f := 58) rfl ?_); refine goesL_ (some 23) rfl rfl Tryd.func58 (by kernel_rfl) rfl #[.string (rdOf ByteArray.empty l2 x17_1)] rfl sl_ ?_; (with_reducible refine (impl_PrintOf.calls k1 (rdOf ByteArray.empty l2 x17_1) t947 _ A7.out).mono ?_); rintro e w' ⟨rfl, ⟨nd, rfl⟩⟩; refine ⟨_, rfl, ?_⟩) | ((with_reducible refine gate_callee (f := 68) rfl ?_); refine goesL_ (some 33) rfl rfl Tryd.func68 (by kernel_rfl) rfl #[.string (rdOf ByteArray.empty l2 x17_1)] rfl sl_ ?_; (with_reducible refine (impl_ReadFolder.calls k1 (rdOf ByteArray.empty l2 x17_1) t948 true _ (GT_on hb_ hG) A10.out).mono ?_); rintro e w18 ⟨v950, rfl, ho0, hb⟩; refine ⟨_, rfl, ?_⟩; have HO951 := Aside0.mk (Kd.R_lower ho0 (below_size hb_)); replace HB := Aside0.mk (below_step hb_ hb); (try clear hb); (try clear ho0); have p952 : 0 ≤ (x17_1 : Int) := of_decide_eq_true ma_; have q952 : x17_1 < (l1.length : Int) := of_decide_eq_true ma_; obtain ⟨ad952, e952, hx952_0⟩ := Kd.at_string HR1.out x17_1 p952 q952; cases e952; replace hx952_0 := (HB.out.cell (World.block_lt_of_cell? w _ hx952_0)).trans hx952_0; replace p952 := eq_true p952; replace q952 := eq_true q952; obtain ⟨Ao19, co19, eo19⟩ := Kd.R_slice HO951.out; subst eo19) | ((with_reducible refine gate_callee (f := 69) rfl ?_); refine goesL_ (some 44) rfl rfl Tryd.func69 (by kernel_rfl) rfl #[.slice Ao19 t948.length co19, .string (rdOf ByteArray.empty l1 x17_1)] rfl sl_ ?_; (with_reducible refine (impl_printNamed.calls k1 _ _ t948 (rdOf ByteArray.empty l1 x17_1) t953 false _ ?side1 ?side2 A13.out).mono ?_); (case side1 => exact kC_ ((Kd.R_reads' HO951.out).2.2)); (case side2 => exact (Kd.R_reads' HO951.out).2.1); rintro e w20 ⟨rfl, hb⟩; refine ⟨_, rfl, ?_⟩; replace HO951 := Aside0.mk (Kd.R_below (kR_ HO951.out) hb); replace HB := Aside0.mk (below_step hb_ hb); (try clear hb)))
           go_ret
           exact ⟨er_, hb_⟩
         ·rw [if_neg c12] at H
          exact absurd H (by simp)
        ·replace c11 := Bool.eq_false_iff.mpr c11
         subst c11
         have H1 : (some false) = some r := by rw [if_neg (show ¬ (false = true) by decide)] at H; exact H
         clear H
         have H := H1
         clear H1
         obtain rfl := Option.some.inj H
         have p946 : 0 ≤ (x17_1 : Int) := of_decide_eq_true ma_
         have q946 : x17_1 < (l2.length : Int) := of_decide_eq_true ma_
         obtain ⟨ad946, e946, hx946_0⟩ := Kd.at_string HR2.out x17_1 p946 q946
         cases e946
         replace hx946_0 := (HB.out.cell (World.block_lt_of_cell? w _ hx946_0)).trans hx946_0
         replace p946 := eq_true p946
         replace q946 := eq_true q946
         go_wp2_with (first | ((with_reducible refine gate_callee (f := 58) rfl ?_); refine goesL_ (some 23) rfl rfl Tryd.func58 (by kernel_rfl) rfl #[.string (rdOf ByteArray.empty l2 x17_1)] rfl sl_ ?_; (with_reducible refine (impl_PrintOf.calls k1 (rdOf ByteArray.empty l2 x17_1) t947 _ A7.out).mono ?_); rintro e w' ⟨rfl, ⟨nd, rfl⟩⟩; refine ⟨_, rfl, ?_⟩) | ((with_reducible refine gate_callee (f := 68) rfl ?_); refine goesL_ (some 33) rfl rfl Tryd.func68 (by kernel_rfl) rfl #[.string (rdOf ByteArray.empty l2 x17_1)] rfl sl_ ?_; (with_reducible refine (impl_ReadFolder.calls k1 (rdOf ByteArray.empty l2 x17_1) t948 false _ (GT_on hb_ hG) A10.out).mono ?_); rintro e w21 ⟨v950, rfl, ho0, hb⟩; refine ⟨_, rfl, ?_⟩; have HO951 := Aside0.mk (Kd.R_lower ho0 (below_size hb_)); replace HB := Aside0.mk (below_step hb_ hb); (try clear hb); (try clear ho0)))
         go_ret
         exact ⟨er_, hb_⟩
      ·rw [if_neg c8] at H
       have c8b0 : (t947 == x7_1) = false := beq_eq_false_iff_ne.mpr c8
       have c8b1 : (t947 != x7_1) = true := bne_iff_ne.mpr c8
       obtain rfl := Option.some.inj H
       have p946 : 0 ≤ (x17_1 : Int) := of_decide_eq_true ma_
       have q946 : x17_1 < (l2.length : Int) := of_decide_eq_true ma_
       obtain ⟨ad946, e946, hx946_0⟩ := Kd.at_string HR2.out x17_1 p946 q946
       cases e946
       replace hx946_0 := (HB.out.cell (World.block_lt_of_cell? w _ hx946_0)).trans hx946_0
       replace p946 := eq_true p946
       replace q946 := eq_true q946
       go_wp2_with (first | ((with_reducible refine gate_callee (f := 58) rfl ?_); refine goesL_ (some 23) rfl rfl Tryd.func58 (by kernel_rfl) rfl #[.string (rdOf ByteArray.empty l2 x17_1)] rfl sl_ ?_; (with_reducible refine (impl_PrintOf.calls k1 (rdOf ByteArray.empty l2 x17_1) t947 _ A7.out).mono ?_); rintro e w' ⟨rfl, ⟨nd, rfl⟩⟩; refine ⟨_, rfl, ?_⟩))
       go_ret
       exact ⟨er_, hb_⟩
     ·rw [if_neg c6] at H
      exact absurd H (by simp)
    ·rw [if_neg c5] at H
     exact absurd H (by simp)
   ·rw [if_neg c4] at H
    have c4b0 : decide (x17_1 < (l2.length : Int)) = false := decide_eq_false c4
    clear c4
    obtain rfl := Option.some.inj H
    go_wp2
    go_ret
    exact ⟨er_, hb_⟩
end Go.Proofs.YtjgbidklkhohfaaDoor.P
