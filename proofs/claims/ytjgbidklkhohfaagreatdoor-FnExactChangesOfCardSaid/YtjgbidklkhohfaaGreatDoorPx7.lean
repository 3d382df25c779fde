-- The functions of the seat as plain Lean functions, made by the kit's print.py for all laws at once. Not trusted: Lean checks it.
import Derived.Test.YtjgbidklkhohfaaGreatDoorPx0
import Derived.Test.YtjgbidklkhohfaaGreatDoorPx1
import Derived.Test.YtjgbidklkhohfaaGreatDoorPx2
import Derived.Test.YtjgbidklkhohfaaGreatDoorPx3
import Derived.Test.YtjgbidklkhohfaaGreatDoorPx4
import Derived.Test.YtjgbidklkhohfaaGreatDoorPx5
namespace Go.Proofs.YtjgbidklkhohfaaGreatDoor.P
open Go.RowKit Go.Proofs.YtjgbidklkhohfaaGreatDoorW.PrintWords Go.Proofs.YtjgbidklkhohfaaGreatDoorW.PrintLast Go.Proofs.YtjgbidklkhohfaaGreatDoorW.PrintMore
attribute [local go_sem] max2_int min2_int max_two min_two max_three min_three max_four min_four   -- for this text's walks alone
set_option linter.unusedVariables false
set_option linter.unusedSimpArgs false
/-! ### spec_ContentValid: function 91 -/
def spec_ContentValid.f (k : Nat) (a0 : ByteArray) : Option (Bool) := (spec_TextValid.f k a0).bind fun t147 => (if t147 = true then (some (decide ((a0.size : Int) ≤ 40))) else (some false))
theorem spec_ContentValid.mono : ∀ a0 k, LeO (spec_ContentValid.f k a0) (spec_ContentValid.f (k + 1) a0) := by
 intro a0 k
 unfold spec_ContentValid.f
 repeat' first
   | (with_reducible exact spec_TextValid.mono _ _)
   | (with_reducible exact LeO.refl _)
   | (with_reducible exact LeO.none _)
   | (with_reducible refine LeO.ite ?_ ?_)
   | (with_reducible refine LeO.bind ?_ (fun _ => ?_))
   | exact spec_TextValid.mono _ _
   | exact LeO.none _
   | refine LeO.ite ?_ ?_
   | refine LeO.bind ?_ (fun _ => ?_)
set_option maxHeartbeats 8000000 in
set_option maxRecDepth 100000 in
theorem spec_ContentValid.calls (k : Nat) (a0 : ByteArray) (r : Bool) (w : World) (h : spec_ContentValid.f k a0 = some r) :
  Calls Tryz.prog 91 #[.string a0] w fun e w' => e = .returned (.bool r) ∧ Drawn0 w w' := by
 have H : ((spec_TextValid.f k a0).bind fun t147 => (if t147 = true then (some (decide ((a0.size : Int) ≤ 40))) else (some false))) = some r := h
 clear h
 replace H := Option.bind_eq_some_iff.mp H
 obtain ⟨t147, A20, H⟩ := H
 replace H : (if t147 = true then (some (decide ((a0.size : Int) ≤ 40))) else (some false)) = some r := H
 have A2 := Aside0.mk A20
 clear A20
 by_cases c3 : t147 = true
 ·subst c3
  have H1 : (some (decide ((a0.size : Int) ≤ 40))) = some r := by rw [if_pos rfl] at H; exact H
  clear H
  have H := H1
  clear H1
  obtain rfl := Option.some.inj H
  go_enter Tryz.func91, Tryz.ntmps91
  go_wp2_with (first | ((with_reducible refine gate_callee (f := 53) rfl ?_); refine goesL_ (some 4) rfl rfl Tryz.func53 (by kernel_rfl) rfl #[.string a0] rfl sl_ ?_; (with_reducible refine (spec_TextValid.calls k a0 true _ A2.out).mono ?_); rintro e w' ⟨rfl, ⟨nd, rfl⟩⟩; refine ⟨_, rfl, ?_⟩))
  go_ret
  exact ⟨by first | rfl | (simp; done) | (simp [*]; done), by repeat (first | exact Drawn0.refl _ | apply Drawn0.step)⟩
 ·replace c3 := Bool.eq_false_iff.mpr c3
  subst c3
  have H1 : (some false) = some r := by rw [if_neg (show ¬ (false = true) by decide)] at H; exact H
  clear H
  have H := H1
  clear H1
  obtain rfl := Option.some.inj H
  go_enter Tryz.func91, Tryz.ntmps91
  go_wp2_with (first | ((with_reducible refine gate_callee (f := 53) rfl ?_); refine goesL_ (some 4) rfl rfl Tryz.func53 (by kernel_rfl) rfl #[.string a0] rfl sl_ ?_; (with_reducible refine (spec_TextValid.calls k a0 false _ A2.out).mono ?_); rintro e w' ⟨rfl, ⟨nd, rfl⟩⟩; refine ⟨_, rfl, ?_⟩))
  go_ret
  exact ⟨by first | rfl | (simp; done) | (simp [*]; done), by repeat (first | exact Drawn0.refl _ | apply Drawn0.step)⟩
/-! ### spec_ReadFile: function 70 -/
def spec_ReadFile.f (k : Nat) (a0 : ByteArray) : Option (ByteArray × Bool) := if a0.toList = ([] : List UInt8) then (some ((⟨#[]⟩ : ByteArray), false)) else (if 0 < (a0.size : Int) then (if (bt a0 0) = 102 then (if 1 ≤ (a0.size : Int) then ((spec_ContentValid.f k (a0.extract 1 a0.size)).bind fun t148 => (if t148 = true then (some (a0.extract 1 a0.size, true)) else (some ((⟨#[]⟩ : ByteArray), false)))) else (none)) else (some ((⟨#[]⟩ : ByteArray), false))) else (none))
theorem spec_ReadFile.mono : ∀ a0 k, LeO (spec_ReadFile.f k a0) (spec_ReadFile.f (k + 1) a0) := by
 intro a0 k
 unfold spec_ReadFile.f
 repeat' first
   | (with_reducible exact spec_ContentValid.mono _ _)
   | (with_reducible exact LeO.refl _)
   | (with_reducible exact LeO.none _)
   | (with_reducible refine LeO.ite ?_ ?_)
   | (with_reducible refine LeO.bind ?_ (fun _ => ?_))
   | exact spec_ContentValid.mono _ _
   | exact LeO.none _
   | refine LeO.ite ?_ ?_
   | refine LeO.bind ?_ (fun _ => ?_)
set_option maxHeartbeats 8000000 in
set_option maxRecDepth 100000 in
theorem spec_ReadFile.calls (k : Nat) (a0 : ByteArray) (r1 : ByteArray) (r2 : Bool) (w : World) (h : spec_ReadFile.f k a0 = some (r1, r2)) :
  Calls Tryz.prog 70 #[.string a0] w fun e w' => e = .returned (.tuple #[.string r1, .bool r2]) ∧ Drawn0 w w' := by
 have H : (if a0.toList = ([] : List UInt8) then (some ((⟨#[]⟩ : ByteArray), false)) else (if 0 < (a0.size : Int) then (if (bt a0 0) = 102 then (if 1 ≤ (a0.size : Int) then ((spec_ContentValid.f k (a0.extract 1 a0.size)).bind fun t148 => (if t148 = true then (some (a0.extract 1 a0.size, true)) else (some ((⟨#[]⟩ : ByteArray), false)))) else (none)) else (some ((⟨#[]⟩ : ByteArray), false))) else (none))) = some (r1, r2) := h
 clear h
 by_cases c2 : a0.toList = ([] : List UInt8)
 ·rw [if_pos c2] at H
  have c2b0 : (a0.toList == ([] : List UInt8)) = true := beq_iff_eq.mpr c2
  have c2b1 : (a0.toList != ([] : List UInt8)) = false := bne_eq_false_iff_eq.mpr c2
  clear c2
  simp only [Option.some.injEq, Prod.mk.injEq] at H
  obtain ⟨rfl, rfl⟩ := H
  go_enter Tryz.func70, Tryz.ntmps70
  go_wp2
  go_ret2
  exact ⟨by first | rfl | (simp; done) | (simp [*]; done), by repeat (first | exact Drawn0.refl _ | apply Drawn0.step)⟩
 ·rw [if_neg c2] at H
  have c2b0 : (a0.toList == ([] : List UInt8)) = false := beq_eq_false_iff_ne.mpr c2
  have c2b1 : (a0.toList != ([] : List UInt8)) = true := bne_iff_ne.mpr c2
  by_cases c3 : 0 < (a0.size : Int)
  ·rw [if_pos c3] at H
   have c3b0 : decide (0 < (a0.size : Int)) = true := decide_eq_true c3
   have c3b1 : decide (0 < a0.size) = true := decide_eq_true (by omega)
   clear c3
   by_cases c5 : (bt a0 0) = 102
   ·rw [if_pos c5] at H
    have c5b0 : ((bt a0 0) == 102) = true := beq_iff_eq.mpr c5
    have c5b1 : ((bt a0 0) != 102) = false := bne_eq_false_iff_eq.mpr c5
    clear c5
    by_cases c6 : 1 ≤ (a0.size : Int)
    ·rw [if_pos c6] at H
     have c6b0 := eq_true c6
     have c6b1 : decide (1 ≤ (a0.size : Int)) = true := decide_eq_true c6
     clear c6
     replace H := Option.bind_eq_some_iff.mp H
     obtain ⟨t148, A70, H⟩ := H
     replace H : (if t148 = true then (some (a0.extract 1 a0.size, true)) else (some ((⟨#[]⟩ : ByteArray), false))) = some (r1, r2) := H
     have A7 := Aside0.mk A70
     clear A70
     by_cases c8 : t148 = true
     ·subst c8
      have H1 : (some (a0.extract 1 a0.size, true)) = some (r1, r2) := by rw [if_pos rfl] at H; exact H
      clear H
      have H := H1
      clear H1
      have c9b0 := eq_true (of_decide_eq_true ma_ : 1 ≤ (a0.size : Int))
      simp only [Option.some.injEq, Prod.mk.injEq] at H
      obtain ⟨rfl, rfl⟩ := H
      have p4 : 0 ≤ (0 : Int) := (by omega)
      have q4 : 0 < a0.size := (by have : (0 : Int) < (a0.size : Int) := of_decide_eq_true ma_; omega)
      have hx4 : ∀ h : 0 < a0.size, ((a0[0]'h).toNat : Int) = bt a0 0 := bt_at a0 0
      clear p4
      have qi4 : (0 < (a0.size : Int)) = True := eq_true (of_decide_eq_true ma_)
      replace q4 := eq_true q4
      go_enter Tryz.func70, Tryz.ntmps70
      go_wp2_with (first | (go_at_call 91; (with_reducible refine (spec_ContentValid.calls k (a0.extract 1 a0.size) true _ A7.out).mono ?_); rintro e w' ⟨rfl, ⟨nd, rfl⟩⟩))
      go_ret2
      exact ⟨by first | rfl | (simp; done) | (simp [*]; done), by repeat (first | exact Drawn0.refl _ | apply Drawn0.step)⟩
     ·replace c8 := Bool.eq_false_iff.mpr c8
      subst c8
      have H1 : (some ((⟨#[]⟩ : ByteArray), false)) = some (r1, r2) := by rw [if_neg (show ¬ (false = true) by decide)] at H; exact H
      clear H
      have H := H1
      clear H1
      simp only [Option.some.injEq, Prod.mk.injEq] at H
      obtain ⟨rfl, rfl⟩ := H
      have p4 : 0 ≤ (0 : Int) := (by omega)
      have q4 : 0 < a0.size := (by have : (0 : Int) < (a0.size : Int) := of_decide_eq_true ma_; omega)
      have hx4 : ∀ h : 0 < a0.size, ((a0[0]'h).toNat : Int) = bt a0 0 := bt_at a0 0
      clear p4
      have qi4 : (0 < (a0.size : Int)) = True := eq_true (of_decide_eq_true ma_)
      replace q4 := eq_true q4
      go_enter Tryz.func70, Tryz.ntmps70
      go_wp2_with (first | (go_at_call 91; (with_reducible refine (spec_ContentValid.calls k (a0.extract 1 a0.size) false _ A7.out).mono ?_); rintro e w' ⟨rfl, ⟨nd, rfl⟩⟩))
      go_ret2
      exact ⟨by first | rfl | (simp; done) | (simp [*]; done), by repeat (first | exact Drawn0.refl _ | apply Drawn0.step)⟩
    ·rw [if_neg c6] at H
     exact absurd H (by simp)
   ·rw [if_neg c5] at H
    have c5b0 : ((bt a0 0) == 102) = false := beq_eq_false_iff_ne.mpr c5
    have c5b1 : ((bt a0 0) != 102) = true := bne_iff_ne.mpr c5
    simp only [Option.some.injEq, Prod.mk.injEq] at H
    obtain ⟨rfl, rfl⟩ := H
    have p4 : 0 ≤ (0 : Int) := (by omega)
    have q4 : 0 < a0.size := (by have : (0 : Int) < (a0.size : Int) := of_decide_eq_true ma_; omega)
    have hx4 : ∀ h : 0 < a0.size, ((a0[0]'h).toNat : Int) = bt a0 0 := bt_at a0 0
    clear p4
    have qi4 : (0 < (a0.size : Int)) = True := eq_true (of_decide_eq_true ma_)
    replace q4 := eq_true q4
    go_enter Tryz.func70, Tryz.ntmps70
    go_wp2
    go_ret2
    exact ⟨by first | rfl | (simp; done) | (simp [*]; done), by repeat (first | exact Drawn0.refl _ | apply Drawn0.step)⟩
  ·rw [if_neg c3] at H
   exact absurd H (by simp)
/-! ### spec_l11Files: function 48 -/
mutual
def spec_l11Files.j0 : Nat → List (S46) → List ByteArray → ByteArray → Bool → Bool → Option (List ByteArray)
 | 0, _, _, _, _, _ => none
 | k + 1, x0, x2, x7, x8, x34 => if x34 = true then ((spec_JoinPath.f k x2).bind fun t153 => (some (([t153] : List ByteArray)))) else ((spec_ReadFolder.f k x7).bind fun bt160 => (spec_l11Files.l0 k x0 x2 x8 (([] : List ByteArray)) bt160.1 bt160.2 0))
def spec_l11Files.l0 : Nat → List (S46) → List ByteArray → Bool → List ByteArray → List (S75) → Bool → Int → Option (List ByteArray)
 | 0, _, _, _, _, _, _, _ => none
 | k + 1, x0, x2, x8, x11, x12, x13, x14 => if x14 < (x12.length : Int) then (if x8 = true then (if x13 = true then (spec_l11Files.j2 k x0 x2 x8 x11 x12 x13 x14 (decide ((x2.length : Int) < 3))) else (spec_l11Files.j2 k x0 x2 x8 x11 x12 x13 x14 false)) else (spec_l11Files.j2 k x0 x2 x8 x11 x12 x13 x14 false)) else (spec_l11Files.j2 k x0 x2 x8 x11 x12 x13 x14 false)
def spec_l11Files.j2 : Nat → List (S46) → List ByteArray → Bool → List ByteArray → List (S75) → Bool → Int → Bool → Option (List ByteArray)
 | 0, _, _, _, _, _, _, _, _ => none
 | k + 1, x0, x2, x8, x11, x12, x13, x14, x58 => if x58 = true then (if 0 ≤ x14 then (if x14 < (x12.length : Int) then ((some (([] : List ByteArray) : List ByteArray)).bind fun y165 => (if y165.length + x2.length < 8796093022208 then ((some (y165 ++ x2 : List ByteArray)).bind fun y168 => ((some (([(rd_T75 x12 x14).f0] : List ByteArray) : List ByteArray)).bind fun y172 => (if y168.length + y172.length < 8796093022208 then ((spec_l11Files.f k x0 ((rd_T75 x12 x14).f1) (y168 ++ y172)).bind fun t178 => (if x11.length + t178.length < 8796093022208 then (spec_l11Files.l0 k x0 x2 x8 (x11 ++ t178) x12 x13 (wrap64 (x14 + 1))) else (none))) else (none)))) else (none))) else (none)) else (none)) else (some x11)
def spec_l11Files.f : Nat → List (S46) → Int → List ByteArray → Option (List ByteArray)
 | 0, _, _, _ => none
 | k + 1, l0, a1, l2 => (spec_l4Get.f k l0 a1).bind fun bt149 => ((spec_ReadFile.f k bt149.1).bind fun bt151 => (if bt149.2 = true then (if bt151.2 = true then (spec_l11Files.j0 k l0 l2 bt149.1 bt149.2 (decide ((l2.length : Int) > 0))) else (spec_l11Files.j0 k l0 l2 bt149.1 bt149.2 false)) else (spec_l11Files.j0 k l0 l2 bt149.1 bt149.2 false)))
end
theorem spec_l11Files.mono_l : ∀ k, (∀ y0 y1 y2, LeO (spec_l11Files.f k y0 y1 y2) (spec_l11Files.f (k + 1) y0 y1 y2)) ∧ (∀ y0 y1 y2 y3 y4, LeO (spec_l11Files.j0 k y0 y1 y2 y3 y4) (spec_l11Files.j0 (k + 1) y0 y1 y2 y3 y4)) ∧ (∀ y0 y1 y2 y3 y4 y5 y6, LeO (spec_l11Files.l0 k y0 y1 y2 y3 y4 y5 y6) (spec_l11Files.l0 (k + 1) y0 y1 y2 y3 y4 y5 y6)) ∧ (∀ y0 y1 y2 y3 y4 y5 y6 y7, LeO (spec_l11Files.j2 k y0 y1 y2 y3 y4 y5 y6 y7) (spec_l11Files.j2 (k + 1) y0 y1 y2 y3 y4 y5 y6 y7))
 | 0 => ⟨fun _ _ _ r h => by simp [spec_l11Files.f] at h, fun _ _ _ _ _ r h => by simp [spec_l11Files.j0] at h, fun _ _ _ _ _ _ _ r h => by simp [spec_l11Files.l0] at h, fun _ _ _ _ _ _ _ _ r h => by simp [spec_l11Files.j2] at h⟩
 | k + 1 => by
  obtain ⟨ih0, ih1, ih2, ih3⟩ := spec_l11Files.mono_l k
  refine ⟨?_, ?_, ?_, ?_⟩
  ·intro y0 y1 y2
   unfold spec_l11Files.f
   repeat' first
   | (with_reducible exact ih0 _ _ _)
   | (with_reducible exact ih1 _ _ _ _ _)
   | (with_reducible exact ih2 _ _ _ _ _ _ _)
   | (with_reducible exact ih3 _ _ _ _ _ _ _ _)
   | (with_reducible exact spec_JoinPath.mono _ _)
   | (with_reducible exact spec_ReadFile.mono _ _)
   | (with_reducible exact spec_ReadFolder.mono _ _)
   | (with_reducible exact spec_l4Get.mono _ _ _)
   | (with_reducible exact LeO.refl _)
   | (with_reducible exact LeO.none _)
   | (with_reducible refine LeO.ite ?_ ?_)
   | (with_reducible refine LeO.bind ?_ (fun _ => ?_))
   | exact ih0 _ _ _
   | exact ih1 _ _ _ _ _
   | exact ih2 _ _ _ _ _ _ _
   | exact ih3 _ _ _ _ _ _ _ _
   | exact spec_JoinPath.mono _ _
   | exact spec_ReadFile.mono _ _
   | exact spec_ReadFolder.mono _ _
   | exact spec_l4Get.mono _ _ _
   | exact LeO.none _
   | refine LeO.ite ?_ ?_
   | refine LeO.bind ?_ (fun _ => ?_)
  ·intro y0 y1 y2 y3 y4
   unfold spec_l11Files.j0
   repeat' first
   | (with_reducible exact ih0 _ _ _)
   | (with_reducible exact ih1 _ _ _ _ _)
   | (with_reducible exact ih2 _ _ _ _ _ _ _)
   | (with_reducible exact ih3 _ _ _ _ _ _ _ _)
   | (with_reducible exact spec_JoinPath.mono _ _)
   | (with_reducible exact spec_ReadFile.mono _ _)
   | (with_reducible exact spec_ReadFolder.mono _ _)
   | (with_reducible exact spec_l4Get.mono _ _ _)
   | (with_reducible exact LeO.refl _)
   | (with_reducible exact LeO.none _)
   | (with_reducible refine LeO.ite ?_ ?_)
   | (with_reducible refine LeO.bind ?_ (fun _ => ?_))
   | exact ih0 _ _ _
   | exact ih1 _ _ _ _ _
   | exact ih2 _ _ _ _ _ _ _
   | exact ih3 _ _ _ _ _ _ _ _
   | exact spec_JoinPath.mono _ _
   | exact spec_ReadFile.mono _ _
   | exact spec_ReadFolder.mono _ _
   | exact spec_l4Get.mono _ _ _
   | exact LeO.none _
   | refine LeO.ite ?_ ?_
   | refine LeO.bind ?_ (fun _ => ?_)
  ·intro y0 y1 y2 y3 y4 y5 y6
   unfold spec_l11Files.l0
   repeat' first
   | (with_reducible exact ih0 _ _ _)
   | (with_reducible exact ih1 _ _ _ _ _)
   | (with_reducible exact ih2 _ _ _ _ _ _ _)
   | (with_reducible exact ih3 _ _ _ _ _ _ _ _)
   | (with_reducible exact spec_JoinPath.mono _ _)
   | (with_reducible exact spec_ReadFile.mono _ _)
   | (with_reducible exact spec_ReadFolder.mono _ _)
   | (with_reducible exact spec_l4Get.mono _ _ _)
   | (with_reducible exact LeO.refl _)
   | (with_reducible exact LeO.none _)
   | (with_reducible refine LeO.ite ?_ ?_)
   | (with_reducible refine LeO.bind ?_ (fun _ => ?_))
   | exact ih0 _ _ _
   | exact ih1 _ _ _ _ _
   | exact ih2 _ _ _ _ _ _ _
   | exact ih3 _ _ _ _ _ _ _ _
   | exact spec_JoinPath.mono _ _
   | exact spec_ReadFile.mono _ _
   | exact spec_ReadFolder.mono _ _
   | exact spec_l4Get.mono _ _ _
   | exact LeO.none _
   | refine LeO.ite ?_ ?_
   | refine LeO.bind ?_ (fun _ => ?_)
  ·intro y0 y1 y2 y3 y4 y5 y6 y7
   unfold spec_l11Files.j2
   repeat' first
   | (with_reducible exact ih0 _ _ _)
   | (with_reducible exact ih1 _ _ _ _ _)
   | (with_reducible exact ih2 _ _ _ _ _ _ _)
   | (with_reducible exact ih3 _ _ _ _ _ _ _ _)
   | (with_reducible exact spec_JoinPath.mono _ _)
   | (with_reducible exact spec_ReadFile.mono _ _)
   | (with_reducible exact spec_ReadFolder.mono _ _)
   | (with_reducible exact spec_l4Get.mono _ _ _)
   | (with_reducible exact LeO.refl _)
   | (with_reducible exact LeO.none _)
   | (with_reducible refine LeO.ite ?_ ?_)
   | (with_reducible refine LeO.bind ?_ (fun _ => ?_))
   | exact ih0 _ _ _
   | exact ih1 _ _ _ _ _
   | exact ih2 _ _ _ _ _ _ _
   | exact ih3 _ _ _ _ _ _ _ _
   | exact spec_JoinPath.mono _ _
   | exact spec_ReadFile.mono _ _
   | exact spec_ReadFolder.mono _ _
   | exact spec_l4Get.mono _ _ _
   | exact LeO.none _
   | refine LeO.ite ?_ ?_
   | refine LeO.bind ?_ (fun _ => ?_)
theorem spec_l11Files.mono : ∀ a0 a1 a2 k, LeO (spec_l11Files.f k a0 a1 a2) (spec_l11Files.f (k + 1) a0 a1 a2) := by
 intro a0 a1 a2 k
 obtain ⟨ih0, ih1, ih2, ih3⟩ := spec_l11Files.mono_l k
 exact ih0 a0 a1 a2
def spec_l11Files.T10 : Bool × List (List Nat × List Nat) := (true, [([], []), ([], []), ([], []), ([], []), ([2, 3], [2, 3]), ([4], [4]), ([5], [5]), ([], []), ([], []), ([7, 8], [7, 8]), ([], []), ([], []), ([10, 11], [10, 11]), ([12], [12]), ([13], [13]), ([14], [14]), ([9, 15, 9], [9, 15]), ([1, 6, 16, 16], [1, 6, 16]), ([0, 17, 17], [0, 17]), ([18, 18, 0, 1, 2, 3, 4, 5, 6, 7, 8, 9, 10, 11, 12, 13, 14, 15, 16, 17, 18], [0, 18])])
def spec_l11Files.B10 : List Nat := [0, 0, 0, 0, 12, 28, 60, 0, 0, 384, 0, 0, 3072, 7168, 15360, 31744, 65408, 131070, 262143, 524287]
theorem spec_l11Files.tab10 : rtab .any (opsOf Tryz.f48 10) = spec_l11Files.T10 := by kernel_rfl
theorem spec_l11Files.bits10 : waitsOk spec_l11Files.T10.2 spec_l11Files.B10 = true := by kernel_rfl
set_option maxHeartbeats 8000000 in
set_option maxRecDepth 100000 in
theorem spec_l11Files.calls (k : Nat) : ∀ (A0 : Option Addr) (c0 : Nat) (l0 : List (S46)) (a1 : Int) (A2 : Option Addr) (c2 : Nat) (l2 : List ByteArray) (r : List ByteArray) (w : World) (hr0 : Kd.C k46 w A0 l0.length l0) (hc0 : l0.length ≤ c0) (hr2 : Kd.C Kd.string w A2 l2.length l2) (hc2 : l2.length ≤ c2) (h : spec_l11Files.f k l0 a1 l2 = some r),
  Calls Tryz.prog 48 #[.slice A0 l0.length c0, .int .i64 a1, .slice A2 l2.length c2] w fun e w' => ∃ v0_ : Value, e = .returned (v0_) ∧ Kd.R Kd.string 9 w' w.heap.size (fun _ => True) v0_ r ∧ Below w.heap.size w w' := by
 induction k using Nat.strongRecOn with
 | _ k ih =>
 intro A0 c0 l0 a1 A2 c2 l2 r w hr0 hc0 hr2 hc2 h
 cases k with
 | zero => exact absurd h (by simp [spec_l11Files.f])
 | succ k =>
 simp only [spec_l11Files.f] at h
 have HR0 := Aside0.mk hr0
 have HC0 := Aside0.mk hc0
 clear hr0 hc0
 have HR2 := Aside0.mk hr2
 have HC2 := Aside0.mk hc2
 clear hr2 hc2
 have HB := Aside0.mk (Below.refl w.heap.size w)
 have H : ((spec_l4Get.f k l0 a1).bind fun bt149 => ((spec_ReadFile.f k bt149.1).bind fun bt151 => (if bt149.2 = true then (if bt151.2 = true then (spec_l11Files.j0 k l0 l2 bt149.1 bt149.2 (decide ((l2.length : Int) > 0))) else (spec_l11Files.j0 k l0 l2 bt149.1 bt149.2 false)) else (spec_l11Files.j0 k l0 l2 bt149.1 bt149.2 false)))) = some r := h
 clear h
 replace H := Option.bind_eq_some_iff.mp H
 obtain ⟨⟨t149, t150⟩, A40, H⟩ := H
 replace H : ((spec_ReadFile.f k t149).bind fun bt151 => (if t150 = true then (if bt151.2 = true then (spec_l11Files.j0 k l0 l2 t149 t150 (decide ((l2.length : Int) > 0))) else (spec_l11Files.j0 k l0 l2 t149 t150 false)) else (spec_l11Files.j0 k l0 l2 t149 t150 false))) = some r := H
 have A4 := Aside0.mk A40
 clear A40
 replace H := Option.bind_eq_some_iff.mp H
 obtain ⟨⟨t151, t152⟩, A50, H⟩ := H
 replace H : (if t150 = true then (if t152 = true then (spec_l11Files.j0 k l0 l2 t149 t150 (decide ((l2.length : Int) > 0))) else (spec_l11Files.j0 k l0 l2 t149 t150 false)) else (spec_l11Files.j0 k l0 l2 t149 t150 false)) = some r := H
 have A5 := Aside0.mk A50
 clear A50
 have HC6 := Aside0.mk H
 clear H
 go_enter Tryz.func48, Tryz.ntmps48
 go_upto_region 3 with (first | ((with_reducible refine gate_callee (f := 57) rfl ?_); refine goesL_ (some 18) rfl rfl Tryz.func57 (by kernel_rfl) rfl #[.slice A0 l0.length c0, .int .i64 a1] rfl sl_ ?_; (with_reducible refine (spec_l4Get.calls k _ _ l0 a1 t149 t150 _ ?side1 ?side2 A4.out).mono ?_); (case side1 => exact kC_ HR0.out); (case side2 => exact HC0.out); rintro e w' ⟨rfl, ⟨nd, rfl⟩⟩; refine ⟨_, rfl, ?_⟩) | ((with_reducible refine gate_callee (f := 70) rfl ?_); refine goesL_ (some 23) rfl rfl Tryz.func70 (by kernel_rfl) rfl #[.string t149] rfl sl_ ?_; (with_reducible refine (spec_ReadFile.calls k t149 t151 t152 _ A5.out).mono ?_); rintro e w' ⟨rfl, ⟨nd, rfl⟩⟩; refine ⟨_, rfl, ?_⟩))
 (try simp only [Act.put, List.setIfInBounds_toArray, List.set_cons_zero, List.set_cons_succ])
 go_cut [34] (fun v34 wc => ∃ (kq : Nat) (x34_5 : Bool), v34 = .bool x34_5 ∧ Aside0 (spec_l11Files.j0 kq l0 l2 t149 t150 x34_5 = some r) ∧ Aside0 (kq ≤ k) ∧ Aside0 (Below w.heap.size w wc))
 case first =>
  have H := HC6.out
  clear HC6
  by_cases c7 : t150 = true
  ·subst c7
   have H1 : (if t152 = true then (spec_l11Files.j0 k l0 l2 t149 true (decide ((l2.length : Int) > 0))) else (spec_l11Files.j0 k l0 l2 t149 true false)) = some r := by rw [if_pos rfl] at H; exact H
   clear H
   have H := H1
   clear H1
   by_cases c8 : t152 = true
   ·subst c8
    have H1 : (spec_l11Files.j0 k l0 l2 t149 true (decide ((l2.length : Int) > 0))) = some r := by rw [if_pos rfl] at H; exact H
    clear H
    have H := H1
    clear H1
    have H' := Aside0.mk H
    clear H
    go_wp2
    go_meet
    case rel => exact ⟨_, (decide ((l2.length : Int) > 0)), (by first | rfl | (simp; done) | (simp [*]; done)), H', ⟨by first | omega | exact Nat.le_refl _⟩, ⟨hb_⟩⟩
   ·replace c8 := Bool.eq_false_iff.mpr c8
    subst c8
    have H1 : (spec_l11Files.j0 k l0 l2 t149 true false) = some r := by rw [if_neg (show ¬ (false = true) by decide)] at H; exact H
    clear H
    have H := H1
    clear H1
    have H' := Aside0.mk H
    clear H
    go_wp2
    go_meet
    case rel => exact ⟨_, (false), (by first | rfl | (simp; done) | (simp [*]; done)), H', ⟨by first | omega | exact Nat.le_refl _⟩, ⟨hb_⟩⟩
  ·replace c7 := Bool.eq_false_iff.mpr c7
   subst c7
   have H1 : (spec_l11Files.j0 k l0 l2 t149 false false) = some r := by rw [if_neg (show ¬ (false = true) by decide)] at H; exact H
   clear H
   have H := H1
   clear H1
   have H' := Aside0.mk H
   clear H
   go_wp2
   go_meet
   case rel => exact ⟨_, (false), (by first | rfl | (simp; done) | (simp [*]; done)), H', ⟨by first | omega | exact Nat.le_refl _⟩, ⟨hb_⟩⟩
 case rest =>
  clear HC6
  try clear c2
  try clear p2
  try clear c4
  try clear c5
  try clear c7
  try clear c8
  obtain ⟨kq, x34_5, rfl, HA, HJ5, HB⟩ := hcut
  cases kq with
  | zero => exact absurd HA.out (by simp [spec_l11Files.j0])
  | succ kj5 =>
   have H := HA.out
   clear HA
   simp only [spec_l11Files.j0] at H
   by_cases c9 : x34_5 = true
   ·subst c9
    have H1 : ((spec_JoinPath.f kj5 l2).bind fun t153 => (some (([t153] : List ByteArray)))) = some r := by rw [if_pos rfl] at H; exact H
    clear H
    have H := H1
    clear H1
    replace H := Option.bind_eq_some_iff.mp H
    obtain ⟨t153, A100, H⟩ := H
    replace H : (some (([t153] : List ByteArray))) = some r := H
    have A10 := Aside0.mk A100
    clear A100
    obtain ⟨y154, hy154⟩ : ∃ y_ : List ByteArray, y_ = (([t153] : List ByteArray)) := ⟨_, rfl⟩
    replace H : (some y154) = some r := by first | (rw [hy154]; with_reducible exact H) | (have H2_ := (Option.bind_some _ _).symm.trans H; rw [hy154]; with_reducible exact H2_) | (have H2_ := (Option.bind_some _ _).symm.trans H; with_reducible exact H2_) | with_reducible exact H | (rw [hy154]; exact H) | exact H
    have Ny154 := Aside0.mk hy154
    clear hy154
    obtain rfl := Option.some.inj H
    go_wp2_with (first | ((with_reducible refine gate_callee (f := 38) rfl ?_); refine goesL_ (some 36) rfl rfl Tryz.func38 (by kernel_rfl) rfl #[.slice A2 l2.length c2] rfl sl_ ?_; (with_reducible refine (spec_JoinPath.calls kj5 _ _ l2 t153 _ ?side1 ?side2 A10.out).mono ?_); (case side1 => exact kC_ (Kd.C_below HR2.out HB.out)); (case side2 => exact HC2.out); rintro e w' ⟨rfl, ⟨nd, rfl⟩⟩; refine ⟨_, rfl, ?_⟩) | ((with_reducible refine gate_dst (N := 37) rfl ?_); refine Kd.R_lit Kd.string _ 9 ?hg (N := 37) ?hd (xs := ([t153] : List ByteArray)) (inner := [.string t153]) (ok := fun _ => True) (okp := fun _ => True) ?hr ?hp (fun _ hk => hk) trivial (Below.refl _ _) (Nat.le_refl _) (by simp) ?_; (case hd => rfl); (case hg => rfl); (case hr => first | (go_simp; done) | (go_simp; rfl)); (case hp => exact (Reps.one (show Kd.M Kd.string _ _ _ t153 [.string t153] from rfl) (Reps.none _ _))); intro v155 w11 ho12 hb hg_ hnew_; clear hg_ hnew_; (first | rw [← Ny154.out] at ho12 | (simp only [Int.reduceToNat] at ho12; rw [← Ny154.out] at ho12)); have HO156 := Aside0.mk (Kd.R_lower ho12 (below_size hb_)); replace HB := Aside0.mk (below_step hb_ hb); clear hb ho12))
    go_ret
    exact ⟨_, er_, by (with_reducible repeat (first | apply Kd.R_alloc | apply Kd.R_drewN | apply Kd.R_drew)); exact HO156.out, hb_⟩
   ·replace c9 := Bool.eq_false_iff.mpr c9
    subst c9
    have H1 : ((spec_ReadFolder.f kj5 t149).bind fun bt160 => (spec_l11Files.l0 kj5 l0 l2 t150 (([] : List ByteArray)) bt160.1 bt160.2 0)) = some r := by rw [if_neg (show ¬ (false = true) by decide)] at H; exact H
    clear H
    have H := H1
    clear H1
    obtain ⟨y157, hy157⟩ : ∃ y_ : List ByteArray, y_ = (([] : List ByteArray)) := ⟨_, rfl⟩
    replace H : ((spec_ReadFolder.f kj5 t149).bind fun bt160 => (spec_l11Files.l0 kj5 l0 l2 t150 y157 bt160.1 bt160.2 0)) = some r := by first | (rw [hy157]; with_reducible exact H) | (have H2_ := (Option.bind_some _ _).symm.trans H; rw [hy157]; with_reducible exact H2_) | (have H2_ := (Option.bind_some _ _).symm.trans H; with_reducible exact H2_) | with_reducible exact H | (rw [hy157]; exact H) | exact H
    have Ny157 := Aside0.mk hy157
    clear hy157
    replace H := Option.bind_eq_some_iff.mp H
    obtain ⟨⟨t160, t161⟩, A130, H⟩ := H
    replace H : (spec_l11Files.l0 kj5 l0 l2 t150 y157 t160 t161 0) = some r := H
    have A13 := Aside0.mk A130
    clear A130
    have H' := Aside0.mk H
    clear H
    go_wp2_with (first | ((with_reducible refine gate_dst (N := 38) rfl ?_); refine Kd.R_lit Kd.string _ 9 ?hg (N := 38) ?hd (xs := ([] : List ByteArray)) (inner := []) (ok := fun _ => True) (okp := fun _ => True) ?hr ?hp (fun _ hk => hk) trivial (Below.refl _ _) (Nat.le_refl _) (by simp) ?_; (case hd => rfl); (case hg => rfl); (case hr => first | (go_simp; done) | (go_simp; rfl)); (case hp => exact (Reps.none _ _)); intro v158 w14 ho15 hb hg_ hnew_; clear hg_ hnew_; (first | rw [← Ny157.out] at ho15 | (simp only [Int.reduceToNat] at ho15; rw [← Ny157.out] at ho15)); have HO159 := Aside0.mk (Kd.R_lower ho15 (below_size hb_)); replace HB := Aside0.mk (below_step hb_ hb); clear hb ho15) | ((with_reducible refine gate_callee (f := 61) rfl ?_); refine goesL_ (some 41) rfl rfl Tryz.func61 (by kernel_rfl) rfl #[.string t149] rfl sl_ ?_; (with_reducible refine (spec_ReadFolder.calls kj5 t149 t160 t161 _ A13.out).mono ?_); rintro e w16 ⟨v162, rfl, ho0, hb⟩; refine ⟨_, rfl, ?_⟩; replace HO159 := Aside0.mk (Kd.R_below (kR_ HO159.out) hb); have HO163 := Aside0.mk (Kd.R_lower ho0 (below_size hb_)); replace HB := Aside0.mk (below_step hb_ hb); (try clear hb); (try clear hk); (try clear ho0)))
    go_loopg [11, 14] kj5 (fun kq v11 v14 w' => ∃ (x11_2 : List ByteArray) (x14_2 : Int), v14 = .int .i64 x14_2 ∧ Aside0 (spec_l11Files.l0 kq l0 l2 t150 x11_2 t160 t161 x14_2 = some r) ∧ Aside0 (kq ≤ kj5) ∧ Aside0 (Kd.R Kd.string 9 w' w.heap.size (fun _ => True) v11 x11_2) ∧ Aside0 (Kd.R k75 75 w' w.heap.size (fun _ => True) v162 t160) ∧ Aside0 (Below w.heap.size w w'))
    case atStart => exact ⟨(y157), (0), (by first | rfl | (simp; done) | (simp [*]; done)), H', ⟨Nat.le_refl _⟩, ⟨by (with_reducible repeat (first | apply Kd.R_alloc | apply Kd.R_drewN | apply Kd.R_drew)); exact HO159.out⟩, ⟨by (with_reducible repeat (first | apply Kd.R_alloc | apply Kd.R_drewN | apply Kd.R_drew)); exact HO163.out⟩, ⟨hb_⟩⟩
    case round =>
     clear H'
     try clear c2
     try clear p2
     try clear c3
     try clear c4
     try clear c5
     try clear c6
     try clear c7
     try clear c8
     try clear c9
     try clear p2
     obtain ⟨x11_2, x14_2, rfl, HA, HK2, HO_11, HO_12, HB⟩ := hrel
     cases gk with
     | zero => exact absurd HA.out (by simp [spec_l11Files.l0])
     | succ k2 =>
      have H := HA.out
      clear HA
      simp only [spec_l11Files.l0] at H
      have HC17 := Aside0.mk H
      clear H
      go_upto_region 8 with (fail)
      go_cut [58] (fun v58 wc => ∃ (kq : Nat) (x58_16 : Bool), v58 = .bool x58_16 ∧ Aside0 (spec_l11Files.j2 kq l0 l2 t150 x11_2 t160 t161 x14_2 x58_16 = some r) ∧ Aside0 (kq ≤ k2) ∧ Aside0 (Kd.R Kd.string 9 wc w.heap.size (fun _ => True) u11 x11_2) ∧ Aside0 (Kd.R k75 75 wc w.heap.size (fun _ => True) v162 t160) ∧ Aside0 (Below w.heap.size w wc))
      case first =>
       have H := HC17.out
       clear HC17
       by_cases c18 : x14_2 < (t160.length : Int)
       ·rw [if_pos c18] at H
        have c18b0 : decide (x14_2 < (t160.length : Int)) = true := decide_eq_true c18
        clear c18
        (first | rw [c18b0] | (simp only [i64_w, i32_w]; rw [c18b0]) | skip)
        by_cases c19 : t150 = true
        ·subst c19
         have H1 : (if t161 = true then (spec_l11Files.j2 k2 l0 l2 true x11_2 t160 t161 x14_2 (decide ((l2.length : Int) < 3))) else (spec_l11Files.j2 k2 l0 l2 true x11_2 t160 t161 x14_2 false)) = some r := by rw [if_pos rfl] at H; exact H
         clear H
         have H := H1
         clear H1
         by_cases c20 : t161 = true
         ·subst c20
          have H1 : (spec_l11Files.j2 k2 l0 l2 true x11_2 t160 true x14_2 (decide ((l2.length : Int) < 3))) = some r := by rw [if_pos rfl] at H; exact H
          clear H
          have H := H1
          clear H1
          have H' := Aside0.mk H
          clear H
          obtain ⟨Ao21, co21, eo21⟩ := Kd.R_slice HO_12.out
          subst eo21
          go_wp2
          go_meet
          case rel => exact ⟨_, (decide ((l2.length : Int) < 3)), (by first | rfl | (simp; done) | (simp [*]; done)), H', ⟨by have := HJ5.out; have := HK2.out; first | omega | exact Nat.le_refl _⟩, ⟨by (with_reducible repeat (first | apply Kd.R_alloc | apply Kd.R_drewN | apply Kd.R_drew)); exact HO_11.out⟩, ⟨by (with_reducible repeat (first | apply Kd.R_alloc | apply Kd.R_drewN | apply Kd.R_drew)); exact HO_12.out⟩, ⟨hb_⟩⟩
         ·replace c20 := Bool.eq_false_iff.mpr c20
          subst c20
          have H1 : (spec_l11Files.j2 k2 l0 l2 true x11_2 t160 false x14_2 false) = some r := by rw [if_neg (show ¬ (false = true) by decide)] at H; exact H
          clear H
          have H := H1
          clear H1
          have H' := Aside0.mk H
          clear H
          obtain ⟨Ao22, co22, eo22⟩ := Kd.R_slice HO_12.out
          subst eo22
          go_wp2
          go_meet
          case rel => exact ⟨_, (false), (by first | rfl | (simp; done) | (simp [*]; done)), H', ⟨by have := HJ5.out; have := HK2.out; first | omega | exact Nat.le_refl _⟩, ⟨by (with_reducible repeat (first | apply Kd.R_alloc | apply Kd.R_drewN | apply Kd.R_drew)); exact HO_11.out⟩, ⟨by (with_reducible repeat (first | apply Kd.R_alloc | apply Kd.R_drewN | apply Kd.R_drew)); exact HO_12.out⟩, ⟨hb_⟩⟩
        ·replace c19 := Bool.eq_false_iff.mpr c19
         subst c19
         have H1 : (spec_l11Files.j2 k2 l0 l2 false x11_2 t160 t161 x14_2 false) = some r := by rw [if_neg (show ¬ (false = true) by decide)] at H; exact H
         clear H
         have H := H1
         clear H1
         have H' := Aside0.mk H
         clear H
         obtain ⟨Ao23, co23, eo23⟩ := Kd.R_slice HO_12.out
         subst eo23
         go_wp2
         go_meet
         case rel => exact ⟨_, (false), (by first | rfl | (simp; done) | (simp [*]; done)), H', ⟨by have := HJ5.out; have := HK2.out; first | omega | exact Nat.le_refl _⟩, ⟨by (with_reducible repeat (first | apply Kd.R_alloc | apply Kd.R_drewN | apply Kd.R_drew)); exact HO_11.out⟩, ⟨by (with_reducible repeat (first | apply Kd.R_alloc | apply Kd.R_drewN | apply Kd.R_drew)); exact HO_12.out⟩, ⟨hb_⟩⟩
       ·rw [if_neg c18] at H
        have c18b0 : decide (x14_2 < (t160.length : Int)) = false := decide_eq_false c18
        clear c18
        (first | rw [c18b0] | (simp only [i64_w, i32_w]; rw [c18b0]) | skip)
        have H' := Aside0.mk H
        clear H
        obtain ⟨Ao24, co24, eo24⟩ := Kd.R_slice HO_12.out
        subst eo24
        go_wp2
        go_meet
        case rel => exact ⟨_, (false), (by first | rfl | (simp; done) | (simp [*]; done)), H', ⟨by have := HJ5.out; have := HK2.out; first | omega | exact Nat.le_refl _⟩, ⟨by (with_reducible repeat (first | apply Kd.R_alloc | apply Kd.R_drewN | apply Kd.R_drew)); exact HO_11.out⟩, ⟨by (with_reducible repeat (first | apply Kd.R_alloc | apply Kd.R_drewN | apply Kd.R_drew)); exact HO_12.out⟩, ⟨hb_⟩⟩
      case rest =>
       clear HC17
       try clear c1
       try clear c2
       try clear p2
       try clear c3
       try clear c4
       try clear c5
       try clear c6
       try clear c7
       try clear c8
       try clear c9
       try clear c18
       try clear c18b0
       try clear c19
       try clear c20
       try clear p2
       obtain ⟨kq, x58_16, rfl, HA, HJ16, HO_11, HO_12, HB⟩ := hcut
       cases kq with
       | zero => exact absurd HA.out (by simp [spec_l11Files.j2])
       | succ kj16 =>
        have H := HA.out
        clear HA
        simp only [spec_l11Files.j2] at H
        by_cases c25 : x58_16 = true
        ·subst c25
         have H1 : (if 0 ≤ x14_2 then (if x14_2 < (t160.length : Int) then ((some (([] : List ByteArray) : List ByteArray)).bind fun y165 => (if y165.length + l2.length < 8796093022208 then ((some (y165 ++ l2 : List ByteArray)).bind fun y168 => ((some (([(rd_T75 t160 x14_2).f0] : List ByteArray) : List ByteArray)).bind fun y172 => (if y168.length + y172.length < 8796093022208 then ((spec_l11Files.f kj16 l0 ((rd_T75 t160 x14_2).f1) (y168 ++ y172)).bind fun t178 => (if x11_2.length + t178.length < 8796093022208 then (spec_l11Files.l0 kj16 l0 l2 t150 (x11_2 ++ t178) t160 t161 (wrap64 (x14_2 + 1))) else (none))) else (none)))) else (none))) else (none)) else (none)) = some r := by rw [if_pos rfl] at H; exact H
         clear H
         have H := H1
         clear H1
         by_cases c26 : 0 ≤ x14_2
         ·rw [if_pos c26] at H
          have c26b0 : decide (0 ≤ x14_2) = true := decide_eq_true c26
          clear c26
          by_cases c27 : x14_2 < (t160.length : Int)
          ·rw [if_pos c27] at H
           have c27b0 : decide (x14_2 < (t160.length : Int)) = true := decide_eq_true c27
           clear c27
           obtain ⟨y165, hy165⟩ : ∃ y_ : List ByteArray, y_ = (([] : List ByteArray)) := ⟨_, rfl⟩
           replace H : (if y165.length + l2.length < 8796093022208 then ((some (y165 ++ l2 : List ByteArray)).bind fun y168 => ((some (([(rd_T75 t160 x14_2).f0] : List ByteArray) : List ByteArray)).bind fun y172 => (if y168.length + y172.length < 8796093022208 then ((spec_l11Files.f kj16 l0 ((rd_T75 t160 x14_2).f1) (y168 ++ y172)).bind fun t178 => (if x11_2.length + t178.length < 8796093022208 then (spec_l11Files.l0 kj16 l0 l2 t150 (x11_2 ++ t178) t160 t161 (wrap64 (x14_2 + 1))) else (none))) else (none)))) else (none)) = some r := by first | (rw [hy165]; with_reducible exact H) | (have H2_ := (Option.bind_some _ _).symm.trans H; rw [hy165]; with_reducible exact H2_) | (have H2_ := (Option.bind_some _ _).symm.trans H; with_reducible exact H2_) | with_reducible exact H | (rw [hy165]; exact H) | exact H
           have Ny165 := Aside0.mk hy165
           clear hy165
           by_cases c28 : y165.length + l2.length < 8796093022208
           ·rw [if_pos c28] at H
            have LMc28 := Aside0.mk c28
            clear c28
            obtain ⟨y168, hy168⟩ : ∃ y_ : List ByteArray, y_ = (y165 ++ l2) := ⟨_, rfl⟩
            replace H : ((some (([(rd_T75 t160 x14_2).f0] : List ByteArray) : List ByteArray)).bind fun y172 => (if y168.length + y172.length < 8796093022208 then ((spec_l11Files.f kj16 l0 ((rd_T75 t160 x14_2).f1) (y168 ++ y172)).bind fun t178 => (if x11_2.length + t178.length < 8796093022208 then (spec_l11Files.l0 kj16 l0 l2 t150 (x11_2 ++ t178) t160 t161 (wrap64 (x14_2 + 1))) else (none))) else (none))) = some r := by first | (rw [hy168]; with_reducible exact H) | (have H2_ := (Option.bind_some _ _).symm.trans H; rw [hy168]; with_reducible exact H2_) | (have H2_ := (Option.bind_some _ _).symm.trans H; with_reducible exact H2_) | with_reducible exact H | (rw [hy168]; exact H) | exact H
            have Ny168 := Aside0.mk hy168
            clear hy168
            obtain ⟨y172, hy172⟩ : ∃ y_ : List ByteArray, y_ = (([(rd_T75 t160 x14_2).f0] : List ByteArray)) := ⟨_, rfl⟩
            replace H : (if y168.length + y172.length < 8796093022208 then ((spec_l11Files.f kj16 l0 ((rd_T75 t160 x14_2).f1) (y168 ++ y172)).bind fun t178 => (if x11_2.length + t178.length < 8796093022208 then (spec_l11Files.l0 kj16 l0 l2 t150 (x11_2 ++ t178) t160 t161 (wrap64 (x14_2 + 1))) else (none))) else (none)) = some r := by first | (rw [hy172]; with_reducible exact H) | (have H2_ := (Option.bind_some _ _).symm.trans H; rw [hy172]; with_reducible exact H2_) | (have H2_ := (Option.bind_some _ _).symm.trans H; with_reducible exact H2_) | with_reducible exact H | (rw [hy172]; exact H) | exact H
            have Ny172 := Aside0.mk hy172
            clear hy172
            by_cases c29 : y168.length + y172.length < 8796093022208
            ·rw [if_pos c29] at H
             have LMc29 := Aside0.mk c29
             clear c29
             obtain ⟨y175, hy175⟩ : ∃ y_ : List ByteArray, y_ = (y168 ++ y172) := ⟨_, rfl⟩
             replace H : ((spec_l11Files.f kj16 l0 ((rd_T75 t160 x14_2).f1) y175).bind fun t178 => (if x11_2.length + t178.length < 8796093022208 then (spec_l11Files.l0 kj16 l0 l2 t150 (x11_2 ++ t178) t160 t161 (wrap64 (x14_2 + 1))) else (none))) = some r := by first | (rw [hy175]; with_reducible exact H) | (have H2_ := (Option.bind_some _ _).symm.trans H; rw [hy175]; with_reducible exact H2_) | (have H2_ := (Option.bind_some _ _).symm.trans H; with_reducible exact H2_) | with_reducible exact H | (rw [hy175]; exact H) | exact H
             have Ny175 := Aside0.mk hy175
             clear hy175
             replace H := Option.bind_eq_some_iff.mp H
             obtain ⟨t178, A300, H⟩ := H
             replace H : (if x11_2.length + t178.length < 8796093022208 then (spec_l11Files.l0 kj16 l0 l2 t150 (x11_2 ++ t178) t160 t161 (wrap64 (x14_2 + 1))) else (none)) = some r := H
             have A30 := Aside0.mk A300
             clear A300
             by_cases c31 : x11_2.length + t178.length < 8796093022208
             ·rw [if_pos c31] at H
              have LMc31 := Aside0.mk c31
              clear c31
              obtain ⟨y181, hy181⟩ : ∃ y_ : List ByteArray, y_ = (x11_2 ++ t178) := ⟨_, rfl⟩
              replace H : (spec_l11Files.l0 kj16 l0 l2 t150 y181 t160 t161 (wrap64 (x14_2 + 1))) = some r := by first | (rw [hy181]; with_reducible exact H) | (have H2_ := (Option.bind_some _ _).symm.trans H; rw [hy181]; with_reducible exact H2_) | (have H2_ := (Option.bind_some _ _).symm.trans H; with_reducible exact H2_) | with_reducible exact H | (rw [hy181]; exact H) | exact H
              have Ny181 := Aside0.mk hy181
              clear hy181
              have H' := Aside0.mk H
              clear H
              obtain ⟨Ao32, co32, eo32⟩ := Kd.R_slice HO_11.out
              subst eo32
              try go_wp2
              have n0_ := Aside0.mk (Kd.R_drew HO_11.out)
              have n1_ := Aside0.mk (Kd.R_drew HO_12.out)
              have n2_ := Aside0.mk (below_drew1 HB.out)
              clear HO_11
              clear HO_12
              clear HB
              have HO_11 := n0_
              have HO_12 := n1_
              have HB := n2_
              clear n0_ n1_ n2_
              obtain ⟨Ao34, co34, eo34⟩ := Kd.R_slice HO_12.out
              (first | subst eo34 | (injection eo34 with f1_ f2_ f3_; have f4_ := f1_.symm; have f5_ := f3_.symm; clear f1_ f2_ f3_; subst f4_; subst f5_))
              have p164 : 0 ≤ (x14_2 : Int) := of_decide_eq_true ma_
              have q164 : x14_2 < (t160.length : Int) := of_decide_eq_true ma_
              obtain ⟨ad164, e164, hx164_0, hx164_1⟩ := at_T75 (Kd.R_reads' HO_12.out).2.2 x14_2 p164 q164
              cases e164
              replace p164 := eq_true p164
              replace q164 := eq_true q164
              have p171 : 0 ≤ (x14_2 : Int) := of_decide_eq_true ma_
              have q171 : x14_2 < (t160.length : Int) := of_decide_eq_true ma_
              obtain ⟨ad171, e171, hx171_0, hx171_1⟩ := at_T75 (Kd.R_reads' HO_12.out).2.2 x14_2 p171 q171
              obtain rfl : ad164 = ad171 := (by injection e171)
              replace p171 := eq_true p171
              replace q171 := eq_true q171
              refine start_ (n := 20) (S := fun w' => w'.cell? (ad164.add ((x14_2).toNat * 2)) = some (.string ((rd_T75 t160 x14_2).f0)) ∧ w'.cell? ⟨(ad164.add ((x14_2).toNat * 2)).block, (ad164.add ((x14_2).toNat * 2)).off + 1, none⟩ = some (.int .i64 ((rd_T75 t160 x14_2).f1)) ∧ w'.cell? (ad164.add ((x14_2).toNat * 2)) = some (.string ((rd_T75 t160 x14_2).f0)) ∧ w'.cell? ⟨(ad164.add ((x14_2).toNat * 2)).block, (ad164.add ((x14_2).toNat * 2)).off + 1, none⟩ = some (.int .i64 ((rd_T75 t160 x14_2).f1))) (ds := []) (tf_ 0 20) (by kernel_rfl) rfl rfl ⟨hx164_0, hx164_1, hx171_0, hx171_1⟩ (fun hHeld => ?_); refine with_tabW spec_l11Files.tab10 spec_l11Files.bits10 (fun HT_ HW_ => ?_)
              generalize wc.drew = w33 at HO_11 HO_12 HB hx164_0 hx164_1 hx171_0 hx171_1 hHeld ⊢
              refine pa_ (i := 0) (N := some 61) (tf_ 1 19) ?_
              refine pa_ (i := 1) (N := some 62) (tf_ 2 18) ?_
              refine pa_ (i := 2) (N := some 63) (tf_ 3 17) ?_
              refine pa_ (i := 3) (N := some 64) (tf_ 4 16) ?_
              refine pa_ (i := 4) (N := some 65) (tf_ 5 15) ?_
              refine pa_ (i := 5) (N := some 66) (tf_ 6 14) ?_
              refine pure_ (i := 8) (N := some 69) (v := ?_) (a' := ?_) #[true, true, true, true, true, true, false, false, true, false, false, false, false, false, false, false, false, false, false, false] rfl rfl (any_of HT_.out (by kernel_rfl)) (fun _ _ _ h => h) (Or.inl ⟨by rfl, ?_⟩) ?_ ?_; rotate_left; (intro w'; go_simp; with_reducible rfl); rotate_left; (simp only [Act.put, List.setIfInBounds_toArray, List.set_cons_zero, List.set_cons_succ, i64_w, i32_w]; rfl)
              refine pure_ (i := 10) (N := some 71) (v := ?_) (a' := ?_) #[true, true, true, true, true, true, false, false, true, false, true, false, false, false, false, false, false, false, false, false] rfl rfl (any_of HT_.out (by kernel_rfl)) (fun _ _ _ h => h) (Or.inl ⟨by rfl, ?_⟩) ?_ ?_; rotate_left; (intro w'; go_simp; with_reducible rfl); rotate_left; (simp only [Act.put, List.setIfInBounds_toArray, List.set_cons_zero, List.set_cons_succ, i64_w, i32_w]; rfl)
              refine pure_ (i := 11) (N := some 72) (v := ?_) (a' := ?_) #[true, true, true, true, true, true, false, false, true, false, true, true, false, false, false, false, false, false, false, false] rfl rfl (any_of HT_.out (by kernel_rfl)) (fun _ _ _ h => h) (Or.inl ⟨by rfl, ?_⟩) ?_ ?_; rotate_left; (intro w'; go_simp; with_reducible rfl); rotate_left; (simp only [Act.put, List.setIfInBounds_toArray, List.set_cons_zero, List.set_cons_succ, i64_w, i32_w]; rfl)
              refine pure_ (i := 12) (N := some 73) (v := ?_) (a' := ?_) #[true, true, true, true, true, true, false, false, true, false, true, true, true, false, false, false, false, false, false, false] rfl rfl (any_of HT_.out (by kernel_rfl)) (fun _ _ _ h => h) (Or.inl ⟨by rfl, ?_⟩) ?_ ?_; rotate_left; (intro w'; go_simp; with_reducible rfl); rotate_left; (simp only [Act.put, List.setIfInBounds_toArray, List.set_cons_zero, List.set_cons_succ, i64_w, i32_w]; rfl)
              refine pure_ (i := 13) (N := some 74) (v := ?_) (a' := ?_) #[true, true, true, true, true, true, false, false, true, false, true, true, true, true, false, false, false, false, false, false] rfl rfl (any_of HT_.out (by kernel_rfl)) (fun _ _ _ h => h) (Or.inl ⟨by rfl, ?_⟩) ?_ ?_; rotate_left; (intro w'; go_simp; with_reducible rfl); rotate_left; (simp only [Act.put, List.setIfInBounds_toArray, List.set_cons_zero, List.set_cons_succ, i64_w, i32_w]; rfl)
              refine take_ (i := 6) (N := some 67) (v := ?_) (a' := ?_) #[true, true, true, true, true, true, true, false, true, false, true, true, true, true, false, false, false, false, false, false] rfl rfl (take_ofW HT_.out HW_.out (by kernel_rfl)) (fun _ _ _ h => h) (Or.inl ⟨by rfl, ?_⟩) hHeld ?_ ?_
              rotate_left
              ·rintro w' ⟨s0, s1, s2, s3⟩
               go_simp
               with_reducible rfl
              rotate_left
              ·simp only [Act.put, List.setIfInBounds_toArray, List.set_cons_zero, List.set_cons_succ, i64_w, i32_w]
               rfl
              refine take_ (i := 14) (N := some 75) (v := ?_) (a' := ?_) #[true, true, true, true, true, true, true, false, true, false, true, true, true, true, true, false, false, false, false, false] rfl rfl (take_ofW HT_.out HW_.out (by kernel_rfl)) (fun _ _ _ h => h) (Or.inl ⟨by rfl, ?_⟩) hHeld ?_ ?_
              rotate_left
              ·rintro w' ⟨s0, s1, s2, s3⟩
               go_simp
               with_reducible rfl
              rotate_left
              ·simp only [Act.put, List.setIfInBounds_toArray, List.set_cons_zero, List.set_cons_succ, i64_w, i32_w]
               rfl
              refine join_ (σ := Value × Value × Value) 4 (tf_ 16 4) (fun s_ => [(68, s_.1), (70, s_.2.1), (76, s_.2.2)]) (fun s_ w' => (w'.cell? (ad164.add ((x14_2).toNat * 2)) = some (.string ((rd_T75 t160 x14_2).f0)) ∧ w'.cell? ⟨(ad164.add ((x14_2).toNat * 2)).block, (ad164.add ((x14_2).toNat * 2)).off + 1, none⟩ = some (.int .i64 ((rd_T75 t160 x14_2).f1)) ∧ w'.cell? (ad164.add ((x14_2).toNat * 2)) = some (.string ((rd_T75 t160 x14_2).f0)) ∧ w'.cell? ⟨(ad164.add ((x14_2).toNat * 2)).block, (ad164.add ((x14_2).toNat * 2)).off + 1, none⟩ = some (.int .i64 ((rd_T75 t160 x14_2).f1))) ∧ (Kd.R Kd.string 9 w' w.heap.size (fun k_ => some k_ ≠ (s_.2.2 : Value).ownBlock ∧ some k_ ≠ (.slice Ao32 x11_2.length co32 : Value).ownBlock) s_.2.1 y168) ∧ (Kd.R Kd.string 9 w' w.heap.size (fun k_ => some k_ ≠ (s_.2.1 : Value).ownBlock ∧ some k_ ≠ (.slice Ao32 x11_2.length co32 : Value).ownBlock) s_.2.2 y172) ∧ (Kd.R Kd.string 9 w' w.heap.size (fun k_ => some k_ ≠ (s_.2.1 : Value).ownBlock ∧ some k_ ≠ (s_.2.2 : Value).ownBlock) (.slice Ao32 x11_2.length co32) x11_2) ∧ (Kd.R k75 75 w' w.heap.size (fun _ => True) (.slice (some ad164) t160.length co34) t160) ∧ (Below w.heap.size w w')) ?_ ?_
              rotate_left
              ·intro hCont
               refine two_ (i := 7) (j := 15) (Ni := some 68) (Nj := some 76) #[true, true, true, true, true, true, true, true, true, false, true, true, true, true, true, false, false, false, false, false] #[true, true, true, true, true, true, true, false, true, false, true, true, true, true, true, true, false, false, false, false] rfl rfl rfl rfl (two_of HT_.out (by kernel_rfl)) (by decide) (by decide) (fun K hK => ?_) (fun K hK => ?_)
               ·skip
                refine Kd.R_lit_step Kd.string _ 9 ?hg (N := 68) ?hd (xs := ([] : List ByteArray)) (inner := []) (ok := fun _ => True) (okp := fun _ => True) ?hr ?hp (fun _ hk => hk) trivial (Below.refl _ _) (Nat.le_refl _) (by simp) ?_; (case hd => rfl); (case hg => rfl); (case hr => first | (go_simp; done) | (go_simp; rfl)); (case hp => exact (Reps.none _ _))
                intro v166 w35 ho36 hb hg_ hnew_
                have HS0_ := (hb.cell (World.block_lt_of_cell? _ _ (hHeld.1))).trans (hHeld.1)
                have HS1_ := (hb.cell (World.block_lt_of_cell? _ _ (hHeld.2.1))).trans (hHeld.2.1)
                have HS2_ := (hb.cell (World.block_lt_of_cell? _ _ (hHeld.2.2.1))).trans (hHeld.2.2.1)
                have HS3_ := (hb.cell (World.block_lt_of_cell? _ _ (hHeld.2.2.2))).trans (hHeld.2.2.2)
                clear hg_ hnew_
                (first | rw [← Ny165.out] at ho36 | (simp only [Int.reduceToNat] at ho36; rw [← Ny165.out] at ho36))
                have n0_ := Aside0.mk (Kd.R_elder' (kR_ HO_11.out) (Kd.R_base ho36) hb)
                have n1_ := Aside0.mk (Kd.R_below (kR_ HO_12.out) hb)
                have n2_ := Aside0.mk (Kd.R_lower (Kd.R_new' ho36 (Kd.R_lt (kR_ HO_11.out))) (below_size hb_))
                have n3_ := Aside0.mk (below_step hb_ hb)
                clear HO_11
                clear HO_12
                clear HB
                have HO_11 := n0_
                have HO_12 := n1_
                have HO167 := n2_
                have HB := n3_
                clear n0_ n1_ n2_ n3_
                clear hb ho36
                refine hK.out _ _ ⟨HS0_, HS1_, HS2_, HS3_⟩ (fun hHeld => ?_)
                clear hK K
                refine norm_ (a' := ?_) ?_ ?_
                rotate_left
                ·show Act.put _ (some 68) _ = _
                 simp only [Act.put, List.setIfInBounds_toArray, List.set_cons_zero, List.set_cons_succ, i64_w, i32_w]
                 rfl
                refine two_ (i := 9) (j := 15) (Ni := some 70) (Nj := some 76) (tf_ 15 5) #[true, true, true, true, true, true, true, true, true, false, true, true, true, true, true, true, false, false, false, false] rfl rfl rfl rfl (two_of HT_.out (by kernel_rfl)) (by decide) (by decide) (fun K hK => ?_) (fun K hK => ?_)
                ·skip
                 refine Kd.R_append_rows_step Kd.string (w0 := w) w.heap.size (by rfl) (.tmp 68) (.tmp 69) 24 9 (.string ⟨#[]⟩) 16 rfl Tryz.underlying24 info9 rfl (by decide) (by omega) v166 y165 l2 _ _ _ (fun k_ => some k_ ≠ (.slice Ao32 x11_2.length co32 : Value).ownBlock) (fun _ => False) rfl rfl ?aO ?aR (fun _ _ h => h) (fun _ h => h.elim) ?aF ?aB ?aS ?aL ?_
                 (case aR => repeat (first | exact (Kd.C_below HR2.out HB.out) | (with_reducible refine Kd.C_alloc ?_ _) | (with_reducible refine Kd.C_drewN ?_ _) | (with_reducible refine Kd.C_drew ?_)))
                 (case aB => exact hb_)
                 (case aF => exact (fun k_ hk => Kd.fresh' (Kd.R_lt (kR_ HO_11.out)) k_ hk))
                 (case aO => exact (by (with_reducible repeat (first | apply Kd.R_alloc | apply Kd.R_drewN | apply Kd.R_drew)); exact Kd.R_mono HO167.out (fun _ hk => hk.2)))
                 (case aS => exact (below_size hb_))
                 (case aL => have := LMc28.out; omega)
                 intro v169 w37 ho hb hg hat
                 rw [← Ny168.out] at ho
                 have n0_ := Aside0.mk (Kd.R_after (ok := (fun _ => True)) (kR_ HO_11.out) hg hat)
                 have n1_ := Aside0.mk (Kd.R_over' (kR_ HO_12.out) (Kd.R_typed (kR_ HO167.out)) (by decide) hg)
                 have n2_ := Aside0.mk (hb)
                 have n3_ := Aside0.mk (ho)
                 clear HO_11
                 clear HO_12
                 clear HB
                 clear HO167
                 have HO_11 := n0_
                 have HO_12 := n1_
                 have HB := n2_
                 have HO170 := n3_
                 clear n0_ n1_ n2_ n3_
                 clear ho hb hg hat
                 obtain ⟨adz0_, ez0_, HZ0_0_, HZ0_1_⟩ := at_T75 (Kd.R_reads' HO_12.out).2.2 x14_2 (by first | exact p164 | exact of_eq_true p164) (by first | exact q164 | exact of_eq_true q164)
                 cases ez0_
                 obtain ⟨adz1_, ez1_, HZ1_0_, HZ1_1_⟩ := at_T75 (Kd.R_reads' HO_12.out).2.2 x14_2 (by first | exact p171 | exact of_eq_true p171) (by first | exact q171 | exact of_eq_true q171)
                 cases ez1_
                 refine hK.out _ _ ⟨HZ0_0_, HZ0_1_, HZ1_0_, HZ1_1_⟩ (fun hHeld => ?_)
                 clear hK K
                 refine norm_ (a' := ?_) ?_ ?_
                 rotate_left
                 ·show Act.put _ (some 70) _ = _
                  simp only [Act.put, List.setIfInBounds_toArray, List.set_cons_zero, List.set_cons_succ, i64_w, i32_w]
                  rfl
                 refine one_ (i := 15) (N := some 76) (tf_ 16 4) rfl rfl (one_of HT_.out (by kernel_rfl)) (by decide) (fun K hK => ?_)
                 refine Kd.R_lit_step Kd.string _ 9 ?hg (N := 76) ?hd (xs := ([(rd_T75 t160 x14_2).f0] : List ByteArray)) (inner := [.string ((rd_T75 t160 x14_2).f0)]) (ok := fun _ => True) (okp := fun _ => True) ?hr ?hp (fun _ hk => hk) trivial (Below.refl _ _) (Nat.le_refl _) (by simp) ?_; (case hd => rfl); (case hg => rfl); (case hr => first | (go_simp; done) | (go_simp; rfl)); (case hp => exact (Reps.one (show Kd.M Kd.string _ _ _ ((rd_T75 t160 x14_2).f0) [.string ((rd_T75 t160 x14_2).f0)] from rfl) (Reps.none _ _)))
                 intro v173 w38 ho39 hb hg_ hnew_
                 have HS0_ := (hb.cell (World.block_lt_of_cell? _ _ (hHeld.1))).trans (hHeld.1)
                 have HS1_ := (hb.cell (World.block_lt_of_cell? _ _ (hHeld.2.1))).trans (hHeld.2.1)
                 have HS2_ := (hb.cell (World.block_lt_of_cell? _ _ (hHeld.2.2.1))).trans (hHeld.2.2.1)
                 have HS3_ := (hb.cell (World.block_lt_of_cell? _ _ (hHeld.2.2.2))).trans (hHeld.2.2.2)
                 clear hg_ hnew_
                 (first | rw [← Ny172.out] at ho39 | (simp only [Int.reduceToNat] at ho39; rw [← Ny172.out] at ho39))
                 have n0_ := Aside0.mk (Kd.R_elder' (kR_ HO_11.out) (Kd.R_base ho39) hb)
                 have n1_ := Aside0.mk (Kd.R_below (kR_ HO_12.out) hb)
                 have n2_ := Aside0.mk (Kd.R_elder' (kR_ HO170.out) (Kd.R_base ho39) hb)
                 have n3_ := Aside0.mk (Kd.R_lower (Kd.R_new' (Kd.R_new' ho39 (Kd.R_lt (kR_ HO_11.out))) (Kd.R_lt (kR_ HO170.out))) (below_size hb_))
                 have n4_ := Aside0.mk (below_step hb_ hb)
                 clear HO_11
                 clear HO_12
                 clear HO170
                 clear HB
                 have HO_11 := n0_
                 have HO_12 := n1_
                 have HO170 := n2_
                 have HO174 := n3_
                 have HB := n4_
                 clear n0_ n1_ n2_ n3_ n4_
                 clear hb ho39
                 refine hK.out _ _ ⟨HS0_, HS1_, HS2_, HS3_⟩ (fun hHeld => ?_)
                 clear hK K
                 refine norm_ (a' := ?_) ?_ ?_
                 rotate_left
                 ·show Act.put _ (some 76) _ = _
                  simp only [Act.put, List.setIfInBounds_toArray, List.set_cons_zero, List.set_cons_succ, i64_w, i32_w]
                  rfl
                 exact norm_ (by simp only [putAll, Act.put, List.setIfInBounds_toArray, List.set_cons_zero, List.set_cons_succ]) (hCont (v166, v169, v173) _ ⟨hHeld, (by (with_reducible repeat (first | apply Kd.R_alloc | apply Kd.R_drewN | apply Kd.R_drew)); exact Kd.R_mono HO170.out (fun _ hk => ⟨hk.2, hk.1⟩)), (by (with_reducible repeat (first | apply Kd.R_alloc | apply Kd.R_drewN | apply Kd.R_drew)); exact Kd.R_mono HO174.out (fun _ hk => ⟨hk.2, hk.1.2⟩)), (by (with_reducible repeat (first | apply Kd.R_alloc | apply Kd.R_drewN | apply Kd.R_drew)); exact Kd.R_mono HO_11.out (fun _ hk => ⟨hk.1.2, hk.2⟩)), (kR_ HO_12.out), hb_⟩)
                ·skip
                 refine Kd.R_lit_step Kd.string _ 9 ?hg (N := 76) ?hd (xs := ([(rd_T75 t160 x14_2).f0] : List ByteArray)) (inner := [.string ((rd_T75 t160 x14_2).f0)]) (ok := fun _ => True) (okp := fun _ => True) ?hr ?hp (fun _ hk => hk) trivial (Below.refl _ _) (Nat.le_refl _) (by simp) ?_; (case hd => rfl); (case hg => rfl); (case hr => first | (go_simp; done) | (go_simp; rfl)); (case hp => exact (Reps.one (show Kd.M Kd.string _ _ _ ((rd_T75 t160 x14_2).f0) [.string ((rd_T75 t160 x14_2).f0)] from rfl) (Reps.none _ _)))
                 intro v173 w37 ho38 hb hg_ hnew_
                 have HS0_ := (hb.cell (World.block_lt_of_cell? _ _ (hHeld.1))).trans (hHeld.1)
                 have HS1_ := (hb.cell (World.block_lt_of_cell? _ _ (hHeld.2.1))).trans (hHeld.2.1)
                 have HS2_ := (hb.cell (World.block_lt_of_cell? _ _ (hHeld.2.2.1))).trans (hHeld.2.2.1)
                 have HS3_ := (hb.cell (World.block_lt_of_cell? _ _ (hHeld.2.2.2))).trans (hHeld.2.2.2)
                 clear hg_ hnew_
                 (first | rw [← Ny172.out] at ho38 | (simp only [Int.reduceToNat] at ho38; rw [← Ny172.out] at ho38))
                 have n0_ := Aside0.mk (Kd.R_elder' (kR_ HO_11.out) (Kd.R_base ho38) hb)
                 have n1_ := Aside0.mk (Kd.R_below (kR_ HO_12.out) hb)
                 have n2_ := Aside0.mk (Kd.R_elder' (kR_ HO167.out) (Kd.R_base ho38) hb)
                 have n3_ := Aside0.mk (Kd.R_lower (Kd.R_new' (Kd.R_new' ho38 (Kd.R_lt (kR_ HO_11.out))) (Kd.R_lt (kR_ HO167.out))) (below_size hb_))
                 have n4_ := Aside0.mk (below_step hb_ hb)
                 clear HO_11
                 clear HO_12
                 clear HO167
                 clear HB
                 have HO_11 := n0_
                 have HO_12 := n1_
                 have HO167 := n2_
                 have HO174 := n3_
                 have HB := n4_
                 clear n0_ n1_ n2_ n3_ n4_
                 clear hb ho38
                 refine hK.out _ _ ⟨HS0_, HS1_, HS2_, HS3_⟩ (fun hHeld => ?_)
                 clear hK K
                 refine norm_ (a' := ?_) ?_ ?_
                 rotate_left
                 ·show Act.put _ (some 76) _ = _
                  simp only [Act.put, List.setIfInBounds_toArray, List.set_cons_zero, List.set_cons_succ, i64_w, i32_w]
                  rfl
                 refine one_ (i := 9) (N := some 70) (tf_ 16 4) rfl rfl (one_of HT_.out (by kernel_rfl)) (by decide) (fun K hK => ?_)
                 refine Kd.R_append_rows_step Kd.string (w0 := w) w.heap.size (by rfl) (.tmp 68) (.tmp 69) 24 9 (.string ⟨#[]⟩) 16 rfl Tryz.underlying24 info9 rfl (by decide) (by omega) v166 y165 l2 _ _ _ (fun k_ => some k_ ≠ (.slice Ao32 x11_2.length co32 : Value).ownBlock ∧ some k_ ≠ (v173 : Value).ownBlock) (fun _ => False) rfl rfl ?aO ?aR (fun _ _ h => h) (fun _ h => h.elim) ?aF ?aB ?aS ?aL ?_
                 (case aR => repeat (first | exact (Kd.C_below HR2.out HB.out) | (with_reducible refine Kd.C_alloc ?_ _) | (with_reducible refine Kd.C_drewN ?_ _) | (with_reducible refine Kd.C_drew ?_)))
                 (case aB => exact hb_)
                 (case aF => exact (fun k_ hk => ⟨Kd.fresh' (Kd.R_lt (kR_ HO_11.out)) k_ hk, Kd.fresh' (Kd.R_lt (kR_ HO174.out)) k_ hk⟩))
                 (case aO => exact (by (with_reducible repeat (first | apply Kd.R_alloc | apply Kd.R_drewN | apply Kd.R_drew)); exact Kd.R_mono HO167.out (fun _ hk => ⟨hk.1.2, hk.2⟩)))
                 (case aS => exact (below_size hb_))
                 (case aL => have := LMc28.out; omega)
                 intro v169 w39 ho hb hg hat
                 rw [← Ny168.out] at ho
                 have n0_ := Aside0.mk (Kd.R_after (ok := (fun k_ => some k_ ≠ (v173 : Value).ownBlock)) (by (with_reducible repeat (first | apply Kd.R_alloc | apply Kd.R_drewN | apply Kd.R_drew)); exact Kd.R_mono HO_11.out (fun _ hk => ⟨hk.2, hk.1.2⟩)) hg hat)
                 have n1_ := Aside0.mk (Kd.R_over' (kR_ HO_12.out) (Kd.R_typed (kR_ HO167.out)) (by decide) hg)
                 have n2_ := Aside0.mk (Kd.R_after (ok := (fun k_ => some k_ ≠ (.slice Ao32 x11_2.length co32 : Value).ownBlock)) (by (with_reducible repeat (first | apply Kd.R_alloc | apply Kd.R_drewN | apply Kd.R_drew)); exact Kd.R_mono HO174.out (fun _ hk => ⟨hk.1.2, hk.2⟩)) hg hat)
                 have n3_ := Aside0.mk (hb)
                 have n4_ := Aside0.mk (ho)
                 clear HO_11
                 clear HO_12
                 clear HO174
                 clear HB
                 clear HO167
                 have HO_11 := n0_
                 have HO_12 := n1_
                 have HO174 := n2_
                 have HB := n3_
                 have HO170 := n4_
                 clear n0_ n1_ n2_ n3_ n4_
                 clear ho hb hg hat
                 obtain ⟨adz0_, ez0_, HZ0_0_, HZ0_1_⟩ := at_T75 (Kd.R_reads' HO_12.out).2.2 x14_2 (by first | exact p164 | exact of_eq_true p164) (by first | exact q164 | exact of_eq_true q164)
                 cases ez0_
                 obtain ⟨adz1_, ez1_, HZ1_0_, HZ1_1_⟩ := at_T75 (Kd.R_reads' HO_12.out).2.2 x14_2 (by first | exact p171 | exact of_eq_true p171) (by first | exact q171 | exact of_eq_true q171)
                 cases ez1_
                 refine hK.out _ _ ⟨HZ0_0_, HZ0_1_, HZ1_0_, HZ1_1_⟩ (fun hHeld => ?_)
                 clear hK K
                 refine norm_ (a' := ?_) ?_ ?_
                 rotate_left
                 ·show Act.put _ (some 70) _ = _
                  simp only [Act.put, List.setIfInBounds_toArray, List.set_cons_zero, List.set_cons_succ, i64_w, i32_w]
                  rfl
                 exact norm_ (by simp only [putAll, Act.put, List.setIfInBounds_toArray, List.set_cons_zero, List.set_cons_succ]) (hCont (v166, v169, v173) _ ⟨hHeld, (by (with_reducible repeat (first | apply Kd.R_alloc | apply Kd.R_drewN | apply Kd.R_drew)); exact Kd.R_mono HO170.out (fun _ hk => ⟨hk.2, hk.1⟩)), (by (with_reducible repeat (first | apply Kd.R_alloc | apply Kd.R_drewN | apply Kd.R_drew)); exact Kd.R_mono HO174.out (fun _ hk => ⟨hk.2, hk.1⟩)), (by (with_reducible repeat (first | apply Kd.R_alloc | apply Kd.R_drewN | apply Kd.R_drew)); exact Kd.R_mono HO_11.out (fun _ hk => ⟨hk.2, hk.1⟩)), (kR_ HO_12.out), hb_⟩)
               ·skip
                refine Kd.R_lit_step Kd.string _ 9 ?hg (N := 76) ?hd (xs := ([(rd_T75 t160 x14_2).f0] : List ByteArray)) (inner := [.string ((rd_T75 t160 x14_2).f0)]) (ok := fun _ => True) (okp := fun _ => True) ?hr ?hp (fun _ hk => hk) trivial (Below.refl _ _) (Nat.le_refl _) (by simp) ?_; (case hd => rfl); (case hg => rfl); (case hr => first | (go_simp; done) | (go_simp; rfl)); (case hp => exact (Reps.one (show Kd.M Kd.string _ _ _ ((rd_T75 t160 x14_2).f0) [.string ((rd_T75 t160 x14_2).f0)] from rfl) (Reps.none _ _)))
                intro v173 w35 ho36 hb hg_ hnew_
                have HS0_ := (hb.cell (World.block_lt_of_cell? _ _ (hHeld.1))).trans (hHeld.1)
                have HS1_ := (hb.cell (World.block_lt_of_cell? _ _ (hHeld.2.1))).trans (hHeld.2.1)
                have HS2_ := (hb.cell (World.block_lt_of_cell? _ _ (hHeld.2.2.1))).trans (hHeld.2.2.1)
                have HS3_ := (hb.cell (World.block_lt_of_cell? _ _ (hHeld.2.2.2))).trans (hHeld.2.2.2)
                clear hg_ hnew_
                (first | rw [← Ny172.out] at ho36 | (simp only [Int.reduceToNat] at ho36; rw [← Ny172.out] at ho36))
                have n0_ := Aside0.mk (Kd.R_elder' (kR_ HO_11.out) (Kd.R_base ho36) hb)
                have n1_ := Aside0.mk (Kd.R_below (kR_ HO_12.out) hb)
                have n2_ := Aside0.mk (Kd.R_lower (Kd.R_new' ho36 (Kd.R_lt (kR_ HO_11.out))) (below_size hb_))
                have n3_ := Aside0.mk (below_step hb_ hb)
                clear HO_11
                clear HO_12
                clear HB
                have HO_11 := n0_
                have HO_12 := n1_
                have HO174 := n2_
                have HB := n3_
                clear n0_ n1_ n2_ n3_
                clear hb ho36
                refine hK.out _ _ ⟨HS0_, HS1_, HS2_, HS3_⟩ (fun hHeld => ?_)
                clear hK K
                refine norm_ (a' := ?_) ?_ ?_
                rotate_left
                ·show Act.put _ (some 76) _ = _
                 simp only [Act.put, List.setIfInBounds_toArray, List.set_cons_zero, List.set_cons_succ, i64_w, i32_w]
                 rfl
                refine one_ (i := 7) (N := some 68) #[true, true, true, true, true, true, true, true, true, false, true, true, true, true, true, true, false, false, false, false] rfl rfl (one_of HT_.out (by kernel_rfl)) (by decide) (fun K hK => ?_)
                refine Kd.R_lit_step Kd.string _ 9 ?hg (N := 68) ?hd (xs := ([] : List ByteArray)) (inner := []) (ok := fun _ => True) (okp := fun _ => True) ?hr ?hp (fun _ hk => hk) trivial (Below.refl _ _) (Nat.le_refl _) (by simp) ?_; (case hd => rfl); (case hg => rfl); (case hr => first | (go_simp; done) | (go_simp; rfl)); (case hp => exact (Reps.none _ _))
                intro v166 w37 ho38 hb hg_ hnew_
                have HS0_ := (hb.cell (World.block_lt_of_cell? _ _ (hHeld.1))).trans (hHeld.1)
                have HS1_ := (hb.cell (World.block_lt_of_cell? _ _ (hHeld.2.1))).trans (hHeld.2.1)
                have HS2_ := (hb.cell (World.block_lt_of_cell? _ _ (hHeld.2.2.1))).trans (hHeld.2.2.1)
                have HS3_ := (hb.cell (World.block_lt_of_cell? _ _ (hHeld.2.2.2))).trans (hHeld.2.2.2)
                clear hg_ hnew_
                (first | rw [← Ny165.out] at ho38 | (simp only [Int.reduceToNat] at ho38; rw [← Ny165.out] at ho38))
                have n0_ := Aside0.mk (Kd.R_elder' (kR_ HO_11.out) (Kd.R_base ho38) hb)
                have n1_ := Aside0.mk (Kd.R_below (kR_ HO_12.out) hb)
                have n2_ := Aside0.mk (Kd.R_elder' (kR_ HO174.out) (Kd.R_base ho38) hb)
                have n3_ := Aside0.mk (Kd.R_lower (Kd.R_new' (Kd.R_new' ho38 (Kd.R_lt (kR_ HO_11.out))) (Kd.R_lt (kR_ HO174.out))) (below_size hb_))
                have n4_ := Aside0.mk (below_step hb_ hb)
                clear HO_11
                clear HO_12
                clear HO174
                clear HB
                have HO_11 := n0_
                have HO_12 := n1_
                have HO174 := n2_
                have HO167 := n3_
                have HB := n4_
                clear n0_ n1_ n2_ n3_ n4_
                clear hb ho38
                refine hK.out _ _ ⟨HS0_, HS1_, HS2_, HS3_⟩ (fun hHeld => ?_)
                clear hK K
                refine norm_ (a' := ?_) ?_ ?_
                rotate_left
                ·show Act.put _ (some 68) _ = _
                 simp only [Act.put, List.setIfInBounds_toArray, List.set_cons_zero, List.set_cons_succ, i64_w, i32_w]
                 rfl
                refine one_ (i := 9) (N := some 70) (tf_ 16 4) rfl rfl (one_of HT_.out (by kernel_rfl)) (by decide) (fun K hK => ?_)
                refine Kd.R_append_rows_step Kd.string (w0 := w) w.heap.size (by rfl) (.tmp 68) (.tmp 69) 24 9 (.string ⟨#[]⟩) 16 rfl Tryz.underlying24 info9 rfl (by decide) (by omega) v166 y165 l2 _ _ _ (fun k_ => some k_ ≠ (.slice Ao32 x11_2.length co32 : Value).ownBlock ∧ some k_ ≠ (v173 : Value).ownBlock) (fun _ => False) rfl rfl ?aO ?aR (fun _ _ h => h) (fun _ h => h.elim) ?aF ?aB ?aS ?aL ?_
                (case aR => repeat (first | exact (Kd.C_below HR2.out HB.out) | (with_reducible refine Kd.C_alloc ?_ _) | (with_reducible refine Kd.C_drewN ?_ _) | (with_reducible refine Kd.C_drew ?_)))
                (case aB => exact hb_)
                (case aF => exact (fun k_ hk => ⟨Kd.fresh' (Kd.R_lt (kR_ HO_11.out)) k_ hk, Kd.fresh' (Kd.R_lt (kR_ HO174.out)) k_ hk⟩))
                (case aO => exact (by (with_reducible repeat (first | apply Kd.R_alloc | apply Kd.R_drewN | apply Kd.R_drew)); exact Kd.R_mono HO167.out (fun _ hk => ⟨hk.1.2, hk.2⟩)))
                (case aS => exact (below_size hb_))
                (case aL => have := LMc28.out; omega)
                intro v169 w39 ho hb hg hat
                rw [← Ny168.out] at ho
                have n0_ := Aside0.mk (Kd.R_after (ok := (fun k_ => some k_ ≠ (v173 : Value).ownBlock)) (by (with_reducible repeat (first | apply Kd.R_alloc | apply Kd.R_drewN | apply Kd.R_drew)); exact Kd.R_mono HO_11.out (fun _ hk => ⟨hk.1.2, hk.2⟩)) hg hat)
                have n1_ := Aside0.mk (Kd.R_over' (kR_ HO_12.out) (Kd.R_typed (kR_ HO167.out)) (by decide) hg)
                have n2_ := Aside0.mk (Kd.R_after (ok := (fun k_ => some k_ ≠ (.slice Ao32 x11_2.length co32 : Value).ownBlock)) (by (with_reducible repeat (first | apply Kd.R_alloc | apply Kd.R_drewN | apply Kd.R_drew)); exact Kd.R_mono HO174.out (fun _ hk => ⟨hk.1.2, hk.2⟩)) hg hat)
                have n3_ := Aside0.mk (hb)
                have n4_ := Aside0.mk (ho)
                clear HO_11
                clear HO_12
                clear HO174
                clear HB
                clear HO167
                have HO_11 := n0_
                have HO_12 := n1_
                have HO174 := n2_
                have HB := n3_
                have HO170 := n4_
                clear n0_ n1_ n2_ n3_ n4_
                clear ho hb hg hat
                obtain ⟨adz0_, ez0_, HZ0_0_, HZ0_1_⟩ := at_T75 (Kd.R_reads' HO_12.out).2.2 x14_2 (by first | exact p164 | exact of_eq_true p164) (by first | exact q164 | exact of_eq_true q164)
                cases ez0_
                obtain ⟨adz1_, ez1_, HZ1_0_, HZ1_1_⟩ := at_T75 (Kd.R_reads' HO_12.out).2.2 x14_2 (by first | exact p171 | exact of_eq_true p171) (by first | exact q171 | exact of_eq_true q171)
                cases ez1_
                refine hK.out _ _ ⟨HZ0_0_, HZ0_1_, HZ1_0_, HZ1_1_⟩ (fun hHeld => ?_)
                clear hK K
                refine norm_ (a' := ?_) ?_ ?_
                rotate_left
                ·show Act.put _ (some 70) _ = _
                 simp only [Act.put, List.setIfInBounds_toArray, List.set_cons_zero, List.set_cons_succ, i64_w, i32_w]
                 rfl
                exact norm_ (by simp only [putAll, Act.put, List.setIfInBounds_toArray, List.set_cons_zero, List.set_cons_succ]) (hCont (v166, v169, v173) _ ⟨hHeld, (by (with_reducible repeat (first | apply Kd.R_alloc | apply Kd.R_drewN | apply Kd.R_drew)); exact Kd.R_mono HO170.out (fun _ hk => ⟨hk.2, hk.1⟩)), (by (with_reducible repeat (first | apply Kd.R_alloc | apply Kd.R_drewN | apply Kd.R_drew)); exact Kd.R_mono HO174.out (fun _ hk => ⟨hk.2, hk.1⟩)), (by (with_reducible repeat (first | apply Kd.R_alloc | apply Kd.R_drewN | apply Kd.R_drew)); exact Kd.R_mono HO_11.out (fun _ hk => ⟨hk.2, hk.1⟩)), (kR_ HO_12.out), hb_⟩)
              rintro ⟨v166, v169, v173⟩ w40 ⟨hS_, h0_, h1_, h2_, h3_, h4_⟩
              have n0_ : Aside0 (Kd.R Kd.string 9 w40 w.heap.size (fun k_ => some k_ ≠ (v173 : Value).ownBlock ∧ some k_ ≠ (.slice Ao32 x11_2.length co32 : Value).ownBlock) v169 y168) := ⟨h0_⟩
              have n1_ : Aside0 (Kd.R Kd.string 9 w40 w.heap.size (fun k_ => some k_ ≠ (v169 : Value).ownBlock ∧ some k_ ≠ (.slice Ao32 x11_2.length co32 : Value).ownBlock) v173 y172) := ⟨h1_⟩
              have n2_ : Aside0 (Kd.R Kd.string 9 w40 w.heap.size (fun k_ => some k_ ≠ (v169 : Value).ownBlock ∧ some k_ ≠ (v173 : Value).ownBlock) (.slice Ao32 x11_2.length co32) x11_2) := ⟨h2_⟩
              have n3_ : Aside0 (Kd.R k75 75 w40 w.heap.size (fun _ => True) (.slice (some ad164) t160.length co34) t160) := ⟨h3_⟩
              have n4_ : Aside0 (Below w.heap.size w w40) := ⟨h4_⟩
              clear HO_11
              clear HO_12
              clear HB
              clear h0_ h1_ h2_ h3_ h4_
              have HO170 := n0_
              have HO174 := n1_
              have HO_11 := n2_
              have HO_12 := n3_
              have HB := n4_
              clear n0_ n1_ n2_ n3_ n4_
              have hHeld : w40.cell? (ad164.add ((x14_2).toNat * 2)) = some (.string ((rd_T75 t160 x14_2).f0)) ∧ w40.cell? ⟨(ad164.add ((x14_2).toNat * 2)).block, (ad164.add ((x14_2).toNat * 2)).off + 1, none⟩ = some (.int .i64 ((rd_T75 t160 x14_2).f1)) ∧ w40.cell? (ad164.add ((x14_2).toNat * 2)) = some (.string ((rd_T75 t160 x14_2).f0)) ∧ w40.cell? ⟨(ad164.add ((x14_2).toNat * 2)).block, (ad164.add ((x14_2).toNat * 2)).off + 1, none⟩ = some (.int .i64 ((rd_T75 t160 x14_2).f1)) := hS_
              obtain ⟨Ao42, co42, eo42⟩ := Kd.R_slice HO174.out
              (first | subst eo42 | (injection eo42 with f1_ f2_ f3_; have f4_ := f1_.symm; have f5_ := f3_.symm; clear f1_ f2_ f3_; subst f4_; subst f5_))
              refine norm_ (a' := ?_) ?_ ?_
              rotate_left
              ·simp only [putAll, Act.put, List.setIfInBounds_toArray, List.set_cons_zero, List.set_cons_succ]
               rfl
              refine one_ (i := 16) (N := some 77) (tf_ 17 3) rfl rfl (one_of HT_.out (by kernel_rfl)) (by decide) (fun K hK => ?_)
              refine Kd.R_append_rows_step Kd.string (w0 := w) w.heap.size (by rfl) (.tmp 70) (.tmp 76) 24 9 (.string ⟨#[]⟩) 16 rfl Tryz.underlying24 info9 rfl (by decide) (by omega) v169 y168 y172 _ _ _ (fun k_ => some k_ ≠ (.slice Ao32 x11_2.length co32 : Value).ownBlock ∧ some k_ ≠ (.slice Ao42 y172.length co42 : Value).ownBlock) (fun _ => False) rfl rfl ?aO ?aR (fun _ _ h => h) (fun _ h => h.elim) ?aF ?aB ?aS ?aL ?_
              (case aR => repeat (first | exact (Kd.R_reads' HO174.out).2.2 | (with_reducible refine Kd.C_alloc ?_ _) | (with_reducible refine Kd.C_drewN ?_ _) | (with_reducible refine Kd.C_drew ?_)))
              (case aB => exact hb_)
              (case aF => exact (fun k_ hk => ⟨Kd.fresh' (Kd.R_lt (kR_ HO_11.out)) k_ hk, Kd.fresh' (Kd.R_lt (kR_ HO174.out)) k_ hk⟩))
              (case aO => exact (by (with_reducible repeat (first | apply Kd.R_alloc | apply Kd.R_drewN | apply Kd.R_drew)); exact Kd.R_mono HO170.out (fun _ hk => ⟨hk.2, hk.1⟩)))
              (case aS => exact (below_size hb_))
              (case aL => have := LMc29.out; omega)
              intro v176 w41 ho hb hg hat
              rw [← Ny175.out] at ho
              have n0_ := Aside0.mk (Kd.R_after (ok := (fun k_ => some k_ ≠ (.slice Ao42 y172.length co42 : Value).ownBlock)) (by (with_reducible repeat (first | apply Kd.R_alloc | apply Kd.R_drewN | apply Kd.R_drew)); exact Kd.R_mono HO_11.out (fun _ hk => ⟨hk.2, hk.1⟩)) hg hat)
              have n1_ := Aside0.mk (Kd.R_over' (kR_ HO_12.out) (Kd.R_typed (kR_ HO170.out)) (by decide) hg)
              have n2_ := Aside0.mk (Kd.R_after (ok := (fun k_ => some k_ ≠ (.slice Ao32 x11_2.length co32 : Value).ownBlock)) (by (with_reducible repeat (first | apply Kd.R_alloc | apply Kd.R_drewN | apply Kd.R_drew)); exact Kd.R_mono HO174.out (fun _ hk => ⟨hk.2, hk.1⟩)) hg hat)
              have n3_ := Aside0.mk (hb)
              have n4_ := Aside0.mk (ho)
              clear HO_11
              clear HO_12
              clear HO174
              clear HB
              clear HO170
              have HO_11 := n0_
              have HO_12 := n1_
              have HO174 := n2_
              have HB := n3_
              have HO177 := n4_
              clear n0_ n1_ n2_ n3_ n4_
              clear ho hb hg hat
              obtain ⟨Ao43, co43, eo43⟩ := Kd.R_slice HO177.out
              (first | subst eo43 | (injection eo43 with f1_ f2_ f3_; have f4_ := f1_.symm; have f5_ := f3_.symm; clear f1_ f2_ f3_; subst f4_; subst f5_))
              obtain ⟨adz0_, ez0_, HZ0_0_, HZ0_1_⟩ := at_T75 (Kd.R_reads' HO_12.out).2.2 x14_2 (by first | exact p164 | exact of_eq_true p164) (by first | exact q164 | exact of_eq_true q164)
              cases ez0_
              obtain ⟨adz1_, ez1_, HZ1_0_, HZ1_1_⟩ := at_T75 (Kd.R_reads' HO_12.out).2.2 x14_2 (by first | exact p171 | exact of_eq_true p171) (by first | exact q171 | exact of_eq_true q171)
              cases ez1_
              refine hK.out _ _ ⟨HZ0_0_, HZ0_1_, HZ1_0_, HZ1_1_⟩ (fun hHeld => ?_)
              clear hK K
              refine norm_ (a' := ?_) ?_ ?_
              rotate_left
              ·show Act.put _ (some 77) _ = _
               simp only [Act.put, List.setIfInBounds_toArray, List.set_cons_zero, List.set_cons_succ, i64_w, i32_w]
               rfl
              refine one_ (i := 17) (N := some 78) (tf_ 18 2) rfl rfl (one_of HT_.out (by kernel_rfl)) (by decide) (fun K hK => ?_)
              refine goes_ Tryz.func48 (by kernel_rfl) rfl #[.slice A0 l0.length c0, .int .i64 ((rd_T75 t160 x14_2).f1), .slice Ao43 y175.length co43] (by rfl) rfl rfl sl_ ?_
              with_reducible refine (ih kj16 (by have := HJ5.out; have := HK2.out; have := HJ16.out; omega) _ _ l0 ((rd_T75 t160 x14_2).f1) _ _ y175 t178 _ ?side1 ?side2 ?side3 ?side4 A30.out).mono ?_
              (case side1 => exact kC_ (Kd.C_below HR0.out HB.out))
              (case side2 => exact HC0.out)
              (case side3 => exact kC_ ((Kd.R_reads' HO177.out).2.2))
              (case side4 => exact (Kd.R_reads' HO177.out).2.1)
              rintro e w44 ⟨v179, rfl, ho0, hb⟩
              have HS0_ := (hb.cell (World.block_lt_of_cell? _ _ (hHeld.1))).trans (hHeld.1)
              have HS1_ := (hb.cell (World.block_lt_of_cell? _ _ (hHeld.2.1))).trans (hHeld.2.1)
              have HS2_ := (hb.cell (World.block_lt_of_cell? _ _ (hHeld.2.2.1))).trans (hHeld.2.2.1)
              have HS3_ := (hb.cell (World.block_lt_of_cell? _ _ (hHeld.2.2.2))).trans (hHeld.2.2.2)
              refine ⟨_, rfl, ?_⟩
              have n0_ := Aside0.mk (Kd.R_elder' (kR_ HO_11.out) (Kd.R_base ho0) hb)
              have n1_ := Aside0.mk (Kd.R_below (kR_ HO_12.out) hb)
              have n2_ := Aside0.mk (Kd.R_elder' (kR_ HO174.out) (Kd.R_base ho0) hb)
              have n3_ := Aside0.mk (Kd.R_elder' (kR_ HO177.out) (Kd.R_base ho0) hb)
              have n4_ := Aside0.mk (Kd.R_lower (Kd.R_new' (Kd.R_new' (Kd.R_new' ho0 (Kd.R_lt (kR_ HO_11.out))) (Kd.R_lt (kR_ HO174.out))) (Kd.R_lt (kR_ HO177.out))) (below_size hb_))
              have n5_ := Aside0.mk (below_step hb_ hb)
              clear HO_11
              clear HO_12
              clear HO174
              clear HO177
              clear HB
              have HO_11 := n0_
              have HO_12 := n1_
              have HO174 := n2_
              have HO177 := n3_
              have HO180 := n4_
              have HB := n5_
              clear n0_ n1_ n2_ n3_ n4_ n5_
              (try clear hb)
              (try clear hb2)
              (try clear hk)
              (try clear hi)
              (try clear ho0)
              obtain ⟨Ao46, co46, eo46⟩ := Kd.R_slice HO180.out
              (first | subst eo46 | (injection eo46 with f1_ f2_ f3_; have f4_ := f1_.symm; have f5_ := f3_.symm; clear f1_ f2_ f3_; subst f4_; subst f5_))
              refine hK.out _ _ ⟨HS0_, HS1_, HS2_, HS3_⟩ (fun hHeld => ?_)
              clear hK K
              refine norm_ (a' := ?_) ?_ ?_
              rotate_left
              ·show Act.put _ (some 78) _ = _
               simp only [Act.put, List.setIfInBounds_toArray, List.set_cons_zero, List.set_cons_succ, i64_w, i32_w]
               rfl
              refine one_ (i := 18) (N := some 79) (tf_ 19 1) rfl rfl (one_of HT_.out (by kernel_rfl)) (by decide) (fun K hK => ?_)
              refine Kd.R_append_rows_step Kd.string (w0 := w) w.heap.size (by rfl) (.tmp 61) (.tmp 78) 24 9 (.string ⟨#[]⟩) 16 rfl Tryz.underlying24 info9 rfl (by decide) (by omega) (.slice Ao32 x11_2.length co32) x11_2 t178 _ _ _ (fun k_ => some k_ ≠ (.slice Ao42 y172.length co42 : Value).ownBlock ∧ some k_ ≠ (.slice Ao43 y175.length co43 : Value).ownBlock ∧ some k_ ≠ (.slice Ao46 t178.length co46 : Value).ownBlock) (fun _ => False) rfl rfl ?aO ?aR (fun _ _ h => h) (fun _ h => h.elim) ?aF ?aB ?aS ?aL ?_
              (case aR => repeat (first | exact (Kd.R_reads' HO180.out).2.2 | (with_reducible refine Kd.C_alloc ?_ _) | (with_reducible refine Kd.C_drewN ?_ _) | (with_reducible refine Kd.C_drew ?_)))
              (case aB => exact hb_)
              (case aF => exact (fun k_ hk => ⟨Kd.fresh' (Kd.R_lt (kR_ HO174.out)) k_ hk, Kd.fresh' (Kd.R_lt (kR_ HO177.out)) k_ hk, Kd.fresh' (Kd.R_lt (kR_ HO180.out)) k_ hk⟩))
              (case aO => exact (by (with_reducible repeat (first | apply Kd.R_alloc | apply Kd.R_drewN | apply Kd.R_drew)); exact Kd.R_mono HO_11.out (fun _ hk => ⟨hk.1.1, ⟨hk.1.2, hk.2⟩⟩)))
              (case aS => exact (below_size hb_))
              (case aL => have := LMc31.out; omega)
              intro v182 w45 ho hb hg hat
              rw [← Ny181.out] at ho
              have n0_ := Aside0.mk (Kd.R_over' (kR_ HO_12.out) (Kd.R_typed (kR_ HO_11.out)) (by decide) hg)
              have n1_ := Aside0.mk (Kd.R_after (ok := (fun k_ => some k_ ≠ (.slice Ao43 y175.length co43 : Value).ownBlock ∧ some k_ ≠ (.slice Ao46 t178.length co46 : Value).ownBlock)) (by (with_reducible repeat (first | apply Kd.R_alloc | apply Kd.R_drewN | apply Kd.R_drew)); exact Kd.R_mono HO174.out (fun _ hk => ⟨⟨hk.1.2, hk.2⟩, hk.1.1⟩)) hg hat)
              have n2_ := Aside0.mk (Kd.R_after (ok := (fun k_ => some k_ ≠ (.slice Ao42 y172.length co42 : Value).ownBlock ∧ some k_ ≠ (.slice Ao46 t178.length co46 : Value).ownBlock)) (by (with_reducible repeat (first | apply Kd.R_alloc | apply Kd.R_drewN | apply Kd.R_drew)); exact Kd.R_mono HO177.out (fun _ hk => ⟨⟨hk.1.2, hk.2⟩, hk.1.1⟩)) hg hat)
              have n3_ := Aside0.mk (Kd.R_after (ok := (fun k_ => some k_ ≠ (.slice Ao42 y172.length co42 : Value).ownBlock ∧ some k_ ≠ (.slice Ao43 y175.length co43 : Value).ownBlock)) (by (with_reducible repeat (first | apply Kd.R_alloc | apply Kd.R_drewN | apply Kd.R_drew)); exact Kd.R_mono HO180.out (fun _ hk => ⟨⟨hk.1.2, hk.2⟩, hk.1.1.2⟩)) hg hat)
              have n4_ := Aside0.mk (hb)
              have n5_ := Aside0.mk (ho)
              clear HO_12
              clear HO174
              clear HO177
              clear HO180
              clear HB
              clear HO_11
              have HO_12 := n0_
              have HO174 := n1_
              have HO177 := n2_
              have HO180 := n3_
              have HB := n4_
              have HO183 := n5_
              clear n0_ n1_ n2_ n3_ n4_ n5_
              clear ho hb hg hat
              obtain ⟨adz0_, ez0_, HZ0_0_, HZ0_1_⟩ := at_T75 (Kd.R_reads' HO_12.out).2.2 x14_2 (by first | exact p164 | exact of_eq_true p164) (by first | exact q164 | exact of_eq_true q164)
              cases ez0_
              obtain ⟨adz1_, ez1_, HZ1_0_, HZ1_1_⟩ := at_T75 (Kd.R_reads' HO_12.out).2.2 x14_2 (by first | exact p171 | exact of_eq_true p171) (by first | exact q171 | exact of_eq_true q171)
              cases ez1_
              refine hK.out _ _ ⟨HZ0_0_, HZ0_1_, HZ1_0_, HZ1_1_⟩ (fun hHeld => ?_)
              clear hK K
              refine norm_ (a' := ?_) ?_ ?_
              rotate_left
              ·show Act.put _ (some 79) _ = _
               simp only [Act.put, List.setIfInBounds_toArray, List.set_cons_zero, List.set_cons_succ, i64_w, i32_w]
               rfl
              refine pa_ (i := 19) (N := some 11) (tf_ 20 0) ?_
              refine done_ (done_of HT_.out (by kernel_rfl)) ?_
              try go_wp2
              go_roundg kj16
              case measure => have := HJ5.out; have := HK2.out; have := HJ16.out; omega
              case rel => exact ⟨(y181), (wrap64 (x14_2 + 1)), (by first | rfl | (simp; done) | (simp [*]; done)), H', ⟨by have := HJ5.out; have := HK2.out; have := HJ16.out; omega⟩, ⟨by (with_reducible repeat (first | apply Kd.R_alloc | apply Kd.R_drewN | apply Kd.R_drew)); exact Kd.R_mono HO183.out (fun _ hk => trivial)⟩, ⟨by (with_reducible repeat (first | apply Kd.R_alloc | apply Kd.R_drewN | apply Kd.R_drew)); exact HO_12.out⟩, ⟨hb_⟩⟩
             ·rw [if_neg c31] at H
              exact absurd H (by simp)
            ·rw [if_neg c29] at H
             exact absurd H (by simp)
           ·rw [if_neg c28] at H
            exact absurd H (by simp)
          ·rw [if_neg c27] at H
           exact absurd H (by simp)
         ·rw [if_neg c26] at H
          exact absurd H (by simp)
        ·replace c25 := Bool.eq_false_iff.mpr c25
         subst c25
         have H1 : (some x11_2) = some r := by rw [if_neg (show ¬ (false = true) by decide)] at H; exact H
         clear H
         have H := H1
         clear H1
         obtain rfl := Option.some.inj H
         go_wp2
         go_ret
         exact ⟨_, er_, by (with_reducible repeat (first | apply Kd.R_alloc | apply Kd.R_drewN | apply Kd.R_drew)); exact HO_11.out, hb_⟩
/-! ### spec_AllFiles: function 29 -/
def spec_AllFiles.f (k : Nat) (l0 : List (S46)) (a1 : Int) : Option (List ByteArray) := (spec_StoreValid.f k l0).bind fun t184 => (if t184 = true then ((spec_l11Files.f k l0 a1 (([] : List ByteArray))).bind fun t188 => (some t188)) else (some (([] : List ByteArray))))
theorem spec_AllFiles.mono : ∀ a0 a1 k, LeO (spec_AllFiles.f k a0 a1) (spec_AllFiles.f (k + 1) a0 a1) := by
 intro a0 a1 k
 unfold spec_AllFiles.f
 repeat' first
   | (with_reducible exact spec_StoreValid.mono _ _)
   | (with_reducible exact spec_l11Files.mono _ _ _ _)
   | (with_reducible exact LeO.refl _)
   | (with_reducible exact LeO.none _)
   | (with_reducible refine LeO.ite ?_ ?_)
   | (with_reducible refine LeO.bind ?_ (fun _ => ?_))
   | exact spec_StoreValid.mono _ _
   | exact spec_l11Files.mono _ _ _ _
   | exact LeO.none _
   | refine LeO.ite ?_ ?_
   | refine LeO.bind ?_ (fun _ => ?_)
set_option maxHeartbeats 8000000 in
set_option maxRecDepth 100000 in
theorem spec_AllFiles.calls (k : Nat) (A0 : Option Addr) (c0 : Nat) (l0 : List (S46)) (a1 : Int) (r : List ByteArray) (w : World) (hr0 : Kd.C k46 w A0 l0.length l0) (hc0 : l0.length ≤ c0) (h : spec_AllFiles.f k l0 a1 = some r) :
  Calls Tryz.prog 29 #[.slice A0 l0.length c0, .int .i64 a1] w fun e w' => ∃ v0_ : Value, e = .returned (v0_) ∧ Kd.R Kd.string 9 w' w.heap.size (fun _ => True) v0_ r ∧ Below w.heap.size w w' := by
 have HR0 := Aside0.mk hr0
 have HC0 := Aside0.mk hc0
 clear hr0 hc0
 have HB := Aside0.mk (Below.refl w.heap.size w)
 have H : ((spec_StoreValid.f k l0).bind fun t184 => (if t184 = true then ((spec_l11Files.f k l0 a1 (([] : List ByteArray))).bind fun t188 => (some t188)) else (some (([] : List ByteArray))))) = some r := h
 clear h
 replace H := Option.bind_eq_some_iff.mp H
 obtain ⟨t184, A30, H⟩ := H
 replace H : (if t184 = true then ((spec_l11Files.f k l0 a1 (([] : List ByteArray))).bind fun t188 => (some t188)) else (some (([] : List ByteArray)))) = some r := H
 have A3 := Aside0.mk A30
 clear A30
 by_cases c4 : t184 = true
 ·subst c4
  have H1 : ((spec_l11Files.f k l0 a1 (([] : List ByteArray))).bind fun t188 => (some t188)) = some r := by rw [if_pos rfl] at H; exact H
  clear H
  have H := H1
  clear H1
  obtain ⟨y185, hy185⟩ : ∃ y_ : List ByteArray, y_ = (([] : List ByteArray)) := ⟨_, rfl⟩
  replace H : ((spec_l11Files.f k l0 a1 y185).bind fun t188 => (some t188)) = some r := by first | (rw [hy185]; with_reducible exact H) | (have H2_ := (Option.bind_some _ _).symm.trans H; rw [hy185]; with_reducible exact H2_) | (have H2_ := (Option.bind_some _ _).symm.trans H; with_reducible exact H2_) | with_reducible exact H | (rw [hy185]; exact H) | exact H
  have Ny185 := Aside0.mk hy185
  clear hy185
  replace H := Option.bind_eq_some_iff.mp H
  obtain ⟨t188, A50, H⟩ := H
  replace H : (some t188) = some r := H
  have A5 := Aside0.mk A50
  clear A50
  obtain rfl := Option.some.inj H
  go_enter Tryz.func29, Tryz.ntmps29
  go_wp2_with (first | ((with_reducible refine gate_callee (f := 36) rfl ?_); refine goesL_ (some 6) rfl rfl Tryz.func36 (by kernel_rfl) rfl #[.slice A0 l0.length c0] rfl sl_ ?_; (with_reducible refine (spec_StoreValid.calls k _ _ l0 true _ ?side1 ?side2 A3.out).mono ?_); (case side1 => exact kC_ HR0.out); (case side2 => exact HC0.out); rintro e w6 ⟨rfl, hb⟩; refine ⟨_, rfl, ?_⟩; replace HB := Aside0.mk (below_step hb_ hb); (try clear hb); (try clear hk)) | ((with_reducible refine gate_dst (N := 11) rfl ?_); refine Kd.R_lit Kd.string _ 9 ?hg (N := 11) ?hd (xs := ([] : List ByteArray)) (inner := []) (ok := fun _ => True) (okp := fun _ => True) ?hr ?hp (fun _ hk => hk) trivial (Below.refl _ _) (Nat.le_refl _) (by simp) ?_; (case hd => rfl); (case hg => rfl); (case hr => first | (go_simp; done) | (go_simp; rfl)); (case hp => exact (Reps.none _ _)); intro v186 w7 ho8 hb hg_ hnew_; clear hg_ hnew_; (first | rw [← Ny185.out] at ho8 | (simp only [Int.reduceToNat] at ho8; rw [← Ny185.out] at ho8)); have HO187 := Aside0.mk (Kd.R_lower ho8 (below_size hb_)); replace HB := Aside0.mk (below_step hb_ hb); clear hb ho8; obtain ⟨Ao9, co9, eo9⟩ := Kd.R_slice HO187.out; subst eo9) | ((with_reducible refine gate_callee (f := 48) rfl ?_); refine goesL_ (some 12) rfl rfl Tryz.func48 (by kernel_rfl) rfl #[.slice A0 l0.length c0, .int .i64 a1, .slice Ao9 y185.length co9] rfl sl_ ?_; (with_reducible refine (spec_l11Files.calls k _ _ l0 a1 _ _ y185 t188 _ ?side1 ?side2 ?side3 ?side4 A5.out).mono ?_); (case side1 => exact kC_ (Kd.C_below HR0.out HB.out)); (case side2 => exact HC0.out); (case side3 => exact kC_ ((Kd.R_reads' HO187.out).2.2)); (case side4 => exact (Kd.R_reads' HO187.out).2.1); rintro e w10 ⟨v189, rfl, ho0, hb⟩; refine ⟨_, rfl, ?_⟩; have HO190 := Aside0.mk (Kd.R_lower (Kd.R_new' ho0 (Kd.R_lt (kR_ HO187.out))) (below_size hb_)); replace HO187 := Aside0.mk (Kd.R_elder' (kR_ HO187.out) (Kd.R_base ho0) hb); replace HB := Aside0.mk (below_step hb_ hb); (try clear hb); (try clear hk); (try clear ho0)))
  go_ret
  exact ⟨_, er_, by (with_reducible repeat (first | apply Kd.R_alloc | apply Kd.R_drewN | apply Kd.R_drew)); exact Kd.R_mono HO190.out (fun _ hk => trivial), hb_⟩
 ·replace c4 := Bool.eq_false_iff.mpr c4
  subst c4
  have H1 : (some (([] : List ByteArray))) = some r := by rw [if_neg (show ¬ (false = true) by decide)] at H; exact H
  clear H
  have H := H1
  clear H1
  obtain ⟨y191, hy191⟩ : ∃ y_ : List ByteArray, y_ = (([] : List ByteArray)) := ⟨_, rfl⟩
  replace H : (some y191) = some r := by first | (rw [hy191]; with_reducible exact H) | (have H2_ := (Option.bind_some _ _).symm.trans H; rw [hy191]; with_reducible exact H2_) | (have H2_ := (Option.bind_some _ _).symm.trans H; with_reducible exact H2_) | with_reducible exact H | (rw [hy191]; exact H) | exact H
  have Ny191 := Aside0.mk hy191
  clear hy191
  obtain rfl := Option.some.inj H
  go_enter Tryz.func29, Tryz.ntmps29
  go_wp2_with (first | ((with_reducible refine gate_callee (f := 36) rfl ?_); refine goesL_ (some 6) rfl rfl Tryz.func36 (by kernel_rfl) rfl #[.slice A0 l0.length c0] rfl sl_ ?_; (with_reducible refine (spec_StoreValid.calls k _ _ l0 false _ ?side1 ?side2 A3.out).mono ?_); (case side1 => exact kC_ HR0.out); (case side2 => exact HC0.out); rintro e w11 ⟨rfl, hb⟩; refine ⟨_, rfl, ?_⟩; replace HB := Aside0.mk (below_step hb_ hb); (try clear hb); (try clear hk)) | ((with_reducible refine gate_dst (N := 8) rfl ?_); refine Kd.R_lit Kd.string _ 9 ?hg (N := 8) ?hd (xs := ([] : List ByteArray)) (inner := []) (ok := fun _ => True) (okp := fun _ => True) ?hr ?hp (fun _ hk => hk) trivial (Below.refl _ _) (Nat.le_refl _) (by simp) ?_; (case hd => rfl); (case hg => rfl); (case hr => first | (go_simp; done) | (go_simp; rfl)); (case hp => exact (Reps.none _ _)); intro v192 w12 ho13 hb hg_ hnew_; clear hg_ hnew_; (first | rw [← Ny191.out] at ho13 | (simp only [Int.reduceToNat] at ho13; rw [← Ny191.out] at ho13)); have HO193 := Aside0.mk (Kd.R_lower ho13 (below_size hb_)); replace HB := Aside0.mk (below_step hb_ hb); clear hb ho13))
  go_ret
  exact ⟨_, er_, by (with_reducible repeat (first | apply Kd.R_alloc | apply Kd.R_drewN | apply Kd.R_drew)); exact HO193.out, hb_⟩
/-! ### impl_ContentValid: function 108 -/
def impl_ContentValid.f (k : Nat) (a0 : ByteArray) : Option (Bool) := (impl_TextValid.f k a0).bind fun t257 => (if t257 = true then (some (decide ((a0.size : Int) ≤ 40))) else (some false))
theorem impl_ContentValid.mono : ∀ a0 k, LeO (impl_ContentValid.f k a0) (impl_ContentValid.f (k + 1) a0) := by
 intro a0 k
 unfold impl_ContentValid.f
 repeat' first
   | (with_reducible exact impl_TextValid.mono _ _)
   | (with_reducible exact LeO.refl _)
   | (with_reducible exact LeO.none _)
   | (with_reducible refine LeO.ite ?_ ?_)
   | (with_reducible refine LeO.bind ?_ (fun _ => ?_))
   | exact impl_TextValid.mono _ _
   | exact LeO.none _
   | refine LeO.ite ?_ ?_
   | refine LeO.bind ?_ (fun _ => ?_)
set_option maxHeartbeats 8000000 in
set_option maxRecDepth 100000 in
theorem impl_ContentValid.calls (k : Nat) (a0 : ByteArray) (r : Bool) (w : World) (h : impl_ContentValid.f k a0 = some r) :
  Calls Tryz.prog 108 #[.string a0] w fun e w' => e = .returned (.bool r) ∧ Drawn0 w w' := by
 have H : ((impl_TextValid.f k a0).bind fun t257 => (if t257 = true then (some (decide ((a0.size : Int) ≤ 40))) else (some false))) = some r := h
 clear h
 replace H := Option.bind_eq_some_iff.mp H
 obtain ⟨t257, A20, H⟩ := H
 replace H : (if t257 = true then (some (decide ((a0.size : Int) ≤ 40))) else (some false)) = some r := H
 have A2 := Aside0.mk A20
 clear A20
 by_cases c3 : t257 = true
 ·subst c3
  have H1 : (some (decide ((a0.size : Int) ≤ 40))) = some r := by rw [if_pos rfl] at H; exact H
  clear H
  have H := H1
  clear H1
  obtain rfl := Option.some.inj H
  go_enter Tryz.func108, Tryz.ntmps108
  go_wp2_with (first | ((with_reducible refine gate_callee (f := 62) rfl ?_); refine goesL_ (some 4) rfl rfl Tryz.func62 (by kernel_rfl) rfl #[.string a0] rfl sl_ ?_; (with_reducible refine (impl_TextValid.calls k a0 true _ A2.out).mono ?_); rintro e w' ⟨rfl, ⟨nd, rfl⟩⟩; refine ⟨_, rfl, ?_⟩))
  go_ret
  exact ⟨by first | rfl | (simp; done) | (simp [*]; done), by repeat (first | exact Drawn0.refl _ | apply Drawn0.step)⟩
 ·replace c3 := Bool.eq_false_iff.mpr c3
  subst c3
  have H1 : (some false) = some r := by rw [if_neg (show ¬ (false = true) by decide)] at H; exact H
  clear H
  have H := H1
  clear H1
  obtain rfl := Option.some.inj H
  go_enter Tryz.func108, Tryz.ntmps108
  go_wp2_with (first | ((with_reducible refine gate_callee (f := 62) rfl ?_); refine goesL_ (some 4) rfl rfl Tryz.func62 (by kernel_rfl) rfl #[.string a0] rfl sl_ ?_; (with_reducible refine (impl_TextValid.calls k a0 false _ A2.out).mono ?_); rintro e w' ⟨rfl, ⟨nd, rfl⟩⟩; refine ⟨_, rfl, ?_⟩))
  go_ret
  exact ⟨by first | rfl | (simp; done) | (simp [*]; done), by repeat (first | exact Drawn0.refl _ | apply Drawn0.step)⟩
/-! ### impl_ReadFile: function 92 -/
def impl_ReadFile.f (k : Nat) (a0 : ByteArray) : Option (ByteArray × Bool) := (strings_CutPrefix.f a0 (⟨#[102]⟩ : ByteArray)).bind fun bt258 => (if bt258.2 = true then ((impl_ContentValid.f k bt258.1).bind fun t260 => (if t260 = true then (some (bt258.1, true)) else (some ((⟨#[]⟩ : ByteArray), false)))) else (some ((⟨#[]⟩ : ByteArray), false)))
theorem impl_ReadFile.mono : ∀ a0 k, LeO (impl_ReadFile.f k a0) (impl_ReadFile.f (k + 1) a0) := by
 intro a0 k
 unfold impl_ReadFile.f
 repeat' first
   | (with_reducible exact impl_ContentValid.mono _ _)
   | (with_reducible exact LeO.refl _)
   | (with_reducible exact LeO.none _)
   | (with_reducible refine LeO.ite ?_ ?_)
   | (with_reducible refine LeO.bind ?_ (fun _ => ?_))
   | exact impl_ContentValid.mono _ _
   | exact LeO.none _
   | refine LeO.ite ?_ ?_
   | refine LeO.bind ?_ (fun _ => ?_)
set_option maxHeartbeats 8000000 in
set_option maxRecDepth 100000 in
theorem impl_ReadFile.calls (k : Nat) (a0 : ByteArray) (r1 : ByteArray) (r2 : Bool) (w : World) (h : impl_ReadFile.f k a0 = some (r1, r2)) :
  Calls Tryz.prog 92 #[.string a0] w fun e w' => e = .returned (.tuple #[.string r1, .bool r2]) ∧ Drawn0 w w' := by
 have H : ((strings_CutPrefix.f a0 (⟨#[102]⟩ : ByteArray)).bind fun bt258 => (if bt258.2 = true then ((impl_ContentValid.f k bt258.1).bind fun t260 => (if t260 = true then (some (bt258.1, true)) else (some ((⟨#[]⟩ : ByteArray), false)))) else (some ((⟨#[]⟩ : ByteArray), false)))) = some (r1, r2) := h
 clear h
 replace H := Option.bind_eq_some_iff.mp H
 obtain ⟨⟨t258, t259⟩, A20, H⟩ := H
 replace H : (if t259 = true then ((impl_ContentValid.f k t258).bind fun t260 => (if t260 = true then (some (t258, true)) else (some ((⟨#[]⟩ : ByteArray), false)))) else (some ((⟨#[]⟩ : ByteArray), false))) = some (r1, r2) := H
 have A2 := Aside0.mk A20
 clear A20
 by_cases c3 : t259 = true
 ·subst c3
  have H1 : ((impl_ContentValid.f k t258).bind fun t260 => (if t260 = true then (some (t258, true)) else (some ((⟨#[]⟩ : ByteArray), false)))) = some (r1, r2) := by rw [if_pos rfl] at H; exact H
  clear H
  have H := H1
  clear H1
  replace H := Option.bind_eq_some_iff.mp H
  obtain ⟨t260, A40, H⟩ := H
  replace H : (if t260 = true then (some (t258, true)) else (some ((⟨#[]⟩ : ByteArray), false))) = some (r1, r2) := H
  have A4 := Aside0.mk A40
  clear A40
  by_cases c5 : t260 = true
  ·subst c5
   have H1 : (some (t258, true)) = some (r1, r2) := by rw [if_pos rfl] at H; exact H
   clear H
   have H := H1
   clear H1
   simp only [Option.some.injEq, Prod.mk.injEq] at H
   obtain ⟨rfl, rfl⟩ := H
   go_enter Tryz.func92, Tryz.ntmps92
   go_wp2_with (first | ((with_reducible refine gate_callee (f := 50) rfl ?_); refine goesL_ (some 8) rfl rfl Tryz.func50 (by kernel_rfl) rfl #[.string a0, .string (⟨#[102]⟩ : ByteArray)] rfl sl_ ?_; (with_reducible refine (strings_CutPrefix.calls a0 (⟨#[102]⟩ : ByteArray) t258 true _ A2.out).mono ?_); rintro e w' ⟨rfl, ⟨nd, rfl⟩⟩; refine ⟨_, rfl, ?_⟩) | (go_at_call 108; (with_reducible refine (impl_ContentValid.calls k t258 true _ A4.out).mono ?_); rintro e w' ⟨rfl, ⟨nd, rfl⟩⟩))
   go_ret2
   exact ⟨by first | rfl | (simp; done) | (simp [*]; done), by repeat (first | exact Drawn0.refl _ | apply Drawn0.step)⟩
  ·replace c5 := Bool.eq_false_iff.mpr c5
   subst c5
   have H1 : (some ((⟨#[]⟩ : ByteArray), false)) = some (r1, r2) := by rw [if_neg (show ¬ (false = true) by decide)] at H; exact H
   clear H
   have H := H1
   clear H1
   simp only [Option.some.injEq, Prod.mk.injEq] at H
   obtain ⟨rfl, rfl⟩ := H
   go_enter Tryz.func92, Tryz.ntmps92
   go_wp2_with (first | ((with_reducible refine gate_callee (f := 50) rfl ?_); refine goesL_ (some 8) rfl rfl Tryz.func50 (by kernel_rfl) rfl #[.string a0, .string (⟨#[102]⟩ : ByteArray)] rfl sl_ ?_; (with_reducible refine (strings_CutPrefix.calls a0 (⟨#[102]⟩ : ByteArray) t258 true _ A2.out).mono ?_); rintro e w' ⟨rfl, ⟨nd, rfl⟩⟩; refine ⟨_, rfl, ?_⟩) | (go_at_call 108; (with_reducible refine (impl_ContentValid.calls k t258 false _ A4.out).mono ?_); rintro e w' ⟨rfl, ⟨nd, rfl⟩⟩))
   go_ret2
   exact ⟨by first | rfl | (simp; done) | (simp [*]; done), by repeat (first | exact Drawn0.refl _ | apply Drawn0.step)⟩
 ·replace c3 := Bool.eq_false_iff.mpr c3
  subst c3
  have H1 : (some ((⟨#[]⟩ : ByteArray), false)) = some (r1, r2) := by rw [if_neg (show ¬ (false = true) by decide)] at H; exact H
  clear H
  have H := H1
  clear H1
  simp only [Option.some.injEq, Prod.mk.injEq] at H
  obtain ⟨rfl, rfl⟩ := H
  go_enter Tryz.func92, Tryz.ntmps92
  go_wp2_with (first | ((with_reducible refine gate_callee (f := 50) rfl ?_); refine goesL_ (some 8) rfl rfl Tryz.func50 (by kernel_rfl) rfl #[.string a0, .string (⟨#[102]⟩ : ByteArray)] rfl sl_ ?_; (with_reducible refine (strings_CutPrefix.calls a0 (⟨#[102]⟩ : ByteArray) t258 false _ A2.out).mono ?_); rintro e w' ⟨rfl, ⟨nd, rfl⟩⟩; refine ⟨_, rfl, ?_⟩))
  go_ret2
  exact ⟨by first | rfl | (simp; done) | (simp [*]; done), by repeat (first | exact Drawn0.refl _ | apply Drawn0.step)⟩
/-! ### impl_fileOf: function 72 -/
def impl_fileOf.f (k : Nat) (l0 : List (S46)) (a1 : Int) : Option (ByteArray × Bool) := (impl_textOf.f k l0 a1).bind fun bt261 => (if bt261.2 = true then ((impl_ReadFile.f k bt261.1).bind fun bt263 => (some (bt263.1, bt263.2))) else (some ((⟨#[]⟩ : ByteArray), false)))
theorem impl_fileOf.mono : ∀ a0 a1 k, LeO (impl_fileOf.f k a0 a1) (impl_fileOf.f (k + 1) a0 a1) := by
 intro a0 a1 k
 unfold impl_fileOf.f
 repeat' first
   | (with_reducible exact impl_ReadFile.mono _ _)
   | (with_reducible exact impl_textOf.mono _ _ _)
   | (with_reducible exact LeO.refl _)
   | (with_reducible exact LeO.none _)
   | (with_reducible refine LeO.ite ?_ ?_)
   | (with_reducible refine LeO.bind ?_ (fun _ => ?_))
   | exact impl_ReadFile.mono _ _
   | exact impl_textOf.mono _ _ _
   | exact LeO.none _
   | refine LeO.ite ?_ ?_
   | refine LeO.bind ?_ (fun _ => ?_)
set_option maxHeartbeats 8000000 in
set_option maxRecDepth 100000 in
theorem impl_fileOf.calls (k : Nat) (A0 : Option Addr) (c0 : Nat) (l0 : List (S46)) (a1 : Int) (r1 : ByteArray) (r2 : Bool) (w : World) (hr0 : Kd.C k46 w A0 l0.length l0) (hc0 : l0.length ≤ c0) (h : impl_fileOf.f k l0 a1 = some (r1, r2)) :
  Calls Tryz.prog 72 #[.slice A0 l0.length c0, .int .i64 a1] w fun e w' => e = .returned (.tuple #[.string r1, .bool r2]) ∧ Below w.heap.size w w' := by
 have HR0 := Aside0.mk hr0
 have HC0 := Aside0.mk hc0
 clear hr0 hc0
 have HB := Aside0.mk (Below.refl w.heap.size w)
 have H : ((impl_textOf.f k l0 a1).bind fun bt261 => (if bt261.2 = true then ((impl_ReadFile.f k bt261.1).bind fun bt263 => (some (bt263.1, bt263.2))) else (some ((⟨#[]⟩ : ByteArray), false)))) = some (r1, r2) := h
 clear h
 replace H := Option.bind_eq_some_iff.mp H
 obtain ⟨⟨t261, t262⟩, A30, H⟩ := H
 replace H : (if t262 = true then ((impl_ReadFile.f k t261).bind fun bt263 => (some (bt263.1, bt263.2))) else (some ((⟨#[]⟩ : ByteArray), false))) = some (r1, r2) := H
 have A3 := Aside0.mk A30
 clear A30
 by_cases c4 : t262 = true
 ·subst c4
  have H1 : ((impl_ReadFile.f k t261).bind fun bt263 => (some (bt263.1, bt263.2))) = some (r1, r2) := by rw [if_pos rfl] at H; exact H
  clear H
  have H := H1
  clear H1
  replace H := Option.bind_eq_some_iff.mp H
  obtain ⟨⟨t263, t264⟩, A50, H⟩ := H
  replace H : (some (t263, t264)) = some (r1, r2) := H
  have A5 := Aside0.mk A50
  clear A50
  simp only [Option.some.injEq, Prod.mk.injEq] at H
  obtain ⟨rfl, rfl⟩ := H
  go_enter Tryz.func72, Tryz.ntmps72
  go_wp2_with (first | ((with_reducible refine gate_callee (f := 41) rfl ?_); refine goesL_ (some 11) rfl rfl Tryz.func41 (by kernel_rfl) rfl #[.slice A0 l0.length c0, .int .i64 a1] rfl sl_ ?_; (with_reducible refine (impl_textOf.calls k _ _ l0 a1 t261 true _ ?side1 ?side2 A3.out).mono ?_); (case side1 => exact kC_ HR0.out); (case side2 => exact HC0.out); rintro e w6 ⟨rfl, hb⟩; refine ⟨_, rfl, ?_⟩; replace HB := Aside0.mk (below_step hb_ hb); (try clear hb)) | ((with_reducible refine gate_callee (f := 92) rfl ?_); refine goesL_ (some 17) rfl rfl Tryz.func92 (by kernel_rfl) rfl #[.string t261] rfl sl_ ?_; (with_reducible refine (impl_ReadFile.calls k t261 t263 t264 _ A5.out).mono ?_); rintro e w' ⟨rfl, ⟨nd, rfl⟩⟩; refine ⟨_, rfl, ?_⟩))
  go_ret2
  exact ⟨er_, hb_⟩
 ·replace c4 := Bool.eq_false_iff.mpr c4
  subst c4
  have H1 : (some ((⟨#[]⟩ : ByteArray), false)) = some (r1, r2) := by rw [if_neg (show ¬ (false = true) by decide)] at H; exact H
  clear H
  have H := H1
  clear H1
  simp only [Option.some.injEq, Prod.mk.injEq] at H
  obtain ⟨rfl, rfl⟩ := H
  go_enter Tryz.func72, Tryz.ntmps72
  go_wp2_with (first | ((with_reducible refine gate_callee (f := 41) rfl ?_); refine goesL_ (some 11) rfl rfl Tryz.func41 (by kernel_rfl) rfl #[.slice A0 l0.length c0, .int .i64 a1] rfl sl_ ?_; (with_reducible refine (impl_textOf.calls k _ _ l0 a1 t261 false _ ?side1 ?side2 A3.out).mono ?_); (case side1 => exact kC_ HR0.out); (case side2 => exact HC0.out); rintro e w7 ⟨rfl, hb⟩; refine ⟨_, rfl, ?_⟩; replace HB := Aside0.mk (below_step hb_ hb); (try clear hb)))
  go_ret2
  exact ⟨er_, hb_⟩
/-! ### impl_folderOf: function 73 -/
def impl_folderOf.f (k : Nat) (l0 : List (S46)) (a1 : Int) : Option ((List (S75)) × Bool) := (impl_textOf.f k l0 a1).bind fun bt291 => (if bt291.2 = true then ((impl_ReadFolder.f k bt291.1).bind fun bt293 => (some (bt293.1, bt293.2))) else (some (([] : List (S75)), false)))
theorem impl_folderOf.mono : ∀ a0 a1 k, LeO (impl_folderOf.f k a0 a1) (impl_folderOf.f (k + 1) a0 a1) := by
 intro a0 a1 k
 unfold impl_folderOf.f
 repeat' first
   | (with_reducible exact impl_ReadFolder.mono _ _)
   | (with_reducible exact impl_textOf.mono _ _ _)
   | (with_reducible exact LeO.refl _)
   | (with_reducible exact LeO.none _)
   | (with_reducible refine LeO.ite ?_ ?_)
   | (with_reducible refine LeO.bind ?_ (fun _ => ?_))
   | exact impl_ReadFolder.mono _ _
   | exact impl_textOf.mono _ _ _
   | exact LeO.none _
   | refine LeO.ite ?_ ?_
   | refine LeO.bind ?_ (fun _ => ?_)
set_option maxHeartbeats 8000000 in
set_option maxRecDepth 100000 in
theorem impl_folderOf.calls (k : Nat) (A0 : Option Addr) (c0 : Nat) (l0 : List (S46)) (a1 : Int) (r1 : List (S75)) (r2 : Bool) (w : World) (hr0 : Kd.C k46 w A0 l0.length l0) (hc0 : l0.length ≤ c0) (hG : GT w) (h : impl_folderOf.f k l0 a1 = some (r1, r2)) :
  Calls Tryz.prog 73 #[.slice A0 l0.length c0, .int .i64 a1] w fun e w' => ∃ v0_ : Value, e = .returned (.tuple #[v0_, .bool r2]) ∧ Kd.R k75 75 w' w.heap.size (fun _ => True) v0_ r1 ∧ Below w.heap.size w w' := by
 have HR0 := Aside0.mk hr0
 have HC0 := Aside0.mk hc0
 clear hr0 hc0
 have HB := Aside0.mk (Below.refl w.heap.size w)
 have H : ((impl_textOf.f k l0 a1).bind fun bt291 => (if bt291.2 = true then ((impl_ReadFolder.f k bt291.1).bind fun bt293 => (some (bt293.1, bt293.2))) else (some (([] : List (S75)), false)))) = some (r1, r2) := h
 clear h
 replace H := Option.bind_eq_some_iff.mp H
 obtain ⟨⟨t291, t292⟩, A30, H⟩ := H
 replace H : (if t292 = true then ((impl_ReadFolder.f k t291).bind fun bt293 => (some (bt293.1, bt293.2))) else (some (([] : List (S75)), false))) = some (r1, r2) := H
 have A3 := Aside0.mk A30
 clear A30
 by_cases c4 : t292 = true
 ·subst c4
  have H1 : ((impl_ReadFolder.f k t291).bind fun bt293 => (some (bt293.1, bt293.2))) = some (r1, r2) := by rw [if_pos rfl] at H; exact H
  clear H
  have H := H1
  clear H1
  replace H := Option.bind_eq_some_iff.mp H
  obtain ⟨⟨t293, t294⟩, A50, H⟩ := H
  replace H : (some (t293, t294)) = some (r1, r2) := H
  have A5 := Aside0.mk A50
  clear A50
  simp only [Option.some.injEq, Prod.mk.injEq] at H
  obtain ⟨rfl, rfl⟩ := H
  go_enter Tryz.func73, Tryz.ntmps73
  go_wp2_with (first | ((with_reducible refine gate_callee (f := 41) rfl ?_); refine goesL_ (some 11) rfl rfl Tryz.func41 (by kernel_rfl) rfl #[.slice A0 l0.length c0, .int .i64 a1] rfl sl_ ?_; (with_reducible refine (impl_textOf.calls k _ _ l0 a1 t291 true _ ?side1 ?side2 A3.out).mono ?_); (case side1 => exact kC_ HR0.out); (case side2 => exact HC0.out); rintro e w6 ⟨rfl, hb⟩; refine ⟨_, rfl, ?_⟩; replace HB := Aside0.mk (below_step hb_ hb); (try clear hb)) | ((with_reducible refine gate_callee (f := 42) rfl ?_); refine goesL_ (some 17) rfl rfl Tryz.func42 (by kernel_rfl) rfl #[.string t291] rfl sl_ ?_; (with_reducible refine (impl_ReadFolder.calls k t291 t293 t294 _ (GT_on hb_ hG) A5.out).mono ?_); rintro e w7 ⟨v295, rfl, ho0, hb⟩; refine ⟨_, rfl, ?_⟩; have HO296 := Aside0.mk (Kd.R_lower ho0 (below_size hb_)); replace HB := Aside0.mk (below_step hb_ hb); (try clear hb); (try clear ho0)))
  go_ret2
  exact ⟨_, er_, by (with_reducible repeat (first | apply Kd.R_alloc | apply Kd.R_drewN | apply Kd.R_drew)); exact HO296.out, hb_⟩
 ·replace c4 := Bool.eq_false_iff.mpr c4
  subst c4
  have H1 : (some (([] : List (S75)), false)) = some (r1, r2) := by rw [if_neg (show ¬ (false = true) by decide)] at H; exact H
  clear H
  have H := H1
  clear H1
  simp only [Option.some.injEq, Prod.mk.injEq] at H
  obtain ⟨rfl, rfl⟩ := H
  go_enter Tryz.func73, Tryz.ntmps73
  go_wp2_with (first | ((with_reducible refine gate_callee (f := 41) rfl ?_); refine goesL_ (some 11) rfl rfl Tryz.func41 (by kernel_rfl) rfl #[.slice A0 l0.length c0, .int .i64 a1] rfl sl_ ?_; (with_reducible refine (impl_textOf.calls k _ _ l0 a1 t291 false _ ?side1 ?side2 A3.out).mono ?_); (case side1 => exact kC_ HR0.out); (case side2 => exact HC0.out); rintro e w8 ⟨rfl, hb⟩; refine ⟨_, rfl, ?_⟩; replace HB := Aside0.mk (below_step hb_ hb); (try clear hb)))
  go_ret2
  exact ⟨_, er_, by first | exact Kd.R_nil _ _ _ _ _ | exact Kd.N_nil _ _ _ _ _ | exact Kd.V_nil _ _ _ _ _ | exact Kd.Q_nil _ _ _ _ _ | exact Kd.S_nil _ _ _ _ _, hb_⟩
end Go.Proofs.YtjgbidklkhohfaaGreatDoor.P
