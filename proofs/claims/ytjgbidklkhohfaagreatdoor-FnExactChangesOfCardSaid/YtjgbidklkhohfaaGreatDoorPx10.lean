-- The functions of the seat as plain Lean functions, made by the kit's print.py for all laws at once. Not trusted: Lean checks it.
import Derived.Test.YtjgbidklkhohfaaGreatDoorPx0
import Derived.Test.YtjgbidklkhohfaaGreatDoorPx1
import Derived.Test.YtjgbidklkhohfaaGreatDoorPx3
import Derived.Test.YtjgbidklkhohfaaGreatDoorPx4
import Derived.Test.YtjgbidklkhohfaaGreatDoorPx5
import Derived.Test.YtjgbidklkhohfaaGreatDoorPx6
import Derived.Test.YtjgbidklkhohfaaGreatDoorPx7
namespace Go.Proofs.YtjgbidklkhohfaaGreatDoor.P
open Go.RowKit Go.Proofs.YtjgbidklkhohfaaGreatDoorW.PrintWords Go.Proofs.YtjgbidklkhohfaaGreatDoorW.PrintLast Go.Proofs.YtjgbidklkhohfaaGreatDoorW.PrintMore
attribute [local go_sem] max2_int min2_int max_two min_two max_three min_three max_four min_four   -- for this text's walks alone
set_option linter.unusedVariables false
set_option linter.unusedSimpArgs false
/-! ### spec_GetText: function 69 -/
def spec_GetText.f (k : Nat) (l0 : List (S46)) (a1 : Int) : Option (ByteArray × Bool) := (spec_StoreValid.f k l0).bind fun t535 => (if t535 = true then ((spec_l4Get.f k l0 a1).bind fun bt536 => (some (bt536.1, bt536.2))) else (some ((⟨#[]⟩ : ByteArray), false)))
theorem spec_GetText.mono : ∀ a0 a1 k, LeO (spec_GetText.f k a0 a1) (spec_GetText.f (k + 1) a0 a1) := by
 intro a0 a1 k
 unfold spec_GetText.f
 repeat' first
   | (with_reducible exact spec_StoreValid.mono _ _)
   | (with_reducible exact spec_l4Get.mono _ _ _)
   | (with_reducible exact LeO.refl _)
   | (with_reducible exact LeO.none _)
   | (with_reducible refine LeO.ite ?_ ?_)
   | (with_reducible refine LeO.bind ?_ (fun _ => ?_))
   | exact spec_StoreValid.mono _ _
   | exact spec_l4Get.mono _ _ _
   | exact LeO.none _
   | refine LeO.ite ?_ ?_
   | refine LeO.bind ?_ (fun _ => ?_)
set_option maxHeartbeats 8000000 in
set_option maxRecDepth 100000 in
theorem spec_GetText.calls (k : Nat) (A0 : Option Addr) (c0 : Nat) (l0 : List (S46)) (a1 : Int) (r1 : ByteArray) (r2 : Bool) (w : World) (hr0 : Kd.C k46 w A0 l0.length l0) (hc0 : l0.length ≤ c0) (h : spec_GetText.f k l0 a1 = some (r1, r2)) :
  Calls Tryz.prog 69 #[.slice A0 l0.length c0, .int .i64 a1] w fun e w' => e = .returned (.tuple #[.string r1, .bool r2]) ∧ Below w.heap.size w w' := by
 have HR0 := Aside0.mk hr0
 have HC0 := Aside0.mk hc0
 clear hr0 hc0
 have HB := Aside0.mk (Below.refl w.heap.size w)
 have H : ((spec_StoreValid.f k l0).bind fun t535 => (if t535 = true then ((spec_l4Get.f k l0 a1).bind fun bt536 => (some (bt536.1, bt536.2))) else (some ((⟨#[]⟩ : ByteArray), false)))) = some (r1, r2) := h
 clear h
 replace H := Option.bind_eq_some_iff.mp H
 obtain ⟨t535, A30, H⟩ := H
 replace H : (if t535 = true then ((spec_l4Get.f k l0 a1).bind fun bt536 => (some (bt536.1, bt536.2))) else (some ((⟨#[]⟩ : ByteArray), false))) = some (r1, r2) := H
 have A3 := Aside0.mk A30
 clear A30
 by_cases c4 : t535 = true
 ·subst c4
  have H1 : ((spec_l4Get.f k l0 a1).bind fun bt536 => (some (bt536.1, bt536.2))) = some (r1, r2) := by rw [if_pos rfl] at H; exact H
  clear H
  have H := H1
  clear H1
  replace H := Option.bind_eq_some_iff.mp H
  obtain ⟨⟨t536, t537⟩, A50, H⟩ := H
  replace H : (some (t536, t537)) = some (r1, r2) := H
  have A5 := Aside0.mk A50
  clear A50
  simp only [Option.some.injEq, Prod.mk.injEq] at H
  obtain ⟨rfl, rfl⟩ := H
  go_enter Tryz.func69, Tryz.ntmps69
  go_wp2_with (first | ((with_reducible refine gate_callee (f := 36) rfl ?_); refine goesL_ (some 7) rfl rfl Tryz.func36 (by kernel_rfl) rfl #[.slice A0 l0.length c0] rfl sl_ ?_; (with_reducible refine (spec_StoreValid.calls k _ _ l0 true _ ?side1 ?side2 A3.out).mono ?_); (case side1 => exact kC_ HR0.out); (case side2 => exact HC0.out); rintro e w6 ⟨rfl, hb⟩; refine ⟨_, rfl, ?_⟩; replace HB := Aside0.mk (below_step hb_ hb); (try clear hb)) | ((with_reducible refine gate_callee (f := 57) rfl ?_); refine goesL_ (some 11) rfl rfl Tryz.func57 (by kernel_rfl) rfl #[.slice A0 l0.length c0, .int .i64 a1] rfl sl_ ?_; (with_reducible refine (spec_l4Get.calls k _ _ l0 a1 t536 t537 _ ?side1 ?side2 A5.out).mono ?_); (case side1 => exact kC_ (Kd.C_below HR0.out HB.out)); (case side2 => exact HC0.out); rintro e w' ⟨rfl, ⟨nd, rfl⟩⟩; refine ⟨_, rfl, ?_⟩))
  go_ret2
  exact ⟨er_, hb_⟩
 ·replace c4 := Bool.eq_false_iff.mpr c4
  subst c4
  have H1 : (some ((⟨#[]⟩ : ByteArray), false)) = some (r1, r2) := by rw [if_neg (show ¬ (false = true) by decide)] at H; exact H
  clear H
  have H := H1
  clear H1
  simp only [Option.some.injEq, Prod.mk.injEq] at H
  obtain ⟨rfl, rfl⟩ := H
  go_enter Tryz.func69, Tryz.ntmps69
  go_wp2_with (first | ((with_reducible refine gate_callee (f := 36) rfl ?_); refine goesL_ (some 7) rfl rfl Tryz.func36 (by kernel_rfl) rfl #[.slice A0 l0.length c0] rfl sl_ ?_; (with_reducible refine (spec_StoreValid.calls k _ _ l0 false _ ?side1 ?side2 A3.out).mono ?_); (case side1 => exact kC_ HR0.out); (case side2 => exact HC0.out); rintro e w7 ⟨rfl, hb⟩; refine ⟨_, rfl, ?_⟩; replace HB := Aside0.mk (below_step hb_ hb); (try clear hb)))
  go_ret2
  exact ⟨er_, hb_⟩
/-! ### spec_ReadAt: function 44 -/
def spec_ReadAt.f (k : Nat) (l0 : List (S46)) (a1 : Int) (a2 : ByteArray) : Option (ByteArray × Bool) := (spec_WalkTo.f k l0 a1 a2).bind fun bt538 => ((spec_GetText.f k l0 bt538.1).bind fun bt540 => (if bt538.2 = true then ((spec_ReadFile.f k bt540.1).bind fun bt542 => (some (bt542.1, bt542.2))) else (some ((⟨#[]⟩ : ByteArray), false))))
theorem spec_ReadAt.mono : ∀ a0 a1 a2 k, LeO (spec_ReadAt.f k a0 a1 a2) (spec_ReadAt.f (k + 1) a0 a1 a2) := by
 intro a0 a1 a2 k
 unfold spec_ReadAt.f
 repeat' first
   | (with_reducible exact spec_GetText.mono _ _ _)
   | (with_reducible exact spec_ReadFile.mono _ _)
   | (with_reducible exact spec_WalkTo.mono _ _ _ _)
   | (with_reducible exact LeO.refl _)
   | (with_reducible exact LeO.none _)
   | (with_reducible refine LeO.ite ?_ ?_)
   | (with_reducible refine LeO.bind ?_ (fun _ => ?_))
   | exact spec_GetText.mono _ _ _
   | exact spec_ReadFile.mono _ _
   | exact spec_WalkTo.mono _ _ _ _
   | exact LeO.none _
   | refine LeO.ite ?_ ?_
   | refine LeO.bind ?_ (fun _ => ?_)
set_option maxHeartbeats 8000000 in
set_option maxRecDepth 100000 in
theorem spec_ReadAt.calls (k : Nat) (A0 : Option Addr) (c0 : Nat) (l0 : List (S46)) (a1 : Int) (a2 : ByteArray) (r1 : ByteArray) (r2 : Bool) (w : World) (hr0 : Kd.C k46 w A0 l0.length l0) (hc0 : l0.length ≤ c0) (h : spec_ReadAt.f k l0 a1 a2 = some (r1, r2)) :
  Calls Tryz.prog 44 #[.slice A0 l0.length c0, .int .i64 a1, .string a2] w fun e w' => e = .returned (.tuple #[.string r1, .bool r2]) ∧ Below w.heap.size w w' := by
 have HR0 := Aside0.mk hr0
 have HC0 := Aside0.mk hc0
 clear hr0 hc0
 have HB := Aside0.mk (Below.refl w.heap.size w)
 have H : ((spec_WalkTo.f k l0 a1 a2).bind fun bt538 => ((spec_GetText.f k l0 bt538.1).bind fun bt540 => (if bt538.2 = true then ((spec_ReadFile.f k bt540.1).bind fun bt542 => (some (bt542.1, bt542.2))) else (some ((⟨#[]⟩ : ByteArray), false))))) = some (r1, r2) := h
 clear h
 replace H := Option.bind_eq_some_iff.mp H
 obtain ⟨⟨t538, t539⟩, A40, H⟩ := H
 replace H : ((spec_GetText.f k l0 t538).bind fun bt540 => (if t539 = true then ((spec_ReadFile.f k bt540.1).bind fun bt542 => (some (bt542.1, bt542.2))) else (some ((⟨#[]⟩ : ByteArray), false)))) = some (r1, r2) := H
 have A4 := Aside0.mk A40
 clear A40
 replace H := Option.bind_eq_some_iff.mp H
 obtain ⟨⟨t540, t541⟩, A50, H⟩ := H
 replace H : (if t539 = true then ((spec_ReadFile.f k t540).bind fun bt542 => (some (bt542.1, bt542.2))) else (some ((⟨#[]⟩ : ByteArray), false))) = some (r1, r2) := H
 have A5 := Aside0.mk A50
 clear A50
 by_cases c6 : t539 = true
 ·subst c6
  have H1 : ((spec_ReadFile.f k t540).bind fun bt542 => (some (bt542.1, bt542.2))) = some (r1, r2) := by rw [if_pos rfl] at H; exact H
  clear H
  have H := H1
  clear H1
  replace H := Option.bind_eq_some_iff.mp H
  obtain ⟨⟨t542, t543⟩, A70, H⟩ := H
  replace H : (some (t542, t543)) = some (r1, r2) := H
  have A7 := Aside0.mk A70
  clear A70
  simp only [Option.some.injEq, Prod.mk.injEq] at H
  obtain ⟨rfl, rfl⟩ := H
  go_enter Tryz.func44, Tryz.ntmps44
  go_wp2_with (first | ((with_reducible refine gate_callee (f := 55) rfl ?_); refine goesL_ (some 16) rfl rfl Tryz.func55 (by kernel_rfl) rfl #[.slice A0 l0.length c0, .int .i64 a1, .string a2] rfl sl_ ?_; (with_reducible refine (spec_WalkTo.calls k _ _ l0 a1 a2 t538 true _ ?side1 ?side2 A4.out).mono ?_); (case side1 => exact kC_ HR0.out); (case side2 => exact HC0.out); rintro e w8 ⟨rfl, hb⟩; refine ⟨_, rfl, ?_⟩; replace HB := Aside0.mk (below_step hb_ hb); (try clear hb)) | ((with_reducible refine gate_callee (f := 69) rfl ?_); refine goesL_ (some 22) rfl rfl Tryz.func69 (by kernel_rfl) rfl #[.slice A0 l0.length c0, .int .i64 t538] rfl sl_ ?_; (with_reducible refine (spec_GetText.calls k _ _ l0 t538 t540 t541 _ ?side1 ?side2 A5.out).mono ?_); (case side1 => exact kC_ (Kd.C_below HR0.out HB.out)); (case side2 => exact HC0.out); rintro e w9 ⟨rfl, hb⟩; refine ⟨_, rfl, ?_⟩; replace HB := Aside0.mk (below_step hb_ hb); (try clear hb)) | ((with_reducible refine gate_callee (f := 70) rfl ?_); refine goesL_ (some 28) rfl rfl Tryz.func70 (by kernel_rfl) rfl #[.string t540] rfl sl_ ?_; (with_reducible refine (spec_ReadFile.calls k t540 t542 t543 _ A7.out).mono ?_); rintro e w' ⟨rfl, ⟨nd, rfl⟩⟩; refine ⟨_, rfl, ?_⟩))
  go_ret2
  exact ⟨er_, hb_⟩
 ·replace c6 := Bool.eq_false_iff.mpr c6
  subst c6
  have H1 : (some ((⟨#[]⟩ : ByteArray), false)) = some (r1, r2) := by rw [if_neg (show ¬ (false = true) by decide)] at H; exact H
  clear H
  have H := H1
  clear H1
  simp only [Option.some.injEq, Prod.mk.injEq] at H
  obtain ⟨rfl, rfl⟩ := H
  go_enter Tryz.func44, Tryz.ntmps44
  go_wp2_with (first | ((with_reducible refine gate_callee (f := 55) rfl ?_); refine goesL_ (some 16) rfl rfl Tryz.func55 (by kernel_rfl) rfl #[.slice A0 l0.length c0, .int .i64 a1, .string a2] rfl sl_ ?_; (with_reducible refine (spec_WalkTo.calls k _ _ l0 a1 a2 t538 false _ ?side1 ?side2 A4.out).mono ?_); (case side1 => exact kC_ HR0.out); (case side2 => exact HC0.out); rintro e w10 ⟨rfl, hb⟩; refine ⟨_, rfl, ?_⟩; replace HB := Aside0.mk (below_step hb_ hb); (try clear hb)) | ((with_reducible refine gate_callee (f := 69) rfl ?_); refine goesL_ (some 22) rfl rfl Tryz.func69 (by kernel_rfl) rfl #[.slice A0 l0.length c0, .int .i64 t538] rfl sl_ ?_; (with_reducible refine (spec_GetText.calls k _ _ l0 t538 t540 t541 _ ?side1 ?side2 A5.out).mono ?_); (case side1 => exact kC_ (Kd.C_below HR0.out HB.out)); (case side2 => exact HC0.out); rintro e w11 ⟨rfl, hb⟩; refine ⟨_, rfl, ?_⟩; replace HB := Aside0.mk (below_step hb_ hb); (try clear hb)))
  go_ret2
  exact ⟨er_, hb_⟩
/-! ### impl_WalkTo: function 71 -/
mutual
def impl_WalkTo.j0 : Nat → List (S46) → Int → List ByteArray → Bool → Option (Int × Bool)
 | 0, _, _, _, _ => none
 | k + 1, x0, x1, x8, x30 => if x30 = true then (some ((-1), false)) else (impl_WalkTo.l0 k x0 x1 x8 (x8.length : Int) 0)
def impl_WalkTo.l0 : Nat → List (S46) → Int → List ByteArray → Int → Int → Option (Int × Bool)
 | 0, _, _, _, _, _ => none
 | k + 1, x0, x10, x32, x33, x34 => if x34 < x33 then (if 0 ≤ x34 then (if x34 < (x32.length : Int) then ((impl_folderOf.f k x0 x10).bind fun bt556 => (if bt556.2 = true then ((impl_printNamed.f k bt556.1 (rdOf ByteArray.empty x32 x34)).bind fun bt560 => (if bt560.2 = true then (impl_WalkTo.l0 k x0 bt560.1 x32 x33 (wrap64 (x34 + 1))) else (some ((-1), false)))) else (some ((-1), false)))) else (none)) else (none)) else ((impl_textOf.f k x0 x10).bind fun bt562 => (if bt562.2 = true then (some (x10, true)) else (some ((-1), false))))
end
def impl_WalkTo.f (k : Nat) (l0 : List (S46)) (a1 : Int) (a2 : ByteArray) : Option (Int × Bool) := (impl_PathParts.f k a2).bind fun bt550 => (if bt550.2 = true then ((impl_StoreValid.f k l0).bind fun t554 => (impl_WalkTo.j0 k l0 a1 bt550.1 (!t554))) else (impl_WalkTo.j0 k l0 a1 bt550.1 true))
theorem impl_WalkTo.mono_l : ∀ k, (∀ y0 y1 y2 y3, LeO (impl_WalkTo.j0 k y0 y1 y2 y3) (impl_WalkTo.j0 (k + 1) y0 y1 y2 y3)) ∧ (∀ y0 y1 y2 y3 y4, LeO (impl_WalkTo.l0 k y0 y1 y2 y3 y4) (impl_WalkTo.l0 (k + 1) y0 y1 y2 y3 y4))
 | 0 => ⟨fun _ _ _ _ r h => by simp [impl_WalkTo.j0] at h, fun _ _ _ _ _ r h => by simp [impl_WalkTo.l0] at h⟩
 | k + 1 => by
  obtain ⟨ih0, ih1⟩ := impl_WalkTo.mono_l k
  refine ⟨?_, ?_⟩
  ·intro y0 y1 y2 y3
   unfold impl_WalkTo.j0
   repeat' first
   | (with_reducible exact ih0 _ _ _ _)
   | (with_reducible exact ih1 _ _ _ _ _)
   | (with_reducible exact impl_PathParts.mono _ _)
   | (with_reducible exact impl_StoreValid.mono _ _)
   | (with_reducible exact impl_folderOf.mono _ _ _)
   | (with_reducible exact impl_printNamed.mono _ _ _)
   | (with_reducible exact impl_textOf.mono _ _ _)
   | (with_reducible exact LeO.refl _)
   | (with_reducible exact LeO.none _)
   | (with_reducible refine LeO.ite ?_ ?_)
   | (with_reducible refine LeO.bind ?_ (fun _ => ?_))
   | exact ih0 _ _ _ _
   | exact ih1 _ _ _ _ _
   | exact impl_PathParts.mono _ _
   | exact impl_StoreValid.mono _ _
   | exact impl_folderOf.mono _ _ _
   | exact impl_printNamed.mono _ _ _
   | exact impl_textOf.mono _ _ _
   | exact LeO.none _
   | refine LeO.ite ?_ ?_
   | refine LeO.bind ?_ (fun _ => ?_)
  ·intro y0 y1 y2 y3 y4
   unfold impl_WalkTo.l0
   repeat' first
   | (with_reducible exact ih0 _ _ _ _)
   | (with_reducible exact ih1 _ _ _ _ _)
   | (with_reducible exact impl_PathParts.mono _ _)
   | (with_reducible exact impl_StoreValid.mono _ _)
   | (with_reducible exact impl_folderOf.mono _ _ _)
   | (with_reducible exact impl_printNamed.mono _ _ _)
   | (with_reducible exact impl_textOf.mono _ _ _)
   | (with_reducible exact LeO.refl _)
   | (with_reducible exact LeO.none _)
   | (with_reducible refine LeO.ite ?_ ?_)
   | (with_reducible refine LeO.bind ?_ (fun _ => ?_))
   | exact ih0 _ _ _ _
   | exact ih1 _ _ _ _ _
   | exact impl_PathParts.mono _ _
   | exact impl_StoreValid.mono _ _
   | exact impl_folderOf.mono _ _ _
   | exact impl_printNamed.mono _ _ _
   | exact impl_textOf.mono _ _ _
   | exact LeO.none _
   | refine LeO.ite ?_ ?_
   | refine LeO.bind ?_ (fun _ => ?_)
theorem impl_WalkTo.mono : ∀ a0 a1 a2 k, LeO (impl_WalkTo.f k a0 a1 a2) (impl_WalkTo.f (k + 1) a0 a1 a2) := by
 intro a0 a1 a2 k
 obtain ⟨ih0, ih1⟩ := impl_WalkTo.mono_l k
 unfold impl_WalkTo.f
 repeat' first
   | (with_reducible exact ih0 _ _ _ _)
   | (with_reducible exact ih1 _ _ _ _ _)
   | (with_reducible exact impl_PathParts.mono _ _)
   | (with_reducible exact impl_StoreValid.mono _ _)
   | (with_reducible exact impl_folderOf.mono _ _ _)
   | (with_reducible exact impl_printNamed.mono _ _ _)
   | (with_reducible exact impl_textOf.mono _ _ _)
   | (with_reducible exact LeO.refl _)
   | (with_reducible exact LeO.none _)
   | (with_reducible refine LeO.ite ?_ ?_)
   | (with_reducible refine LeO.bind ?_ (fun _ => ?_))
   | exact ih0 _ _ _ _
   | exact ih1 _ _ _ _ _
   | exact impl_PathParts.mono _ _
   | exact impl_StoreValid.mono _ _
   | exact impl_folderOf.mono _ _ _
   | exact impl_printNamed.mono _ _ _
   | exact impl_textOf.mono _ _ _
   | exact LeO.none _
   | refine LeO.ite ?_ ?_
   | refine LeO.bind ?_ (fun _ => ?_)
set_option maxHeartbeats 8000000 in
set_option maxRecDepth 100000 in
theorem impl_WalkTo.calls (k : Nat) (A0 : Option Addr) (c0 : Nat) (l0 : List (S46)) (a1 : Int) (a2 : ByteArray) (r1 : Int) (r2 : Bool) (w : World) (hr0 : Kd.C k46 w A0 l0.length l0) (hc0 : l0.length ≤ c0) (hG : GT w) (h : impl_WalkTo.f k l0 a1 a2 = some (r1, r2)) :
  Calls Tryz.prog 71 #[.slice A0 l0.length c0, .int .i64 a1, .string a2] w fun e w' => e = .returned (.tuple #[.int .i64 r1, .bool r2]) ∧ Below w.heap.size w w' := by
 have HR0 := Aside0.mk hr0
 have HC0 := Aside0.mk hc0
 clear hr0 hc0
 have HB := Aside0.mk (Below.refl w.heap.size w)
 have H : ((impl_PathParts.f k a2).bind fun bt550 => (if bt550.2 = true then ((impl_StoreValid.f k l0).bind fun t554 => (impl_WalkTo.j0 k l0 a1 bt550.1 (!t554))) else (impl_WalkTo.j0 k l0 a1 bt550.1 true))) = some (r1, r2) := h
 clear h
 replace H := Option.bind_eq_some_iff.mp H
 obtain ⟨⟨t550, t551⟩, A40, H⟩ := H
 replace H : (if t551 = true then ((impl_StoreValid.f k l0).bind fun t554 => (impl_WalkTo.j0 k l0 a1 t550 (!t554))) else (impl_WalkTo.j0 k l0 a1 t550 true)) = some (r1, r2) := H
 have A4 := Aside0.mk A40
 clear A40
 have HC5 := Aside0.mk H
 clear H
 go_enter Tryz.func71, Tryz.ntmps71
 go_upto_region 2 with (first | ((with_reducible refine gate_callee (f := 33) rfl ?_); refine goesL_ (some 21) rfl rfl Tryz.func33 (by kernel_rfl) rfl #[.string a2] rfl sl_ ?_; (with_reducible refine (impl_PathParts.calls k a2 t550 t551 _ A4.out).mono ?_); rintro e w6 ⟨v552, rfl, ho0, hb⟩; refine ⟨_, rfl, ?_⟩; have HO553 := Aside0.mk (Kd.R_lower ho0 (below_size hb_)); replace HB := Aside0.mk (below_step hb_ hb); (try clear hb); (try clear ho0)))
 (try simp only [Act.put, List.setIfInBounds_toArray, List.set_cons_zero, List.set_cons_succ])
 go_cut [30] (fun v30 wc => ∃ (kq : Nat) (x30_4 : Bool), v30 = .bool x30_4 ∧ Aside0 (impl_WalkTo.j0 kq l0 a1 t550 x30_4 = some (r1, r2)) ∧ Aside0 (kq ≤ k) ∧ Aside0 (Kd.R Kd.string 9 wc w.heap.size (fun _ => True) v552 t550) ∧ Aside0 (Below w.heap.size w wc))
 case first =>
  have H := HC5.out
  clear HC5
  by_cases c7 : t551 = true
  ·subst c7
   have H1 : ((impl_StoreValid.f k l0).bind fun t554 => (impl_WalkTo.j0 k l0 a1 t550 (!t554))) = some (r1, r2) := by rw [if_pos rfl] at H; exact H
   clear H
   have H := H1
   clear H1
   replace H := Option.bind_eq_some_iff.mp H
   obtain ⟨t554, A80, H⟩ := H
   replace H : (impl_WalkTo.j0 k l0 a1 t550 (!t554)) = some (r1, r2) := H
   have A8 := Aside0.mk A80
   clear A80
   have H' := Aside0.mk H
   clear H
   go_wp2_with (first | (go_at_call 40; (with_reducible refine (impl_StoreValid.calls k _ _ l0 t554 _ ?side1 ?side2 A8.out).mono ?_); (case side1 => exact kC_ (Kd.C_below HR0.out HB.out)); (case side2 => exact HC0.out); rintro e w9 ⟨rfl, hb⟩; replace HO553 := Aside0.mk (Kd.R_below (kR_ HO553.out) hb); replace HB := Aside0.mk (below_step hb_ hb); (try clear hb)))
   go_meet
   case rel => exact ⟨_, (!t554), (by first | rfl | (simp; done) | (simp [*]; done)), H', ⟨by first | omega | exact Nat.le_refl _⟩, ⟨by (with_reducible repeat (first | apply Kd.R_alloc | apply Kd.R_drewN | apply Kd.R_drew)); exact HO553.out⟩, ⟨hb_⟩⟩
  ·replace c7 := Bool.eq_false_iff.mpr c7
   subst c7
   have H1 : (impl_WalkTo.j0 k l0 a1 t550 true) = some (r1, r2) := by rw [if_neg (show ¬ (false = true) by decide)] at H; exact H
   clear H
   have H := H1
   clear H1
   have H' := Aside0.mk H
   clear H
   go_wp2
   go_meet
   case rel => exact ⟨_, (true), (by first | rfl | (simp; done) | (simp [*]; done)), H', ⟨by first | omega | exact Nat.le_refl _⟩, ⟨by (with_reducible repeat (first | apply Kd.R_alloc | apply Kd.R_drewN | apply Kd.R_drew)); exact HO553.out⟩, ⟨hb_⟩⟩
 case rest =>
  clear HC5
  try clear p2
  try clear c3
  try clear c7
  obtain ⟨kq, x30_4, rfl, HA, HJ4, HO_8, HB⟩ := hcut
  cases kq with
  | zero => exact absurd HA.out (by simp [impl_WalkTo.j0])
  | succ kj4 =>
   have H := HA.out
   clear HA
   simp only [impl_WalkTo.j0] at H
   by_cases c10 : x30_4 = true
   ·subst c10
    have H1 : (some ((-1), false)) = some (r1, r2) := by rw [if_pos rfl] at H; exact H
    clear H
    have H := H1
    clear H1
    simp only [Option.some.injEq, Prod.mk.injEq] at H
    obtain ⟨rfl, rfl⟩ := H
    go_wp2
    go_ret2
    exact ⟨er_, hb_⟩
   ·replace c10 := Bool.eq_false_iff.mpr c10
    subst c10
    have H1 : (impl_WalkTo.l0 kj4 l0 a1 t550 (t550.length : Int) 0) = some (r1, r2) := by rw [if_neg (show ¬ (false = true) by decide)] at H; exact H
    clear H
    have H := H1
    clear H1
    have H' := Aside0.mk H
    clear H
    obtain ⟨Ao11, co11, eo11⟩ := Kd.R_slice HO_8.out
    subst eo11
    go_wp2
    go_loopg [10, 34] kj4 (fun kq v10 v34 w' => ∃ (x10_2 : Int) (x34_2 : Int), v10 = .int .i64 x10_2 ∧ v34 = .int .i64 x34_2 ∧ Aside0 (impl_WalkTo.l0 kq l0 x10_2 t550 (t550.length : Int) x34_2 = some (r1, r2)) ∧ Aside0 (kq ≤ kj4) ∧ Aside0 (Kd.R Kd.string 9 w' w.heap.size (fun _ => True) (.slice Ao11 t550.length co11) t550) ∧ Aside0 (Below w.heap.size w w'))
    case atStart => exact ⟨(a1), (0), (by first | rfl | (simp; done) | (simp [*]; done)), (by first | rfl | (simp; done) | (simp [*]; done)), H', ⟨Nat.le_refl _⟩, ⟨by (with_reducible repeat (first | apply Kd.R_alloc | apply Kd.R_drewN | apply Kd.R_drew)); exact HO_8.out⟩, ⟨hb_⟩⟩
    case round =>
     clear H'
     try clear c1
     try clear p2
     try clear c3
     try clear c7
     try clear c10
     try clear p2
     obtain ⟨x10_2, x34_2, rfl, rfl, HA, HK2, HO_32, HB⟩ := hrel
     cases gk with
     | zero => exact absurd HA.out (by simp [impl_WalkTo.l0])
     | succ k2 =>
      have H := HA.out
      clear HA
      simp only [impl_WalkTo.l0] at H
      by_cases c12 : x34_2 < (t550.length : Int)
      ·rw [if_pos c12] at H
       have c12b0 : decide (x34_2 < (t550.length : Int)) = true := decide_eq_true c12
       clear c12
       by_cases c13 : 0 ≤ x34_2
       ·rw [if_pos c13] at H
        have c13b0 : decide (0 ≤ x34_2) = true := decide_eq_true c13
        clear c13
        by_cases c14 : x34_2 < (t550.length : Int)
        ·rw [if_pos c14] at H
         have c14b0 : decide (x34_2 < (t550.length : Int)) = true := decide_eq_true c14
         clear c14
         replace H := Option.bind_eq_some_iff.mp H
         obtain ⟨⟨t556, t557⟩, A150, H⟩ := H
         replace H : (if t557 = true then ((impl_printNamed.f k2 t556 (rdOf ByteArray.empty t550 x34_2)).bind fun bt560 => (if bt560.2 = true then (impl_WalkTo.l0 k2 l0 bt560.1 t550 (t550.length : Int) (wrap64 (x34_2 + 1))) else (some ((-1), false)))) else (some ((-1), false))) = some (r1, r2) := H
         have A15 := Aside0.mk A150
         clear A150
         by_cases c16 : t557 = true
         ·subst c16
          have H1 : ((impl_printNamed.f k2 t556 (rdOf ByteArray.empty t550 x34_2)).bind fun bt560 => (if bt560.2 = true then (impl_WalkTo.l0 k2 l0 bt560.1 t550 (t550.length : Int) (wrap64 (x34_2 + 1))) else (some ((-1), false)))) = some (r1, r2) := by rw [if_pos rfl] at H; exact H
          clear H
          have H := H1
          clear H1
          replace H := Option.bind_eq_some_iff.mp H
          obtain ⟨⟨t560, t561⟩, A170, H⟩ := H
          replace H : (if t561 = true then (impl_WalkTo.l0 k2 l0 t560 t550 (t550.length : Int) (wrap64 (x34_2 + 1))) else (some ((-1), false))) = some (r1, r2) := H
          have A17 := Aside0.mk A170
          clear A170
          by_cases c18 : t561 = true
          ·subst c18
           have H1 : (impl_WalkTo.l0 k2 l0 t560 t550 (t550.length : Int) (wrap64 (x34_2 + 1))) = some (r1, r2) := by rw [if_pos rfl] at H; exact H
           clear H
           have H := H1
           clear H1
           have H' := Aside0.mk H
           clear H
           have p555 : 0 ≤ (x34_2 : Int) := of_decide_eq_true ma_
           have q555 : x34_2 < (t550.length : Int) := of_decide_eq_true ma_
           obtain ⟨ad555, e555, hx555_0⟩ := Kd.at_string (Kd.R_reads' HO_32.out).2.2 x34_2 p555 q555
           cases e555
           replace p555 := eq_true p555
           replace q555 := eq_true q555
           go_wp2_with (first | ((with_reducible refine gate_callee (f := 73) rfl ?_); refine goesL_ (some 41) rfl rfl Tryz.func73 (by kernel_rfl) rfl #[.slice A0 l0.length c0, .int .i64 x10_2] rfl sl_ ?_; (with_reducible refine (impl_folderOf.calls k2 _ _ l0 x10_2 t556 true _ ?side1 ?side2 (GT_on hb_ hG) A15.out).mono ?_); (case side1 => exact kC_ (Kd.C_below HR0.out HB.out)); (case side2 => exact HC0.out); rintro e w19 ⟨v558, rfl, ho0, hb⟩; refine ⟨_, rfl, ?_⟩; replace HO_32 := Aside0.mk (Kd.R_below (kR_ HO_32.out) hb); have HO559 := Aside0.mk (Kd.R_lower ho0 (below_size hb_)); replace HB := Aside0.mk (below_step hb_ hb); (try clear hb); (try clear ho0); obtain ⟨Ao20, co20, eo20⟩ := Kd.R_slice HO559.out; subst eo20) | ((with_reducible refine gate_callee (f := 43) rfl ?_); refine goesL_ (some 49) rfl rfl Tryz.func43 (by kernel_rfl) rfl #[.slice Ao20 t556.length co20, .string (rdOf ByteArray.empty t550 x34_2)] rfl sl_ ?_; (with_reducible refine (impl_printNamed.calls k2 _ _ t556 (rdOf ByteArray.empty t550 x34_2) t560 true _ ?side1 ?side2 A17.out).mono ?_); (case side1 => exact kC_ ((Kd.R_reads' HO559.out).2.2)); (case side2 => exact (Kd.R_reads' HO559.out).2.1); rintro e w21 ⟨rfl, hb⟩; refine ⟨_, rfl, ?_⟩; replace HO_32 := Aside0.mk (Kd.R_below (kR_ HO_32.out) hb); replace HO559 := Aside0.mk (Kd.R_below (kR_ HO559.out) hb); replace HB := Aside0.mk (below_step hb_ hb); (try clear hb)))
           go_roundg k2
           case measure => have := HJ4.out; have := HK2.out; omega
           case rel => exact ⟨(t560), (wrap64 (x34_2 + 1)), (by first | rfl | (simp; done) | (simp [*]; done)), (by first | rfl | (simp; done) | (simp [*]; done)), H', ⟨by have := HJ4.out; have := HK2.out; omega⟩, ⟨by (with_reducible repeat (first | apply Kd.R_alloc | apply Kd.R_drewN | apply Kd.R_drew)); exact HO_32.out⟩, ⟨hb_⟩⟩
          ·replace c18 := Bool.eq_false_iff.mpr c18
           subst c18
           have H1 : (some ((-1), false)) = some (r1, r2) := by rw [if_neg (show ¬ (false = true) by decide)] at H; exact H
           clear H
           have H := H1
           clear H1
           simp only [Option.some.injEq, Prod.mk.injEq] at H
           obtain ⟨rfl, rfl⟩ := H
           have p555 : 0 ≤ (x34_2 : Int) := of_decide_eq_true ma_
           have q555 : x34_2 < (t550.length : Int) := of_decide_eq_true ma_
           obtain ⟨ad555, e555, hx555_0⟩ := Kd.at_string (Kd.R_reads' HO_32.out).2.2 x34_2 p555 q555
           cases e555
           replace p555 := eq_true p555
           replace q555 := eq_true q555
           go_wp2_with (first | ((with_reducible refine gate_callee (f := 73) rfl ?_); refine goesL_ (some 41) rfl rfl Tryz.func73 (by kernel_rfl) rfl #[.slice A0 l0.length c0, .int .i64 x10_2] rfl sl_ ?_; (with_reducible refine (impl_folderOf.calls k2 _ _ l0 x10_2 t556 true _ ?side1 ?side2 (GT_on hb_ hG) A15.out).mono ?_); (case side1 => exact kC_ (Kd.C_below HR0.out HB.out)); (case side2 => exact HC0.out); rintro e w22 ⟨v558, rfl, ho0, hb⟩; refine ⟨_, rfl, ?_⟩; replace HO_32 := Aside0.mk (Kd.R_below (kR_ HO_32.out) hb); have HO559 := Aside0.mk (Kd.R_lower ho0 (below_size hb_)); replace HB := Aside0.mk (below_step hb_ hb); (try clear hb); (try clear ho0); obtain ⟨Ao23, co23, eo23⟩ := Kd.R_slice HO559.out; subst eo23) | ((with_reducible refine gate_callee (f := 43) rfl ?_); refine goesL_ (some 49) rfl rfl Tryz.func43 (by kernel_rfl) rfl #[.slice Ao23 t556.length co23, .string (rdOf ByteArray.empty t550 x34_2)] rfl sl_ ?_; (with_reducible refine (impl_printNamed.calls k2 _ _ t556 (rdOf ByteArray.empty t550 x34_2) t560 false _ ?side1 ?side2 A17.out).mono ?_); (case side1 => exact kC_ ((Kd.R_reads' HO559.out).2.2)); (case side2 => exact (Kd.R_reads' HO559.out).2.1); rintro e w24 ⟨rfl, hb⟩; refine ⟨_, rfl, ?_⟩; replace HO_32 := Aside0.mk (Kd.R_below (kR_ HO_32.out) hb); replace HO559 := Aside0.mk (Kd.R_below (kR_ HO559.out) hb); replace HB := Aside0.mk (below_step hb_ hb); (try clear hb)))
           go_ret2
           exact ⟨er_, hb_⟩
         ·replace c16 := Bool.eq_false_iff.mpr c16
          subst c16
          have H1 : (some ((-1), false)) = some (r1, r2) := by rw [if_neg (show ¬ (false = true) by decide)] at H; exact H
          clear H
          have H := H1
          clear H1
          simp only [Option.some.injEq, Prod.mk.injEq] at H
          obtain ⟨rfl, rfl⟩ := H
          have p555 : 0 ≤ (x34_2 : Int) := of_decide_eq_true ma_
          have q555 : x34_2 < (t550.length : Int) := of_decide_eq_true ma_
          obtain ⟨ad555, e555, hx555_0⟩ := Kd.at_string (Kd.R_reads' HO_32.out).2.2 x34_2 p555 q555
          cases e555
          replace p555 := eq_true p555
          replace q555 := eq_true q555
          go_wp2_with (first | ((with_reducible refine gate_callee (f := 73) rfl ?_); refine goesL_ (some 41) rfl rfl Tryz.func73 (by kernel_rfl) rfl #[.slice A0 l0.length c0, .int .i64 x10_2] rfl sl_ ?_; (with_reducible refine (impl_folderOf.calls k2 _ _ l0 x10_2 t556 false _ ?side1 ?side2 (GT_on hb_ hG) A15.out).mono ?_); (case side1 => exact kC_ (Kd.C_below HR0.out HB.out)); (case side2 => exact HC0.out); rintro e w25 ⟨v558, rfl, ho0, hb⟩; refine ⟨_, rfl, ?_⟩; replace HO_32 := Aside0.mk (Kd.R_below (kR_ HO_32.out) hb); have HO559 := Aside0.mk (Kd.R_lower ho0 (below_size hb_)); replace HB := Aside0.mk (below_step hb_ hb); (try clear hb); (try clear ho0)))
          go_ret2
          exact ⟨er_, hb_⟩
        ·rw [if_neg c14] at H
         exact absurd H (by simp)
       ·rw [if_neg c13] at H
        exact absurd H (by simp)
      ·rw [if_neg c12] at H
       have c12b0 : decide (x34_2 < (t550.length : Int)) = false := decide_eq_false c12
       clear c12
       replace H := Option.bind_eq_some_iff.mp H
       obtain ⟨⟨t562, t563⟩, A260, H⟩ := H
       replace H : (if t563 = true then (some (x10_2, true)) else (some ((-1), false))) = some (r1, r2) := H
       have A26 := Aside0.mk A260
       clear A260
       by_cases c27 : t563 = true
       ·subst c27
        have H1 : (some (x10_2, true)) = some (r1, r2) := by rw [if_pos rfl] at H; exact H
        clear H
        have H := H1
        clear H1
        simp only [Option.some.injEq, Prod.mk.injEq] at H
        obtain ⟨rfl, rfl⟩ := H
        go_wp2_with (first | ((with_reducible refine gate_callee (f := 41) rfl ?_); refine goesL_ (some 59) rfl rfl Tryz.func41 (by kernel_rfl) rfl #[.slice A0 l0.length c0, .int .i64 x10_2] rfl sl_ ?_; (with_reducible refine (impl_textOf.calls k2 _ _ l0 x10_2 t562 true _ ?side1 ?side2 A26.out).mono ?_); (case side1 => exact kC_ (Kd.C_below HR0.out HB.out)); (case side2 => exact HC0.out); rintro e w28 ⟨rfl, hb⟩; refine ⟨_, rfl, ?_⟩; replace HO_32 := Aside0.mk (Kd.R_below (kR_ HO_32.out) hb); replace HB := Aside0.mk (below_step hb_ hb); (try clear hb)))
        go_ret2
        exact ⟨er_, hb_⟩
       ·replace c27 := Bool.eq_false_iff.mpr c27
        subst c27
        have H1 : (some ((-1), false)) = some (r1, r2) := by rw [if_neg (show ¬ (false = true) by decide)] at H; exact H
        clear H
        have H := H1
        clear H1
        simp only [Option.some.injEq, Prod.mk.injEq] at H
        obtain ⟨rfl, rfl⟩ := H
        go_wp2_with (first | ((with_reducible refine gate_callee (f := 41) rfl ?_); refine goesL_ (some 59) rfl rfl Tryz.func41 (by kernel_rfl) rfl #[.slice A0 l0.length c0, .int .i64 x10_2] rfl sl_ ?_; (with_reducible refine (impl_textOf.calls k2 _ _ l0 x10_2 t562 false _ ?side1 ?side2 A26.out).mono ?_); (case side1 => exact kC_ (Kd.C_below HR0.out HB.out)); (case side2 => exact HC0.out); rintro e w29 ⟨rfl, hb⟩; refine ⟨_, rfl, ?_⟩; replace HO_32 := Aside0.mk (Kd.R_below (kR_ HO_32.out) hb); replace HB := Aside0.mk (below_step hb_ hb); (try clear hb)))
        go_ret2
        exact ⟨er_, hb_⟩
/-! ### impl_ReadAt: function 45 -/
def impl_ReadAt.f (k : Nat) (l0 : List (S46)) (a1 : Int) (a2 : ByteArray) : Option (ByteArray × Bool) := (impl_WalkTo.f k l0 a1 a2).bind fun bt564 => (if bt564.2 = true then ((impl_fileOf.f k l0 bt564.1).bind fun bt566 => (some (bt566.1, bt566.2))) else (some ((⟨#[]⟩ : ByteArray), false)))
theorem impl_ReadAt.mono : ∀ a0 a1 a2 k, LeO (impl_ReadAt.f k a0 a1 a2) (impl_ReadAt.f (k + 1) a0 a1 a2) := by
 intro a0 a1 a2 k
 unfold impl_ReadAt.f
 repeat' first
   | (with_reducible exact impl_WalkTo.mono _ _ _ _)
   | (with_reducible exact impl_fileOf.mono _ _ _)
   | (with_reducible exact LeO.refl _)
   | (with_reducible exact LeO.none _)
   | (with_reducible refine LeO.ite ?_ ?_)
   | (with_reducible refine LeO.bind ?_ (fun _ => ?_))
   | exact impl_WalkTo.mono _ _ _ _
   | exact impl_fileOf.mono _ _ _
   | exact LeO.none _
   | refine LeO.ite ?_ ?_
   | refine LeO.bind ?_ (fun _ => ?_)
set_option maxHeartbeats 8000000 in
set_option maxRecDepth 100000 in
theorem impl_ReadAt.calls (k : Nat) (A0 : Option Addr) (c0 : Nat) (l0 : List (S46)) (a1 : Int) (a2 : ByteArray) (r1 : ByteArray) (r2 : Bool) (w : World) (hr0 : Kd.C k46 w A0 l0.length l0) (hc0 : l0.length ≤ c0) (hG : GT w) (h : impl_ReadAt.f k l0 a1 a2 = some (r1, r2)) :
  Calls Tryz.prog 45 #[.slice A0 l0.length c0, .int .i64 a1, .string a2] w fun e w' => e = .returned (.tuple #[.string r1, .bool r2]) ∧ Below w.heap.size w w' := by
 have HR0 := Aside0.mk hr0
 have HC0 := Aside0.mk hc0
 clear hr0 hc0
 have HB := Aside0.mk (Below.refl w.heap.size w)
 have H : ((impl_WalkTo.f k l0 a1 a2).bind fun bt564 => (if bt564.2 = true then ((impl_fileOf.f k l0 bt564.1).bind fun bt566 => (some (bt566.1, bt566.2))) else (some ((⟨#[]⟩ : ByteArray), false)))) = some (r1, r2) := h
 clear h
 replace H := Option.bind_eq_some_iff.mp H
 obtain ⟨⟨t564, t565⟩, A40, H⟩ := H
 replace H : (if t565 = true then ((impl_fileOf.f k l0 t564).bind fun bt566 => (some (bt566.1, bt566.2))) else (some ((⟨#[]⟩ : ByteArray), false))) = some (r1, r2) := H
 have A4 := Aside0.mk A40
 clear A40
 by_cases c5 : t565 = true
 ·subst c5
  have H1 : ((impl_fileOf.f k l0 t564).bind fun bt566 => (some (bt566.1, bt566.2))) = some (r1, r2) := by rw [if_pos rfl] at H; exact H
  clear H
  have H := H1
  clear H1
  replace H := Option.bind_eq_some_iff.mp H
  obtain ⟨⟨t566, t567⟩, A60, H⟩ := H
  replace H : (some (t566, t567)) = some (r1, r2) := H
  have A6 := Aside0.mk A60
  clear A60
  simp only [Option.some.injEq, Prod.mk.injEq] at H
  obtain ⟨rfl, rfl⟩ := H
  go_enter Tryz.func45, Tryz.ntmps45
  go_wp2_with (first | ((with_reducible refine gate_callee (f := 71) rfl ?_); refine goesL_ (some 14) rfl rfl Tryz.func71 (by kernel_rfl) rfl #[.slice A0 l0.length c0, .int .i64 a1, .string a2] rfl sl_ ?_; (with_reducible refine (impl_WalkTo.calls k _ _ l0 a1 a2 t564 true _ ?side1 ?side2 (GT_on hb_ hG) A4.out).mono ?_); (case side1 => exact kC_ HR0.out); (case side2 => exact HC0.out); rintro e w7 ⟨rfl, hb⟩; refine ⟨_, rfl, ?_⟩; replace HB := Aside0.mk (below_step hb_ hb); (try clear hb)) | ((with_reducible refine gate_callee (f := 72) rfl ?_); refine goesL_ (some 21) rfl rfl Tryz.func72 (by kernel_rfl) rfl #[.slice A0 l0.length c0, .int .i64 t564] rfl sl_ ?_; (with_reducible refine (impl_fileOf.calls k _ _ l0 t564 t566 t567 _ ?side1 ?side2 A6.out).mono ?_); (case side1 => exact kC_ (Kd.C_below HR0.out HB.out)); (case side2 => exact HC0.out); rintro e w8 ⟨rfl, hb⟩; refine ⟨_, rfl, ?_⟩; replace HB := Aside0.mk (below_step hb_ hb); (try clear hb)))
  go_ret2
  exact ⟨er_, hb_⟩
 ·replace c5 := Bool.eq_false_iff.mpr c5
  subst c5
  have H1 : (some ((⟨#[]⟩ : ByteArray), false)) = some (r1, r2) := by rw [if_neg (show ¬ (false = true) by decide)] at H; exact H
  clear H
  have H := H1
  clear H1
  simp only [Option.some.injEq, Prod.mk.injEq] at H
  obtain ⟨rfl, rfl⟩ := H
  go_enter Tryz.func45, Tryz.ntmps45
  go_wp2_with (first | ((with_reducible refine gate_callee (f := 71) rfl ?_); refine goesL_ (some 14) rfl rfl Tryz.func71 (by kernel_rfl) rfl #[.slice A0 l0.length c0, .int .i64 a1, .string a2] rfl sl_ ?_; (with_reducible refine (impl_WalkTo.calls k _ _ l0 a1 a2 t564 false _ ?side1 ?side2 (GT_on hb_ hG) A4.out).mono ?_); (case side1 => exact kC_ HR0.out); (case side2 => exact HC0.out); rintro e w9 ⟨rfl, hb⟩; refine ⟨_, rfl, ?_⟩; replace HB := Aside0.mk (below_step hb_ hb); (try clear hb)))
  go_ret2
  exact ⟨er_, hb_⟩
end Go.Proofs.YtjgbidklkhohfaaGreatDoor.P
