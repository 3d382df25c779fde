-- The functions of the seat as plain Lean functions, made by the kit's print.py for all laws at once. Not trusted: Lean checks it.
import Derived.Test.YtjgbidklkhohfaaPx0
import Derived.Test.YtjgbidklkhohfaaPx6
import Derived.Test.YtjgbidklkhohfaaPx10
namespace Go.Proofs.Ytjgbidklkhohfaa.P
open Go.RowKit Go.Proofs.YtjgbidklkhohfaaW.PrintWords Go.Proofs.YtjgbidklkhohfaaW.PrintLast Go.Proofs.YtjgbidklkhohfaaW.PrintMore
attribute [local go_sem] max2_int min2_int max_two min_two max_three min_three max_four min_four   -- for this text's walks alone
set_option linter.unusedVariables false
set_option linter.unusedSimpArgs false
/-! ### spec_ReadAt: function 17 -/
def spec_ReadAt.f (k : Nat) (l0 : List (S45)) (a1 : Int) (a2 : ByteArray) : Option (ByteArray × Bool) := (spec_WalkTo.f k l0 a1 a2).bind fun bt605 => ((spec_GetText.f k l0 bt605.1).bind fun bt607 => (if bt605.2 = true then ((spec_ReadFile.f k bt607.1).bind fun bt609 => (some (bt609.1, bt609.2))) else (some ((⟨#[]⟩ : ByteArray), false))))
theorem spec_ReadAt.mono : ∀ a0 a1 a2 k, LeO (spec_ReadAt.f k a0 a1 a2) (spec_ReadAt.f (k + 1) a0 a1 a2) := by
 intro a0 a1 a2 k
 unfold spec_ReadAt.f
 repeat' first
   | (with_reducible exact spec_GetText.mono _ _ _)
   | (with_reducible exact spec_ReadFile.mono _ _)
   | (with_reducible exact spec_WalkTo.mono _ _ _ _)
   | (with_reducible exact LeO.refl _)
   | (with_reducible exact LeO.none _)
   | (with_reducible refine LeO.ite ?_ ?_)
   | (with_reducible refine LeO.bind ?_ (fun _ => ?_))
   | exact spec_GetText.mono _ _ _
   | exact spec_ReadFile.mono _ _
   | exact spec_WalkTo.mono _ _ _ _
   | exact LeO.none _
   | refine LeO.ite ?_ ?_
   | refine LeO.bind ?_ (fun _ => ?_)
set_option maxHeartbeats 8000000 in
set_option maxRecDepth 100000 in
theorem spec_ReadAt.calls (k : Nat) (A0 : Option Addr) (c0 : Nat) (l0 : List (S45)) (a1 : Int) (a2 : ByteArray) (r1 : ByteArray) (r2 : Bool) (w : World) (hr0 : Kd.C k45 w A0 l0.length l0) (hc0 : l0.length ≤ c0) (h : spec_ReadAt.f k l0 a1 a2 = some (r1, r2)) :
  Calls Try.prog 17 #[.slice A0 l0.length c0, .int .i64 a1, .string a2] w fun e w' => e = .returned (.tuple #[.string r1, .bool r2]) ∧ Below w.heap.size w w' := by
 have HR0 := Aside0.mk hr0
 have HC0 := Aside0.mk hc0
 clear hr0 hc0
 have HB := Aside0.mk (Below.refl w.heap.size w)
 have H : ((spec_WalkTo.f k l0 a1 a2).bind fun bt605 => ((spec_GetText.f k l0 bt605.1).bind fun bt607 => (if bt605.2 = true then ((spec_ReadFile.f k bt607.1).bind fun bt609 => (some (bt609.1, bt609.2))) else (some ((⟨#[]⟩ : ByteArray), false))))) = some (r1, r2) := h
 clear h
 replace H := Option.bind_eq_some_iff.mp H
 obtain ⟨⟨t605, t606⟩, A40, H⟩ := H
 replace H : ((spec_GetText.f k l0 t605).bind fun bt607 => (if t606 = true then ((spec_ReadFile.f k bt607.1).bind fun bt609 => (some (bt609.1, bt609.2))) else (some ((⟨#[]⟩ : ByteArray), false)))) = some (r1, r2) := H
 have A4 := Aside0.mk A40
 clear A40
 replace H := Option.bind_eq_some_iff.mp H
 obtain ⟨⟨t607, t608⟩, A50, H⟩ := H
 replace H : (if t606 = true then ((spec_ReadFile.f k t607).bind fun bt609 => (some (bt609.1, bt609.2))) else (some ((⟨#[]⟩ : ByteArray), false))) = some (r1, r2) := H
 have A5 := Aside0.mk A50
 clear A50
 by_cases c6 : t606 = true
 ·subst c6
  have H1 : ((spec_ReadFile.f k t607).bind fun bt609 => (some (bt609.1, bt609.2))) = some (r1, r2) := by rw [if_pos rfl] at H; exact H
  clear H
  have H := H1
  clear H1
  replace H := Option.bind_eq_some_iff.mp H
  obtain ⟨⟨t609, t610⟩, A70, H⟩ := H
  replace H : (some (t609, t610)) = some (r1, r2) := H
  have A7 := Aside0.mk A70
  clear A70
  simp only [Option.some.injEq, Prod.mk.injEq] at H
  obtain ⟨rfl, rfl⟩ := H
  go_enter Try.func17, Try.ntmps17
  go_wp2_with (first | ((with_reducible refine gate_callee (f := 27) rfl ?_); refine goesL_ (some 16) rfl rfl Try.func27 (by kernel_rfl) rfl #[.slice A0 l0.length c0, .int .i64 a1, .string a2] rfl sl_ ?_; (with_reducible refine (spec_WalkTo.calls k _ _ l0 a1 a2 t605 true _ ?side1 ?side2 A4.out).mono ?_); (case side1 => exact kC_ HR0.out); (case side2 => exact HC0.out); rintro e w8 ⟨rfl, hb⟩; refine ⟨_, rfl, ?_⟩; replace HB := Aside0.mk (below_step hb_ hb); (try clear hb)) | ((with_reducible refine gate_callee (f := 28) rfl ?_); refine goesL_ (some 22) rfl rfl Try.func28 (by kernel_rfl) rfl #[.slice A0 l0.length c0, .int .i64 t605] rfl sl_ ?_; (with_reducible refine (spec_GetText.calls k _ _ l0 t605 t607 t608 _ ?side1 ?side2 A5.out).mono ?_); (case side1 => exact kC_ (Kd.C_below HR0.out HB.out)); (case side2 => exact HC0.out); rintro e w9 ⟨rfl, hb⟩; refine ⟨_, rfl, ?_⟩; replace HB := Aside0.mk (below_step hb_ hb); (try clear hb)) | ((with_reducible refine gate_callee (f := 29) rfl ?_); refine goesL_ (some 28) rfl rfl Try.func29 (by kernel_rfl) rfl #[.string t607] rfl sl_ ?_; (with_reducible refine (spec_ReadFile.calls k t607 t609 t610 _ A7.out).mono ?_); rintro e w' ⟨rfl, ⟨nd, rfl⟩⟩; refine ⟨_, rfl, ?_⟩))
  go_ret2
  exact ⟨er_, hb_⟩
 ·replace c6 := Bool.eq_false_iff.mpr c6
  subst c6
  have H1 : (some ((⟨#[]⟩ : ByteArray), false)) = some (r1, r2) := by rw [if_neg (show ¬ (false = true) by decide)] at H; exact H
  clear H
  have H := H1
  clear H1
  simp only [Option.some.injEq, Prod.mk.injEq] at H
  obtain ⟨rfl, rfl⟩ := H
  go_enter Try.func17, Try.ntmps17
  go_wp2_with (first | ((with_reducible refine gate_callee (f := 27) rfl ?_); refine goesL_ (some 16) rfl rfl Try.func27 (by kernel_rfl) rfl #[.slice A0 l0.length c0, .int .i64 a1, .string a2] rfl sl_ ?_; (with_reducible refine (spec_WalkTo.calls k _ _ l0 a1 a2 t605 false _ ?side1 ?side2 A4.out).mono ?_); (case side1 => exact kC_ HR0.out); (case side2 => exact HC0.out); rintro e w10 ⟨rfl, hb⟩; refine ⟨_, rfl, ?_⟩; replace HB := Aside0.mk (below_step hb_ hb); (try clear hb)) | ((with_reducible refine gate_callee (f := 28) rfl ?_); refine goesL_ (some 22) rfl rfl Try.func28 (by kernel_rfl) rfl #[.slice A0 l0.length c0, .int .i64 t605] rfl sl_ ?_; (with_reducible refine (spec_GetText.calls k _ _ l0 t605 t607 t608 _ ?side1 ?side2 A5.out).mono ?_); (case side1 => exact kC_ (Kd.C_below HR0.out HB.out)); (case side2 => exact HC0.out); rintro e w11 ⟨rfl, hb⟩; refine ⟨_, rfl, ?_⟩; replace HB := Aside0.mk (below_step hb_ hb); (try clear hb)))
  go_ret2
  exact ⟨er_, hb_⟩
/-! ### spec_ChangesOf: function 9 -/
mutual
def spec_ChangesOf.l0 : Nat → List (S45) → Int → Int → List (S37) → List ByteArray → List ByteArray → Int → Option ((List (S37)))
 | 0, _, _, _, _, _, _, _ => none
 | k + 1, x0, x1, x2, x7, x8, x9, x10 => if x10 < (x8.length : Int) then (if 0 ≤ x10 then ((spec_ReadAt.f k x0 x2 (rdOf ByteArray.empty x8 x10)).bind fun bt621 => (if bt621.2 = true then (spec_ChangesOf.l0 k x0 x1 x2 x7 x8 x9 (wrap64 (x10 + 1))) else (if x7.length < 5864062014805 then (spec_ChangesOf.l0 k x0 x1 x2 (x7 ++ [(⟨rdOf ByteArray.empty x8 x10, 2⟩ : S37)]) x8 x9 (wrap64 (x10 + 1))) else (none)))) else (none)) else (spec_ChangesOf.l1 k x0 x1 x2 x7 x9 0)
def spec_ChangesOf.l1 : Nat → List (S45) → Int → Int → List (S37) → List ByteArray → Int → Option ((List (S37)))
 | 0, _, _, _, _, _, _ => none
 | k + 1, x0, x1, x2, x7, x9, x13 => if x13 < (x9.length : Int) then (if 0 ≤ x13 then ((spec_ReadAt.f k x0 x2 (rdOf ByteArray.empty x9 x13)).bind fun bt628 => ((spec_ReadAt.f k x0 x1 (rdOf ByteArray.empty x9 x13)).bind fun bt631 => (if bt631.2 = true then (if bt631.1.toList = bt628.1.toList then (spec_ChangesOf.l1 k x0 x1 x2 x7 x9 (wrap64 (x13 + 1))) else (if x7.length < 5864062014805 then (spec_ChangesOf.l1 k x0 x1 x2 (x7 ++ [(⟨rdOf ByteArray.empty x9 x13, 1⟩ : S37)]) x9 (wrap64 (x13 + 1))) else (none))) else (if x7.length < 5864062014805 then (spec_ChangesOf.l1 k x0 x1 x2 (x7 ++ [(⟨rdOf ByteArray.empty x9 x13, 0⟩ : S37)]) x9 (wrap64 (x13 + 1))) else (none))))) else (none)) else (some x7)
end
def spec_ChangesOf.f (k : Nat) (l0 : List (S45)) (a1 : Int) (a2 : Int) : Option ((List (S37))) := (spec_AllFiles.f k l0 a1).bind fun t614 => ((spec_AllFiles.f k l0 a2).bind fun t617 => (spec_ChangesOf.l0 k l0 a1 a2 (([] : List (S37))) t614 t617 0))
theorem spec_ChangesOf.mono_l : ∀ k, (∀ y0 y1 y2 y3 y4 y5 y6, LeO (spec_ChangesOf.l0 k y0 y1 y2 y3 y4 y5 y6) (spec_ChangesOf.l0 (k + 1) y0 y1 y2 y3 y4 y5 y6)) ∧ (∀ y0 y1 y2 y3 y4 y5, LeO (spec_ChangesOf.l1 k y0 y1 y2 y3 y4 y5) (spec_ChangesOf.l1 (k + 1) y0 y1 y2 y3 y4 y5))
 | 0 => ⟨fun _ _ _ _ _ _ _ r h => by simp [spec_ChangesOf.l0] at h, fun _ _ _ _ _ _ r h => by simp [spec_ChangesOf.l1] at h⟩
 | k + 1 => by
  obtain ⟨ih0, ih1⟩ := spec_ChangesOf.mono_l k
  refine ⟨?_, ?_⟩
  ·intro y0 y1 y2 y3 y4 y5 y6
   unfold spec_ChangesOf.l0
   repeat' first
   | (with_reducible exact ih0 _ _ _ _ _ _ _)
   | (with_reducible exact ih1 _ _ _ _ _ _)
   | (with_reducible exact spec_AllFiles.mono _ _ _)
   | (with_reducible exact spec_ReadAt.mono _ _ _ _)
   | (with_reducible exact LeO.refl _)
   | (with_reducible exact LeO.none _)
   | (with_reducible refine LeO.ite ?_ ?_)
   | (with_reducible refine LeO.bind ?_ (fun _ => ?_))
   | exact ih0 _ _ _ _ _ _ _
   | exact ih1 _ _ _ _ _ _
   | exact spec_AllFiles.mono _ _ _
   | exact spec_ReadAt.mono _ _ _ _
   | exact LeO.none _
   | refine LeO.ite ?_ ?_
   | refine LeO.bind ?_ (fun _ => ?_)
  ·intro y0 y1 y2 y3 y4 y5
   unfold spec_ChangesOf.l1
   repeat' first
   | (with_reducible exact ih0 _ _ _ _ _ _ _)
   | (with_reducible exact ih1 _ _ _ _ _ _)
   | (with_reducible exact spec_AllFiles.mono _ _ _)
   | (with_reducible exact spec_ReadAt.mono _ _ _ _)
   | (with_reducible exact LeO.refl _)
   | (with_reducible exact LeO.none _)
   | (with_reducible refine LeO.ite ?_ ?_)
   | (with_reducible refine LeO.bind ?_ (fun _ => ?_))
   | exact ih0 _ _ _ _ _ _ _
   | exact ih1 _ _ _ _ _ _
   | exact spec_AllFiles.mono _ _ _
   | exact spec_ReadAt.mono _ _ _ _
   | exact LeO.none _
   | refine LeO.ite ?_ ?_
   | refine LeO.bind ?_ (fun _ => ?_)
theorem spec_ChangesOf.mono : ∀ a0 a1 a2 k, LeO (spec_ChangesOf.f k a0 a1 a2) (spec_ChangesOf.f (k + 1) a0 a1 a2) := by
 intro a0 a1 a2 k
 obtain ⟨ih0, ih1⟩ := spec_ChangesOf.mono_l k
 unfold spec_ChangesOf.f
 repeat' first
   | (with_reducible exact ih0 _ _ _ _ _ _ _)
   | (with_reducible exact ih1 _ _ _ _ _ _)
   | (with_reducible exact spec_AllFiles.mono _ _ _)
   | (with_reducible exact spec_ReadAt.mono _ _ _ _)
   | (with_reducible exact LeO.refl _)
   | (with_reducible exact LeO.none _)
   | (with_reducible refine LeO.ite ?_ ?_)
   | (with_reducible refine LeO.bind ?_ (fun _ => ?_))
   | exact ih0 _ _ _ _ _ _ _
   | exact ih1 _ _ _ _ _ _
   | exact spec_AllFiles.mono _ _ _
   | exact spec_ReadAt.mono _ _ _ _
   | exact LeO.none _
   | refine LeO.ite ?_ ?_
   | refine LeO.bind ?_ (fun _ => ?_)
set_option maxHeartbeats 8000000 in
set_option maxRecDepth 100000 in
theorem spec_ChangesOf.calls (k : Nat) (A0 : Option Addr) (c0 : Nat) (l0 : List (S45)) (a1 : Int) (a2 : Int) (r : List (S37)) (w : World) (hr0 : Kd.C k45 w A0 l0.length l0) (hc0 : l0.length ≤ c0) (h : spec_ChangesOf.f k l0 a1 a2 = some r) :
  Calls Try.prog 9 #[.slice A0 l0.length c0, .int .i64 a1, .int .i64 a2] w fun e w' => ∃ v0_ : Value, e = .returned (v0_) ∧ Kd.R k37 37 w' w.heap.size (fun _ => True) v0_ r ∧ Below w.heap.size w w' := by
 have hu37 := Try.underlying37
 have HR0 := Aside0.mk hr0
 have HC0 := Aside0.mk hc0
 clear hr0 hc0
 have HB := Aside0.mk (Below.refl w.heap.size w)
 have H : ((spec_AllFiles.f k l0 a1).bind fun t614 => ((spec_AllFiles.f k l0 a2).bind fun t617 => (spec_ChangesOf.l0 k l0 a1 a2 (([] : List (S37))) t614 t617 0))) = some r := h
 clear h
 obtain ⟨y611, hy611⟩ : ∃ y_ : List (S37), y_ = (([] : List (S37))) := ⟨_, rfl⟩
 replace H : ((spec_AllFiles.f k l0 a1).bind fun t614 => ((spec_AllFiles.f k l0 a2).bind fun t617 => (spec_ChangesOf.l0 k l0 a1 a2 y611 t614 t617 0))) = some r := hq_ hy611 H
 have Ny611 := Aside0.mk hy611
 clear hy611
 replace H := Option.bind_eq_some_iff.mp H
 obtain ⟨t614, A40, H⟩ := H
 replace H : ((spec_AllFiles.f k l0 a2).bind fun t617 => (spec_ChangesOf.l0 k l0 a1 a2 y611 t614 t617 0)) = some r := H
 have A4 := Aside0.mk A40
 clear A40
 replace H := Option.bind_eq_some_iff.mp H
 obtain ⟨t617, A50, H⟩ := H
 replace H : (spec_ChangesOf.l0 k l0 a1 a2 y611 t614 t617 0) = some r := H
 have A5 := Aside0.mk A50
 clear A50
 have H' := Aside0.mk H
 clear H
 go_enter Try.func9, Try.ntmps9
 go_wp2_with (first | ((with_reducible refine gate_dst (N := 18) rfl ?_); refine Kd.R_lit k37 _ 37 ?hg (N := 18) ?hd (xs := ([] : List (S37))) (inner := []) (ok := fun _ => True) (okp := fun _ => True) ?hr ?hp (fun _ hk => hk) trivial (Below.refl _ _) (Nat.le_refl _) (by simp) ?_; (case hd => rfl); (case hg => rfl); (case hr => first | (go_simp; done) | (go_simp; rfl)); (case hp => exact (Reps.none _ _)); intro v612 w6 ho7 hb hg_ hnew_; clear hg_ hnew_; (first | rw [← Ny611.out] at ho7 | (simp only [Int.reduceToNat] at ho7; rw [← Ny611.out] at ho7)); have HO613 := Aside0.mk (Kd.R_lower ho7 (below_size hb_)); replace HB := Aside0.mk (below_step hb_ hb); clear hb ho7) | ((with_reducible refine gate_callee (f := 16) rfl ?_); refine goesL_ (some 21) rfl rfl Try.func16 (by kernel_rfl) rfl #[.slice A0 l0.length c0, .int .i64 a1] rfl sl_ ?_; (with_reducible refine (spec_AllFiles.calls k _ _ l0 a1 t614 _ ?side1 ?side2 A4.out).mono ?_); (case side1 => exact kC_ (Kd.C_below HR0.out HB.out)); (case side2 => exact HC0.out); rintro e w8 ⟨v615, rfl, ho0, hb⟩; refine ⟨_, rfl, ?_⟩; replace HO613 := Aside0.mk (Kd.R_below (kR_ HO613.out) hb); have HO616 := Aside0.mk (Kd.R_lower ho0 (below_size hb_)); replace HB := Aside0.mk (below_step hb_ hb); (try clear hb); (try clear hk); (try clear ho0)) | ((with_reducible refine gate_callee (f := 16) rfl ?_); refine goesL_ (some 24) rfl rfl Try.func16 (by kernel_rfl) rfl #[.slice A0 l0.length c0, .int .i64 a2] rfl sl_ ?_; (with_reducible refine (spec_AllFiles.calls k _ _ l0 a2 t617 _ ?side1 ?side2 A5.out).mono ?_); (case side1 => exact kC_ (Kd.C_below HR0.out HB.out)); (case side2 => exact HC0.out); rintro e w9 ⟨v618, rfl, ho0, hb⟩; refine ⟨_, rfl, ?_⟩; replace HO613 := Aside0.mk (Kd.R_below (kR_ HO613.out) hb); have HO619 := Aside0.mk (Kd.R_lower (Kd.R_new' ho0 (Kd.R_lt (kR_ HO616.out))) (below_size hb_)); replace HO616 := Aside0.mk (Kd.R_elder' (kR_ HO616.out) (Kd.R_base ho0) hb); replace HB := Aside0.mk (below_step hb_ hb); (try clear hb); (try clear hk); (try clear ho0)))
 go_loopg [7, 10] k (fun kq v7 v10 w' => ∃ (x7_1 : List (S37)) (x10_1 : Int), v10 = .int .i64 x10_1 ∧ Aside0 (spec_ChangesOf.l0 kq l0 a1 a2 x7_1 t614 t617 x10_1 = some r) ∧ Aside0 (kq ≤ k) ∧ Aside0 (Kd.R k37 37 w' w.heap.size (fun _ => True) v7 x7_1) ∧ Aside0 (Kd.R Kd.string 9 w' w.heap.size (fun k_ => some k_ ≠ (v618 : Value).ownBlock) v615 t614) ∧ Aside0 (Kd.R Kd.string 9 w' w.heap.size (fun k_ => some k_ ≠ (v615 : Value).ownBlock) v618 t617) ∧ Aside0 (Below w.heap.size w w'))
 case atStart => exact ⟨(y611), (0), rs_, H', ⟨Nat.le_refl _⟩, ⟨by (with_reducible repeat (first | apply Kd.R_alloc | apply Kd.R_drewN | apply Kd.R_drew)); exact HO613.out⟩, ⟨by (with_reducible repeat (first | apply Kd.R_alloc | apply Kd.R_drewN | apply Kd.R_drew)); exact Kd.R_mono HO616.out (fun _ hk => hk.2)⟩, ⟨by (with_reducible repeat (first | apply Kd.R_alloc | apply Kd.R_drewN | apply Kd.R_drew)); exact Kd.R_mono HO619.out (fun _ hk => hk.2)⟩, ⟨hb_⟩⟩
 case round =>
  clear H'
  try clear c1
  try clear p2
  try clear c9
  obtain ⟨x7_1, x10_1, rfl, HA, HK1, HO_7, HO_8, HO_9, HB⟩ := hrel
  cases gk with
  | zero => exact absurd HA.out (by simp [spec_ChangesOf.l0])
  | succ k1 =>
   have H := HA.out
   clear HA
   simp only [spec_ChangesOf.l0] at H
   by_cases c10 : x10_1 < (t614.length : Int)
   ·rw [if_pos c10] at H
    have c10b0 : decide (x10_1 < (t614.length : Int)) = true := decide_eq_true c10
    clear c10
    by_cases c11 : 0 ≤ x10_1; rotate_left
    ·rw [if_neg c11] at H; exact absurd H (by simp)
    rw [if_pos c11] at H
    have c11b0 : decide (0 ≤ x10_1) = true := decide_eq_true c11
    clear c11
    replace H := Option.bind_eq_some_iff.mp H
    obtain ⟨⟨t621, t622⟩, A120, H⟩ := H
    replace H : (if t622 = true then (spec_ChangesOf.l0 k1 l0 a1 a2 x7_1 t614 t617 (wrap64 (x10_1 + 1))) else (if x7_1.length < 5864062014805 then (spec_ChangesOf.l0 k1 l0 a1 a2 (x7_1 ++ [(⟨rdOf ByteArray.empty t614 x10_1, 2⟩ : S37)]) t614 t617 (wrap64 (x10_1 + 1))) else (none))) = some r := H
    have A12 := Aside0.mk A120
    clear A120
    by_cases c13 : t622 = true
    ·subst c13
     have H1 : (spec_ChangesOf.l0 k1 l0 a1 a2 x7_1 t614 t617 (wrap64 (x10_1 + 1))) = some r := by rw [if_pos rfl] at H; exact H
     clear H
     have H := H1
     clear H1
     have H' := Aside0.mk H
     clear H
     obtain ⟨Ao14, co14, eo14⟩ := Kd.R_slice HO_8.out
     subst eo14
     have p620 : 0 ≤ (x10_1 : Int) := dt_
     have q620 : x10_1 < (t614.length : Int) := dt_
     obtain ⟨ad620, e620, hx620_0⟩ := Kd.at_string (Kd.R_reads' HO_8.out).2.2 x10_1 p620 q620
     cases e620
     replace p620 := eq_true p620
     replace q620 := eq_true q620
     go_wp2_with (first | ((with_reducible refine gate_callee (f := 17) rfl ?_); refine goesL_ (some 38) rfl rfl Try.func17 (by kernel_rfl) rfl #[.slice A0 l0.length c0, .int .i64 a2, .string (rdOf ByteArray.empty t614 x10_1)] rfl sl_ ?_; (with_reducible refine (spec_ReadAt.calls k1 _ _ l0 a2 (rdOf ByteArray.empty t614 x10_1) t621 true _ ?side1 ?side2 A12.out).mono ?_); (case side1 => exact kC_ (Kd.C_below HR0.out HB.out)); (case side2 => exact HC0.out); rintro e w15 ⟨rfl, hb⟩; refine ⟨_, rfl, ?_⟩; replace HO_7 := Aside0.mk (Kd.R_below (kR_ HO_7.out) hb); replace HO_8 := Aside0.mk (Kd.R_below (kR_ HO_8.out) hb); replace HO_9 := Aside0.mk (Kd.R_below (kR_ HO_9.out) hb); replace HB := Aside0.mk (below_step hb_ hb); (try clear hb)))
     go_roundg k1
     case measure => have := HK1.out; omega
     case rel => exact ⟨(x7_1), (wrap64 (x10_1 + 1)), rs_, H', ⟨by have := HK1.out; omega⟩, ⟨by (with_reducible repeat (first | apply Kd.R_alloc | apply Kd.R_drewN | apply Kd.R_drew)); exact HO_7.out⟩, ⟨by (with_reducible repeat (first | apply Kd.R_alloc | apply Kd.R_drewN | apply Kd.R_drew)); exact HO_8.out⟩, ⟨by (with_reducible repeat (first | apply Kd.R_alloc | apply Kd.R_drewN | apply Kd.R_drew)); exact HO_9.out⟩, ⟨hb_⟩⟩
    ·replace c13 := Bool.eq_false_iff.mpr c13
     subst c13
     have H1 : (if x7_1.length < 5864062014805 then (spec_ChangesOf.l0 k1 l0 a1 a2 (x7_1 ++ [(⟨rdOf ByteArray.empty t614 x10_1, 2⟩ : S37)]) t614 t617 (wrap64 (x10_1 + 1))) else (none)) = some r := by rw [if_neg (show ¬ (false = true) by decide)] at H; exact H
     clear H
     have H := H1
     clear H1
     by_cases c16 : x7_1.length < 5864062014805; rotate_left
     ·rw [if_neg c16] at H; exact absurd H (by simp)
     rw [if_pos c16] at H
     have LMc16 := Aside0.mk c16
     clear c16
     obtain ⟨y624, hy624⟩ : ∃ y_ : List (S37), y_ = (x7_1 ++ [(⟨rdOf ByteArray.empty t614 x10_1, 2⟩ : S37)]) := ⟨_, rfl⟩
     replace H : (spec_ChangesOf.l0 k1 l0 a1 a2 y624 t614 t617 (wrap64 (x10_1 + 1))) = some r := hq_ hy624 H
     have Ny624 := Aside0.mk hy624
     clear hy624
     have H' := Aside0.mk H
     clear H
     obtain ⟨Ao17, co17, eo17⟩ := Kd.R_slice HO_8.out
     subst eo17
     have p620 : 0 ≤ (x10_1 : Int) := dt_
     have q620 : x10_1 < (t614.length : Int) := dt_
     obtain ⟨ad620, e620, hx620_0⟩ := Kd.at_string (Kd.R_reads' HO_8.out).2.2 x10_1 p620 q620
     cases e620
     replace p620 := eq_true p620
     replace q620 := eq_true q620
     go_wp2_with (first | ((with_reducible refine gate_callee (f := 17) rfl ?_); refine goesL_ (some 38) rfl rfl Try.func17 (by kernel_rfl) rfl #[.slice A0 l0.length c0, .int .i64 a2, .string (rdOf ByteArray.empty t614 x10_1)] rfl sl_ ?_; (with_reducible refine (spec_ReadAt.calls k1 _ _ l0 a2 (rdOf ByteArray.empty t614 x10_1) t621 false _ ?side1 ?side2 A12.out).mono ?_); (case side1 => exact kC_ (Kd.C_below HR0.out HB.out)); (case side2 => exact HC0.out); rintro e w18 ⟨rfl, hb⟩; refine ⟨_, rfl, ?_⟩; replace HO_7 := Aside0.mk (Kd.R_below (kR_ HO_7.out) hb); replace HO_8 := Aside0.mk (Kd.R_below (kR_ HO_8.out) hb); replace HO_9 := Aside0.mk (Kd.R_below (kR_ HO_9.out) hb); replace HB := Aside0.mk (below_step hb_ hb); (try clear hb); (try clear hk); have p623 : 0 ≤ (x10_1 : Int) := dt_; have q623 : x10_1 < (t614.length : Int) := dt_; obtain ⟨ad623, e623, hx623_0⟩ := Kd.at_string (Kd.R_reads' HO_8.out).2.2 x10_1 p623 q623; obtain rfl : ad620 = ad623 := (by injection e623); replace p623 := eq_true p623; replace q623 := eq_true q623) | ((with_reducible refine gate_builtin (b := .append) (xs := #[.tmp 43, .tmp 49]) rfl ?_); at_builtin; refine Kd.R_append k37 (w0 := w) w.heap.size rfl (.tmp 43) (.tmp 49) 23 37 (.agg #[(.string ⟨#[]⟩), (.int .i64 0)]) 24 rfl Try.underlying23 info37 rfl (by decide) (by omega) u7 x7_1 (⟨rdOf ByteArray.empty t614 x10_1, 2⟩ : S37) [.string (rdOf ByteArray.empty t614 x10_1), .int .i64 2] (fun _ => True) (fun _ => False) rfl rfl ?aP (fun _ hk => hk.elim) ?aF ?aO ?aB ?aS ?aL ?_; (case aP => exact k37_mkM _ _ _ (⟨rdOf ByteArray.empty t614 x10_1, 2⟩ : S37)); (case aB => exact hb_); (case aF => exact (fun _ _ => trivial)); (case aO => exact (kR_ HO_7.out)); (case aS => exact (below_size hb_)); (case aL => have := LMc16.out; omega); intro v625 w19 ho hb hg hat; rw [← Ny624.out] at ho; have n0_ := Aside0.mk (Kd.R_over' (kR_ HO_8.out) (Kd.R_typed (kR_ HO_7.out)) (by decide) hg); have n1_ := Aside0.mk (Kd.R_over' (kR_ HO_9.out) (Kd.R_typed (kR_ HO_7.out)) (by decide) hg); have n2_ := Aside0.mk (hb); have n3_ := Aside0.mk (ho); clear HO_8; clear HO_9; clear HB; clear HO_7; have HO_8 := n0_; have HO_9 := n1_; have HB := n2_; have HO626 := n3_; clear n0_ n1_ n2_ n3_; clear ho hb hg hat))
     go_roundg k1
     case measure => have := HK1.out; omega
     case rel => exact ⟨(y624), (wrap64 (x10_1 + 1)), rs_, H', ⟨by have := HK1.out; omega⟩, ⟨by (with_reducible repeat (first | apply Kd.R_alloc | apply Kd.R_drewN | apply Kd.R_drew)); exact HO626.out⟩, ⟨by (with_reducible repeat (first | apply Kd.R_alloc | apply Kd.R_drewN | apply Kd.R_drew)); exact HO_8.out⟩, ⟨by (with_reducible repeat (first | apply Kd.R_alloc | apply Kd.R_drewN | apply Kd.R_drew)); exact HO_9.out⟩, ⟨hb_⟩⟩
   ·rw [if_neg c10] at H
    have c10b0 : decide (x10_1 < (t614.length : Int)) = false := decide_eq_false c10
    clear c10
    have H' := Aside0.mk H
    clear H
    obtain ⟨Ao20, co20, eo20⟩ := Kd.R_slice HO_8.out
    subst eo20
    go_wp2
    go_loopg [7, 13] k1 (fun kq v7 v13 w' => ∃ (x7_2 : List (S37)) (x13_2 : Int), v13 = .int .i64 x13_2 ∧ Aside0 (spec_ChangesOf.l1 kq l0 a1 a2 x7_2 t617 x13_2 = some r) ∧ Aside0 (kq ≤ k1) ∧ Aside0 (Kd.R k37 37 w' w.heap.size (fun _ => True) v7 x7_2) ∧ Aside0 (Kd.R Kd.string 9 w' w.heap.size (fun _ => True) v618 t617) ∧ Aside0 (Below w.heap.size w w'))
    case atStart => exact ⟨(x7_1), (0), rs_, H', ⟨Nat.le_refl _⟩, ⟨by (with_reducible repeat (first | apply Kd.R_alloc | apply Kd.R_drewN | apply Kd.R_drew)); exact HO_7.out⟩, ⟨by (with_reducible repeat (first | apply Kd.R_alloc | apply Kd.R_drewN | apply Kd.R_drew)); exact Kd.R_mono HO_9.out (fun _ hk => trivial)⟩, ⟨hb_⟩⟩
    case round =>
     clear H'
     try clear c1
     try clear p2
     try clear p6
     try clear q6
     try clear hx6
     try clear c9
     try clear c10
     try clear c10b0
     try clear c11
     try clear c11b0
     try clear c13
     try clear c16
     try clear c17
     try clear hx620_0
     try clear hx623_0
     try clear p2
     try clear p620
     try clear p623
     try clear q620
     try clear q623
     obtain ⟨x7_2, x13_2, rfl, HA, HK2, HO_7, HO_9, HB⟩ := hrel
     cases gk with
     | zero => exact absurd HA.out (by simp [spec_ChangesOf.l1])
     | succ k2 =>
      have H := HA.out
      clear HA
      simp only [spec_ChangesOf.l1] at H
      by_cases c21 : x13_2 < (t617.length : Int)
      ·rw [if_pos c21] at H
       have c21b0 : decide (x13_2 < (t617.length : Int)) = true := decide_eq_true c21
       clear c21
       by_cases c22 : 0 ≤ x13_2; rotate_left
       ·rw [if_neg c22] at H; exact absurd H (by simp)
       rw [if_pos c22] at H
       have c22b0 : decide (0 ≤ x13_2) = true := decide_eq_true c22
       clear c22
       replace H := Option.bind_eq_some_iff.mp H
       obtain ⟨⟨t628, t629⟩, A230, H⟩ := H
       replace H : ((spec_ReadAt.f k2 l0 a1 (rdOf ByteArray.empty t617 x13_2)).bind fun bt631 => (if bt631.2 = true then (if bt631.1.toList = t628.toList then (spec_ChangesOf.l1 k2 l0 a1 a2 x7_2 t617 (wrap64 (x13_2 + 1))) else (if x7_2.length < 5864062014805 then (spec_ChangesOf.l1 k2 l0 a1 a2 (x7_2 ++ [(⟨rdOf ByteArray.empty t617 x13_2, 1⟩ : S37)]) t617 (wrap64 (x13_2 + 1))) else (none))) else (if x7_2.length < 5864062014805 then (spec_ChangesOf.l1 k2 l0 a1 a2 (x7_2 ++ [(⟨rdOf ByteArray.empty t617 x13_2, 0⟩ : S37)]) t617 (wrap64 (x13_2 + 1))) else (none)))) = some r := H
       have A23 := Aside0.mk A230
       clear A230
       replace H := Option.bind_eq_some_iff.mp H
       obtain ⟨⟨t631, t632⟩, A240, H⟩ := H
       replace H : (if t632 = true then (if t631.toList = t628.toList then (spec_ChangesOf.l1 k2 l0 a1 a2 x7_2 t617 (wrap64 (x13_2 + 1))) else (if x7_2.length < 5864062014805 then (spec_ChangesOf.l1 k2 l0 a1 a2 (x7_2 ++ [(⟨rdOf ByteArray.empty t617 x13_2, 1⟩ : S37)]) t617 (wrap64 (x13_2 + 1))) else (none))) else (if x7_2.length < 5864062014805 then (spec_ChangesOf.l1 k2 l0 a1 a2 (x7_2 ++ [(⟨rdOf ByteArray.empty t617 x13_2, 0⟩ : S37)]) t617 (wrap64 (x13_2 + 1))) else (none))) = some r := H
       have A24 := Aside0.mk A240
       clear A240
       by_cases c25 : t632 = true
       ·subst c25
        have H1 : (if t631.toList = t628.toList then (spec_ChangesOf.l1 k2 l0 a1 a2 x7_2 t617 (wrap64 (x13_2 + 1))) else (if x7_2.length < 5864062014805 then (spec_ChangesOf.l1 k2 l0 a1 a2 (x7_2 ++ [(⟨rdOf ByteArray.empty t617 x13_2, 1⟩ : S37)]) t617 (wrap64 (x13_2 + 1))) else (none))) = some r := by rw [if_pos rfl] at H; exact H
        clear H
        have H := H1
        clear H1
        by_cases c26 : t631.toList = t628.toList
        ·rw [if_pos c26] at H
         have c26b0 : (t631.toList == t628.toList) = true := beq_iff_eq.mpr c26
         have c26b1 : (t631.toList != t628.toList) = false := bne_eq_false_iff_eq.mpr c26
         clear c26
         have H' := Aside0.mk H
         clear H
         obtain ⟨Ao27, co27, eo27⟩ := Kd.R_slice HO_9.out
         subst eo27
         have p627 : 0 ≤ (x13_2 : Int) := dt_
         have q627 : x13_2 < (t617.length : Int) := dt_
         obtain ⟨ad627, e627, hx627_0⟩ := Kd.at_string (Kd.R_reads' HO_9.out).2.2 x13_2 p627 q627
         cases e627
         replace p627 := eq_true p627
         replace q627 := eq_true q627
         go_wp2_with (first | ((with_reducible refine gate_callee (f := 17) rfl ?_); refine goesL_ (some 64) rfl rfl Try.func17 (by kernel_rfl) rfl #[.slice A0 l0.length c0, .int .i64 a2, .string (rdOf ByteArray.empty t617 x13_2)] rfl sl_ ?_; (with_reducible refine (spec_ReadAt.calls k2 _ _ l0 a2 (rdOf ByteArray.empty t617 x13_2) t628 t629 _ ?side1 ?side2 A23.out).mono ?_); (case side1 => exact kC_ (Kd.C_below HR0.out HB.out)); (case side2 => exact HC0.out); rintro e w28 ⟨rfl, hb⟩; refine ⟨_, rfl, ?_⟩; replace HO_7 := Aside0.mk (Kd.R_below (kR_ HO_7.out) hb); replace HO_9 := Aside0.mk (Kd.R_below (kR_ HO_9.out) hb); replace HB := Aside0.mk (below_step hb_ hb); (try clear hb); have p630 : 0 ≤ (x13_2 : Int) := dt_; have q630 : x13_2 < (t617.length : Int) := dt_; obtain ⟨ad630, e630, hx630_0⟩ := Kd.at_string (Kd.R_reads' HO_9.out).2.2 x13_2 p630 q630; obtain rfl : ad627 = ad630 := (by injection e630); replace p630 := eq_true p630; replace q630 := eq_true q630) | ((with_reducible refine gate_callee (f := 17) rfl ?_); refine goesL_ (some 74) rfl rfl Try.func17 (by kernel_rfl) rfl #[.slice A0 l0.length c0, .int .i64 a1, .string (rdOf ByteArray.empty t617 x13_2)] rfl sl_ ?_; (with_reducible refine (spec_ReadAt.calls k2 _ _ l0 a1 (rdOf ByteArray.empty t617 x13_2) t631 true _ ?side1 ?side2 A24.out).mono ?_); (case side1 => exact kC_ (Kd.C_below HR0.out HB.out)); (case side2 => exact HC0.out); rintro e w29 ⟨rfl, hb⟩; refine ⟨_, rfl, ?_⟩; replace HO_7 := Aside0.mk (Kd.R_below (kR_ HO_7.out) hb); replace HO_9 := Aside0.mk (Kd.R_below (kR_ HO_9.out) hb); replace HB := Aside0.mk (below_step hb_ hb); (try clear hb)))
         go_roundg k2
         case measure => have := HK1.out; have := HK2.out; omega
         case rel => exact ⟨(x7_2), (wrap64 (x13_2 + 1)), rs_, H', ⟨by have := HK1.out; have := HK2.out; omega⟩, ⟨by (with_reducible repeat (first | apply Kd.R_alloc | apply Kd.R_drewN | apply Kd.R_drew)); exact HO_7.out⟩, ⟨by (with_reducible repeat (first | apply Kd.R_alloc | apply Kd.R_drewN | apply Kd.R_drew)); exact HO_9.out⟩, ⟨hb_⟩⟩
        ·rw [if_neg c26] at H
         have c26b0 : (t631.toList == t628.toList) = false := beq_eq_false_iff_ne.mpr c26
         have c26b1 : (t631.toList != t628.toList) = true := bne_iff_ne.mpr c26
         by_cases c30 : x7_2.length < 5864062014805; rotate_left
         ·rw [if_neg c30] at H; exact absurd H (by simp)
         rw [if_pos c30] at H
         have LMc30 := Aside0.mk c30
         clear c30
         obtain ⟨y634, hy634⟩ : ∃ y_ : List (S37), y_ = (x7_2 ++ [(⟨rdOf ByteArray.empty t617 x13_2, 1⟩ : S37)]) := ⟨_, rfl⟩
         replace H : (spec_ChangesOf.l1 k2 l0 a1 a2 y634 t617 (wrap64 (x13_2 + 1))) = some r := hq_ hy634 H
         have Ny634 := Aside0.mk hy634
         clear hy634
         have H' := Aside0.mk H
         clear H
         obtain ⟨Ao31, co31, eo31⟩ := Kd.R_slice HO_9.out
         subst eo31
         have p627 : 0 ≤ (x13_2 : Int) := dt_
         have q627 : x13_2 < (t617.length : Int) := dt_
         obtain ⟨ad627, e627, hx627_0⟩ := Kd.at_string (Kd.R_reads' HO_9.out).2.2 x13_2 p627 q627
         cases e627
         replace p627 := eq_true p627
         replace q627 := eq_true q627
         go_wp2_with (first | ((with_reducible refine gate_callee (f := 17) rfl ?_); refine goesL_ (some 64) rfl rfl Try.func17 (by kernel_rfl) rfl #[.slice A0 l0.length c0, .int .i64 a2, .string (rdOf ByteArray.empty t617 x13_2)] rfl sl_ ?_; (with_reducible refine (spec_ReadAt.calls k2 _ _ l0 a2 (rdOf ByteArray.empty t617 x13_2) t628 t629 _ ?side1 ?side2 A23.out).mono ?_); (case side1 => exact kC_ (Kd.C_below HR0.out HB.out)); (case side2 => exact HC0.out); rintro e w32 ⟨rfl, hb⟩; refine ⟨_, rfl, ?_⟩; replace HO_7 := Aside0.mk (Kd.R_below (kR_ HO_7.out) hb); replace HO_9 := Aside0.mk (Kd.R_below (kR_ HO_9.out) hb); replace HB := Aside0.mk (below_step hb_ hb); (try clear hb); (try clear hk); have p630 : 0 ≤ (x13_2 : Int) := dt_; have q630 : x13_2 < (t617.length : Int) := dt_; obtain ⟨ad630, e630, hx630_0⟩ := Kd.at_string (Kd.R_reads' HO_9.out).2.2 x13_2 p630 q630; obtain rfl : ad627 = ad630 := (by injection e630); replace p630 := eq_true p630; replace q630 := eq_true q630) | ((with_reducible refine gate_callee (f := 17) rfl ?_); refine goesL_ (some 74) rfl rfl Try.func17 (by kernel_rfl) rfl #[.slice A0 l0.length c0, .int .i64 a1, .string (rdOf ByteArray.empty t617 x13_2)] rfl sl_ ?_; (with_reducible refine (spec_ReadAt.calls k2 _ _ l0 a1 (rdOf ByteArray.empty t617 x13_2) t631 true _ ?side1 ?side2 A24.out).mono ?_); (case side1 => exact kC_ (Kd.C_below HR0.out HB.out)); (case side2 => exact HC0.out); rintro e w33 ⟨rfl, hb⟩; refine ⟨_, rfl, ?_⟩; replace HO_7 := Aside0.mk (Kd.R_below (kR_ HO_7.out) hb); replace HO_9 := Aside0.mk (Kd.R_below (kR_ HO_9.out) hb); replace HB := Aside0.mk (below_step hb_ hb); (try clear hb); (try clear hk); have p633 : 0 ≤ (x13_2 : Int) := dt_; have q633 : x13_2 < (t617.length : Int) := dt_; obtain ⟨ad633, e633, hx633_0⟩ := Kd.at_string (Kd.R_reads' HO_9.out).2.2 x13_2 p633 q633; obtain rfl : ad627 = ad633 := (by injection e633); replace p633 := eq_true p633; replace q633 := eq_true q633) | ((with_reducible refine gate_builtin (b := .append) (xs := #[.tmp 92, .tmp 98]) rfl ?_); at_builtin; refine Kd.R_append k37 (w0 := w) w.heap.size rfl (.tmp 92) (.tmp 98) 23 37 (.agg #[(.string ⟨#[]⟩), (.int .i64 0)]) 24 rfl Try.underlying23 info37 rfl (by decide) (by omega) u7 x7_2 (⟨rdOf ByteArray.empty t617 x13_2, 1⟩ : S37) [.string (rdOf ByteArray.empty t617 x13_2), .int .i64 1] (fun _ => True) (fun _ => False) rfl rfl ?aP (fun _ hk => hk.elim) ?aF ?aO ?aB ?aS ?aL ?_; (case aP => exact k37_mkM _ _ _ (⟨rdOf ByteArray.empty t617 x13_2, 1⟩ : S37)); (case aB => exact hb_); (case aF => exact (fun _ _ => trivial)); (case aO => exact (kR_ HO_7.out)); (case aS => exact (below_size hb_)); (case aL => have := LMc30.out; omega); intro v635 w34 ho hb hg hat; rw [← Ny634.out] at ho; have n0_ := Aside0.mk (Kd.R_over' (kR_ HO_9.out) (Kd.R_typed (kR_ HO_7.out)) (by decide) hg); have n1_ := Aside0.mk (hb); have n2_ := Aside0.mk (ho); clear HO_9; clear HB; clear HO_7; have HO_9 := n0_; have HB := n1_; have HO636 := n2_; clear n0_ n1_ n2_; clear ho hb hg hat))
         go_roundg k2
         case measure => have := HK1.out; have := HK2.out; omega
         case rel => exact ⟨(y634), (wrap64 (x13_2 + 1)), rs_, H', ⟨by have := HK1.out; have := HK2.out; omega⟩, ⟨by (with_reducible repeat (first | apply Kd.R_alloc | apply Kd.R_drewN | apply Kd.R_drew)); exact HO636.out⟩, ⟨by (with_reducible repeat (first | apply Kd.R_alloc | apply Kd.R_drewN | apply Kd.R_drew)); exact HO_9.out⟩, ⟨hb_⟩⟩
       ·replace c25 := Bool.eq_false_iff.mpr c25
        subst c25
        have H1 : (if x7_2.length < 5864062014805 then (spec_ChangesOf.l1 k2 l0 a1 a2 (x7_2 ++ [(⟨rdOf ByteArray.empty t617 x13_2, 0⟩ : S37)]) t617 (wrap64 (x13_2 + 1))) else (none)) = some r := by rw [if_neg (show ¬ (false = true) by decide)] at H; exact H
        clear H
        have H := H1
        clear H1
        by_cases c35 : x7_2.length < 5864062014805; rotate_left
        ·rw [if_neg c35] at H; exact absurd H (by simp)
        rw [if_pos c35] at H
        have LMc35 := Aside0.mk c35
        clear c35
        obtain ⟨y638, hy638⟩ : ∃ y_ : List (S37), y_ = (x7_2 ++ [(⟨rdOf ByteArray.empty t617 x13_2, 0⟩ : S37)]) := ⟨_, rfl⟩
        replace H : (spec_ChangesOf.l1 k2 l0 a1 a2 y638 t617 (wrap64 (x13_2 + 1))) = some r := hq_ hy638 H
        have Ny638 := Aside0.mk hy638
        clear hy638
        have H' := Aside0.mk H
        clear H
        obtain ⟨Ao36, co36, eo36⟩ := Kd.R_slice HO_9.out
        subst eo36
        have p627 : 0 ≤ (x13_2 : Int) := dt_
        have q627 : x13_2 < (t617.length : Int) := dt_
        obtain ⟨ad627, e627, hx627_0⟩ := Kd.at_string (Kd.R_reads' HO_9.out).2.2 x13_2 p627 q627
        cases e627
        replace p627 := eq_true p627
        replace q627 := eq_true q627
        go_wp2_with (first | ((with_reducible refine gate_callee (f := 17) rfl ?_); refine goesL_ (some 64) rfl rfl Try.func17 (by kernel_rfl) rfl #[.slice A0 l0.length c0, .int .i64 a2, .string (rdOf ByteArray.empty t617 x13_2)] rfl sl_ ?_; (with_reducible refine (spec_ReadAt.calls k2 _ _ l0 a2 (rdOf ByteArray.empty t617 x13_2) t628 t629 _ ?side1 ?side2 A23.out).mono ?_); (case side1 => exact kC_ (Kd.C_below HR0.out HB.out)); (case side2 => exact HC0.out); rintro e w37 ⟨rfl, hb⟩; refine ⟨_, rfl, ?_⟩; replace HO_7 := Aside0.mk (Kd.R_below (kR_ HO_7.out) hb); replace HO_9 := Aside0.mk (Kd.R_below (kR_ HO_9.out) hb); replace HB := Aside0.mk (below_step hb_ hb); (try clear hb); (try clear hk); have p630 : 0 ≤ (x13_2 : Int) := dt_; have q630 : x13_2 < (t617.length : Int) := dt_; obtain ⟨ad630, e630, hx630_0⟩ := Kd.at_string (Kd.R_reads' HO_9.out).2.2 x13_2 p630 q630; obtain rfl : ad627 = ad630 := (by injection e630); replace p630 := eq_true p630; replace q630 := eq_true q630) | ((with_reducible refine gate_callee (f := 17) rfl ?_); refine goesL_ (some 74) rfl rfl Try.func17 (by kernel_rfl) rfl #[.slice A0 l0.length c0, .int .i64 a1, .string (rdOf ByteArray.empty t617 x13_2)] rfl sl_ ?_; (with_reducible refine (spec_ReadAt.calls k2 _ _ l0 a1 (rdOf ByteArray.empty t617 x13_2) t631 false _ ?side1 ?side2 A24.out).mono ?_); (case side1 => exact kC_ (Kd.C_below HR0.out HB.out)); (case side2 => exact HC0.out); rintro e w38 ⟨rfl, hb⟩; refine ⟨_, rfl, ?_⟩; replace HO_7 := Aside0.mk (Kd.R_below (kR_ HO_7.out) hb); replace HO_9 := Aside0.mk (Kd.R_below (kR_ HO_9.out) hb); replace HB := Aside0.mk (below_step hb_ hb); (try clear hb); (try clear hk); have p637 : 0 ≤ (x13_2 : Int) := dt_; have q637 : x13_2 < (t617.length : Int) := dt_; obtain ⟨ad637, e637, hx637_0⟩ := Kd.at_string (Kd.R_reads' HO_9.out).2.2 x13_2 p637 q637; obtain rfl : ad627 = ad637 := (by injection e637); replace p637 := eq_true p637; replace q637 := eq_true q637) | ((with_reducible refine gate_builtin (b := .append) (xs := #[.tmp 80, .tmp 86]) rfl ?_); at_builtin; refine Kd.R_append k37 (w0 := w) w.heap.size rfl (.tmp 80) (.tmp 86) 23 37 (.agg #[(.string ⟨#[]⟩), (.int .i64 0)]) 24 rfl Try.underlying23 info37 rfl (by decide) (by omega) u7 x7_2 (⟨rdOf ByteArray.empty t617 x13_2, 0⟩ : S37) [.string (rdOf ByteArray.empty t617 x13_2), .int .i64 0] (fun _ => True) (fun _ => False) rfl rfl ?aP (fun _ hk => hk.elim) ?aF ?aO ?aB ?aS ?aL ?_; (case aP => exact k37_mkM _ _ _ (⟨rdOf ByteArray.empty t617 x13_2, 0⟩ : S37)); (case aB => exact hb_); (case aF => exact (fun _ _ => trivial)); (case aO => exact (kR_ HO_7.out)); (case aS => exact (below_size hb_)); (case aL => have := LMc35.out; omega); intro v639 w39 ho hb hg hat; rw [← Ny638.out] at ho; have n0_ := Aside0.mk (Kd.R_over' (kR_ HO_9.out) (Kd.R_typed (kR_ HO_7.out)) (by decide) hg); have n1_ := Aside0.mk (hb); have n2_ := Aside0.mk (ho); clear HO_9; clear HB; clear HO_7; have HO_9 := n0_; have HB := n1_; have HO640 := n2_; clear n0_ n1_ n2_; clear ho hb hg hat))
        go_roundg k2
        case measure => have := HK1.out; have := HK2.out; omega
        case rel => exact ⟨(y638), (wrap64 (x13_2 + 1)), rs_, H', ⟨by have := HK1.out; have := HK2.out; omega⟩, ⟨by (with_reducible repeat (first | apply Kd.R_alloc | apply Kd.R_drewN | apply Kd.R_drew)); exact HO640.out⟩, ⟨by (with_reducible repeat (first | apply Kd.R_alloc | apply Kd.R_drewN | apply Kd.R_drew)); exact HO_9.out⟩, ⟨hb_⟩⟩
      ·rw [if_neg c21] at H
       have c21b0 : decide (x13_2 < (t617.length : Int)) = false := decide_eq_false c21
       clear c21
       obtain rfl := Option.some.inj H
       obtain ⟨Ao40, co40, eo40⟩ := Kd.R_slice HO_9.out
       subst eo40
       go_wp2
       go_ret
       exact ⟨_, er_, by (with_reducible repeat (first | apply Kd.R_alloc | apply Kd.R_drewN | apply Kd.R_drew)); exact HO_7.out, hb_⟩
/-! ### spec_DrawCountKind: function 4 -/
def spec_DrawCountKind.f (k : Nat) (l0 : List Int) : Option ((List (S37)) × Int) := (spec_l20Two.f k l0).bind fun bt641 => ((spec_ChangesOf.f k bt641.1 bt641.2.1 bt641.2.2).bind fun t646 => ((spec_l20Open.f l0).bind fun bt649 => ((spec_l20Rd_pick.f k bt649.1 bt649.2 4).bind fun bt652 => (some (t646, bt652.1)))))
theorem spec_DrawCountKind.mono : ∀ a0 k, LeO (spec_DrawCountKind.f k a0) (spec_DrawCountKind.f (k + 1) a0) := by
 intro a0 k
 unfold spec_DrawCountKind.f
 repeat' first
   | (with_reducible exact spec_ChangesOf.mono _ _ _ _)
   | (with_reducible exact spec_l20Rd_pick.mono _ _ _ _)
   | (with_reducible exact spec_l20Two.mono _ _)
   | (with_reducible exact LeO.refl _)
   | (with_reducible exact LeO.none _)
   | (with_reducible refine LeO.ite ?_ ?_)
   | (with_reducible refine LeO.bind ?_ (fun _ => ?_))
   | exact spec_ChangesOf.mono _ _ _ _
   | exact spec_l20Rd_pick.mono _ _ _ _
   | exact spec_l20Two.mono _ _
   | exact LeO.none _
   | refine LeO.ite ?_ ?_
   | refine LeO.bind ?_ (fun _ => ?_)
set_option maxHeartbeats 8000000 in
set_option maxRecDepth 100000 in
theorem spec_DrawCountKind.calls (k : Nat) (A0 : Option Addr) (c0 : Nat) (l0 : List Int) (r1 : List (S37)) (r2 : Int) (w : World) (hr0 : Kd.C (Kd.int .u8) w A0 l0.length l0) (hc0 : l0.length ≤ c0) (h : spec_DrawCountKind.f k l0 = some (r1, r2)) :
  Calls Try.prog 4 #[.slice A0 l0.length c0] w fun e w' => ∃ v0_ : Value, e = .returned (.tuple #[v0_, .int .i64 r2]) ∧ Kd.R k37 37 w' w.heap.size (fun _ => True) v0_ r1 ∧ Below w.heap.size w w' := by
 have HR0 := Aside0.mk hr0
 have HC0 := Aside0.mk hc0
 clear hr0 hc0
 have HB := Aside0.mk (Below.refl w.heap.size w)
 have H : ((spec_l20Two.f k l0).bind fun bt641 => ((spec_ChangesOf.f k bt641.1 bt641.2.1 bt641.2.2).bind fun t646 => ((spec_l20Open.f l0).bind fun bt649 => ((spec_l20Rd_pick.f k bt649.1 bt649.2 4).bind fun bt652 => (some (t646, bt652.1)))))) = some (r1, r2) := h
 clear h
 replace H := Option.bind_eq_some_iff.mp H
 obtain ⟨⟨t641, t644, t645⟩, A20, H⟩ := H
 replace H : ((spec_ChangesOf.f k t641 t644 t645).bind fun t646 => ((spec_l20Open.f l0).bind fun bt649 => ((spec_l20Rd_pick.f k bt649.1 bt649.2 4).bind fun bt652 => (some (t646, bt652.1))))) = some (r1, r2) := H
 have A2 := Aside0.mk A20
 clear A20
 replace H := Option.bind_eq_some_iff.mp H
 obtain ⟨t646, A30, H⟩ := H
 replace H : ((spec_l20Open.f l0).bind fun bt649 => ((spec_l20Rd_pick.f k bt649.1 bt649.2 4).bind fun bt652 => (some (t646, bt652.1)))) = some (r1, r2) := H
 have A3 := Aside0.mk A30
 clear A30
 replace H := Option.bind_eq_some_iff.mp H
 obtain ⟨⟨t649, t650⟩, A40, H⟩ := H
 replace H : ((spec_l20Rd_pick.f k t649 t650 4).bind fun bt652 => (some (t646, bt652.1))) = some (r1, r2) := H
 have A4 := Aside0.mk A40
 clear A40
 replace H := Option.bind_eq_some_iff.mp H
 obtain ⟨⟨t652, t653⟩, A50, H⟩ := H
 replace H : (some (t646, t652)) = some (r1, r2) := H
 have A5 := Aside0.mk A50
 clear A50
 simp only [Option.some.injEq, Prod.mk.injEq] at H
 obtain ⟨rfl, rfl⟩ := H
 go_enter Try.func4, Try.ntmps4
 go_wp2_with (first | ((with_reducible refine gate_callee (f := 8) rfl ?_); refine goesL_ (some 9) rfl rfl Try.func8 (by kernel_rfl) rfl #[.slice A0 l0.length c0] rfl sl_ ?_; (with_reducible refine (spec_l20Two.calls k _ _ l0 t641 t644 t645 _ ?side1 ?side2 A2.out).mono ?_); (case side1 => exact kC_ HR0.out); (case side2 => exact HC0.out); rintro e w6 ⟨v642, rfl, ho0, hb⟩; refine ⟨_, rfl, ?_⟩; have HO643 := Aside0.mk (Kd.V_lower (Kd.V_mono (ok' := fun k_ => True) ho0 (fun k_ hk_ => trivial)) (below_size hb_)); replace HB := Aside0.mk (below_step hb_ hb); (try clear hb); (try clear hb2); (try clear hk); (try clear hi); (try clear ho0); obtain ⟨Ao7, co7, eo7⟩ := Kd.V_slice HO643.out; subst eo7) | ((with_reducible refine gate_callee (f := 9) rfl ?_); refine goesL_ (some 16) rfl rfl Try.func9 (by kernel_rfl) rfl #[.slice Ao7 t641.length co7, .int .i64 t644, .int .i64 t645] rfl sl_ ?_; (with_reducible refine (spec_ChangesOf.calls k _ _ t641 t644 t645 t646 _ ?side1 ?side2 A3.out).mono ?_); (case side1 => exact kC_ ((Kd.V_reads' HO643.out).2.2)); (case side2 => exact (Kd.V_reads' HO643.out).2.1); rintro e w8 ⟨v647, rfl, ho0, hb⟩; refine ⟨_, rfl, ?_⟩; have n0_ := Aside0.mk (Kd.V_elder' (kV_ HO643.out) (Kd.R_base ho0) hb); have n1_ := Aside0.mk (Kd.R_lower ho0 (below_size hb_)); have n2_ := Aside0.mk (below_step hb_ hb); clear HO643; clear HB; have HO643 := n0_; have HO648 := n1_; have HB := n2_; clear n0_ n1_ n2_; (try clear hb); (try clear hb2); (try clear hk); (try clear hi); (try clear ho0)) | ((with_reducible refine gate_callee (f := 10) rfl ?_); refine goesL_ (some 18) rfl rfl Try.func10 (by kernel_rfl) rfl #[.slice A0 l0.length c0] rfl sl_ ?_; (with_reducible refine (spec_l20Open.calls _ _ l0 t649 t650 w _ ?side1 ?side2 ?side3 A4.out).mono ?_); (case side1 => repeat (first | (with_reducible first | exact HB.out | apply below_alloc | apply pw_below_drewN | apply below_drew1) | exact HB.out)); (case side2 => exact HR0.out); (case side3 => exact HC0.out); rintro e w9 ⟨g651, rfl, hi, hb, hb2⟩; refine ⟨_, rfl, ?_⟩; replace HO648 := Aside0.mk (Kd.R_below (kR_ HO648.out) hb2); replace HB := Aside0.mk (hb); have HI651 := Aside0.mk (hi); (try clear hb); (try clear hb2); (try clear hk); (try clear hi)) | ((with_reducible refine gate_callee (f := 11) rfl ?_); refine goesL_ (some 19) rfl rfl Try.func11 (by kernel_rfl) rfl #[.pointer (some ⟨g651, 0, none⟩), .int .i64 4] rfl sl_ ?_; (with_reducible refine (spec_l20Rd_pick.calls k g651 t649 t650 4 t652 t653 w _ ?side1 ?side2 A5.out).mono ?_); (case side1 => repeat (first | (with_reducible first | exact HI651.out | apply IsS51.alloc | apply IsS51.drewN | apply IsS51.drew | apply IsS51.set_1) | exact HI651.out)); (case side2 => repeat (first | (with_reducible first | exact HB.out | apply below_alloc | apply pw_below_drewN | apply below_drew1 | refine below_set ?_ (IsS51.ge HI651.out)) | exact HB.out)); rintro e w10 ⟨rfl, hi, hb, hk⟩; refine ⟨_, rfl, ?_⟩; replace HO648 := Aside0.mk (Kd.R_mono (Kd.R_keep (IsS51.apart (show IsS51 w _ g651 t649 t650 from by repeat (first | (with_reducible first | exact HI651.out | apply IsS51.alloc | apply IsS51.drewN | apply IsS51.drew | apply IsS51.set_1) | exact HI651.out)) (kR_ HO648.out) (by decide)) hk (fun _ h => h.2)) (fun _ h => h.1)); replace HB := Aside0.mk (hb); replace HI651 := Aside0.mk (hi); (try clear hb); (try clear hb2); (try clear hk); (try clear hi)))
 go_ret2
 exact ⟨_, er_, by (with_reducible repeat (first | apply Kd.R_alloc | apply Kd.R_drewN | apply Kd.R_drew)); exact HO648.out, by repeat (first | (with_reducible first | exact HB.out | apply below_alloc | apply pw_below_drewN | apply below_drew1 | refine below_set ?_ (IsS51.ge HI651.out)) | exact HB.out)⟩
/-! ### impl_CountKind: function 5 -/
def impl_CountKind.l0 : Nat → Int → Int → List (S37) → Int → Int → Option (Int)
 | 0, _, _, _, _, _ => none
 | k + 1, x1, x5, x8, x9, x10 => if x10 < x9 then (if 0 ≤ x10 then (if x10 < (x8.length : Int) then (if ((rd_T37 x8 x10).f1) = x1 then (impl_CountKind.l0 k x1 (wrap64 (x5 + 1)) x8 x9 (wrap64 (x10 + 1))) else (impl_CountKind.l0 k x1 x5 x8 x9 (wrap64 (x10 + 1)))) else (none)) else (none)) else (some x5)
def impl_CountKind.f (k : Nat) (l0 : List (S37)) (a1 : Int) : Option (Int) := impl_CountKind.l0 k a1 0 l0 (l0.length : Int) 0
theorem impl_CountKind.mono_l : ∀ k, (∀ y0 y1 y2 y3 y4, LeO (impl_CountKind.l0 k y0 y1 y2 y3 y4) (impl_CountKind.l0 (k + 1) y0 y1 y2 y3 y4))
 | 0 => fun _ _ _ _ _ r h => by simp [impl_CountKind.l0] at h
 | k + 1 => by
  have ih0 := impl_CountKind.mono_l k
  ·intro y0 y1 y2 y3 y4
   unfold impl_CountKind.l0
   repeat' first
   | (with_reducible exact ih0 _ _ _ _ _)
   | (with_reducible exact LeO.refl _)
   | (with_reducible exact LeO.none _)
   | (with_reducible refine LeO.ite ?_ ?_)
   | (with_reducible refine LeO.bind ?_ (fun _ => ?_))
   | exact ih0 _ _ _ _ _
   | exact LeO.none _
   | refine LeO.ite ?_ ?_
   | refine LeO.bind ?_ (fun _ => ?_)
theorem impl_CountKind.mono : ∀ a0 a1 k, LeO (impl_CountKind.f k a0 a1) (impl_CountKind.f (k + 1) a0 a1) := by
 intro a0 a1 k
 have ih0 := impl_CountKind.mono_l k
 unfold impl_CountKind.f
 repeat' first
   | (with_reducible exact ih0 _ _ _ _ _)
   | (with_reducible exact LeO.refl _)
   | (with_reducible exact LeO.none _)
   | (with_reducible refine LeO.ite ?_ ?_)
   | (with_reducible refine LeO.bind ?_ (fun _ => ?_))
   | exact ih0 _ _ _ _ _
   | exact LeO.none _
   | refine LeO.ite ?_ ?_
   | refine LeO.bind ?_ (fun _ => ?_)
set_option maxHeartbeats 8000000 in
set_option maxRecDepth 100000 in
theorem impl_CountKind.calls (k : Nat) (A0 : Option Addr) (c0 : Nat) (l0 : List (S37)) (a1 : Int) (r : Int) (w : World) (hr0 : Kd.C k37 w A0 l0.length l0) (hc0 : l0.length ≤ c0) (h : impl_CountKind.f k l0 a1 = some r) :
  Calls Try.prog 5 #[.slice A0 l0.length c0, .int .i64 a1] w fun e w' => e = .returned (.int .i64 r) ∧ Below w.heap.size w w' := by
 have hu37 := Try.underlying37
 have HR0 := Aside0.mk hr0
 have HC0 := Aside0.mk hc0
 clear hr0 hc0
 have HB := Aside0.mk (Below.refl w.heap.size w)
 have H : (impl_CountKind.l0 k a1 0 l0 (l0.length : Int) 0) = some r := h
 clear h
 have H' := Aside0.mk H
 clear H
 go_enter Try.func5, Try.ntmps5
 go_wp2
 go_loopg [5, 10] k (fun kq v5 v10 w' => ∃ (x5_1 : Int) (x10_1 : Int), v5 = .int .i64 x5_1 ∧ v10 = .int .i64 x10_1 ∧ Aside0 (impl_CountKind.l0 kq a1 x5_1 l0 (l0.length : Int) x10_1 = some r) ∧ Aside0 (kq ≤ k) ∧ Aside0 (Below w.heap.size w w'))
 case atStart => exact ⟨(0), (0), rs_, rs_, H', ⟨Nat.le_refl _⟩, ⟨hb_⟩⟩
 case round =>
  clear H'
  try clear p2
  obtain ⟨x5_1, x10_1, rfl, rfl, HA, HK1, HB⟩ := hrel
  cases gk with
  | zero => exact absurd HA.out (by simp [impl_CountKind.l0])
  | succ k1 =>
   have H := HA.out
   clear HA
   simp only [impl_CountKind.l0] at H
   by_cases c3 : x10_1 < (l0.length : Int)
   ·rw [if_pos c3] at H
    have c3b0 : decide (x10_1 < (l0.length : Int)) = true := decide_eq_true c3
    clear c3
    by_cases c4 : 0 ≤ x10_1; rotate_left
    ·rw [if_neg c4] at H; exact absurd H (by simp)
    rw [if_pos c4] at H
    have c4b0 : decide (0 ≤ x10_1) = true := decide_eq_true c4
    clear c4
    by_cases c5 : x10_1 < (l0.length : Int); rotate_left
    ·rw [if_neg c5] at H; exact absurd H (by simp)
    rw [if_pos c5] at H
    have c5b0 : decide (x10_1 < (l0.length : Int)) = true := decide_eq_true c5
    clear c5
    by_cases c6 : ((rd_T37 l0 x10_1).f1) = a1
    ·rw [if_pos c6] at H
     have c6b0 : (((rd_T37 l0 x10_1).f1) == a1) = true := beq_iff_eq.mpr c6
     have c6b1 : (((rd_T37 l0 x10_1).f1) != a1) = false := bne_eq_false_iff_eq.mpr c6
     clear c6
     have H' := Aside0.mk H
     clear H
     have p654 : 0 ≤ (x10_1 : Int) := dt_
     have q654 : x10_1 < (l0.length : Int) := dt_
     obtain ⟨ad654, e654, hx654_0, hx654_1⟩ := at_T37 HR0.out x10_1 p654 q654
     cases e654
     replace hx654_0 := cb_ HB.out hx654_0
     replace hx654_1 := cb_ HB.out hx654_1
     replace p654 := eq_true p654
     replace q654 := eq_true q654
     go_wp2_with (first | ((with_reducible refine gate_dst (N := 7) rfl ?_); refine box_event ?hg (N := 7) ?hd (cs := #[.string (⟨#[]⟩ : ByteArray), .int .i64 0]) (t := 37) ?hr ?_; (case hd => rfl); (case hg => rfl); (case hr => first | (go_simp; done) | (go_simp; rfl)); intro gb655 hg w7 hbox hb; have n0_ := Aside0.mk (below_step hb_ hb); have n1_ := Aside0.mk (hbox); have n2_ := Aside0.mk ((by rw [hg]; exact (below_size hb_) : w.heap.size ≤ gb655)); have n3_ := Aside0.mk ((by rw [hg]; exact (below_size hb_) : w.heap.size ≤ gb655)); clear HB; have HB := n0_; have BK655 := n1_; have GW655 := n2_; have GE655 := n3_; clear n0_ n1_ n2_ n3_; clear hb hbox hg; have hcz8_0 : w7.cell? ⟨gb655, 0, none⟩ = some (.string (⟨#[]⟩ : ByteArray)) := (blk_cell BK655.out 0).trans rfl; have hcz8_1 : w7.cell? ⟨gb655, 1, none⟩ = some (.int .i64 0) := (blk_cell BK655.out 1).trans rfl; have hfz8_0 := blk_frozen BK655.out 0; have hfz8_1 := blk_frozen BK655.out 1))
     go_roundg k1
     case measure => have := HK1.out; omega
     case rel => exact ⟨(wrap64 (x5_1 + 1)), (wrap64 (x10_1 + 1)), rs_, rs_, H', ⟨by have := HK1.out; omega⟩, ⟨by repeat (first | (with_reducible first | exact HB.out | apply below_alloc | apply pw_below_drewN | apply below_drew1 | refine below_set ?_ GE655.out) | exact HB.out)⟩⟩
    ·rw [if_neg c6] at H
     have c6b0 : (((rd_T37 l0 x10_1).f1) == a1) = false := beq_eq_false_iff_ne.mpr c6
     have c6b1 : (((rd_T37 l0 x10_1).f1) != a1) = true := bne_iff_ne.mpr c6
     have H' := Aside0.mk H
     clear H
     have p654 : 0 ≤ (x10_1 : Int) := dt_
     have q654 : x10_1 < (l0.length : Int) := dt_
     obtain ⟨ad654, e654, hx654_0, hx654_1⟩ := at_T37 HR0.out x10_1 p654 q654
     cases e654
     replace hx654_0 := cb_ HB.out hx654_0
     replace hx654_1 := cb_ HB.out hx654_1
     replace p654 := eq_true p654
     replace q654 := eq_true q654
     go_wp2_with (first | ((with_reducible refine gate_dst (N := 7) rfl ?_); refine box_event ?hg (N := 7) ?hd (cs := #[.string (⟨#[]⟩ : ByteArray), .int .i64 0]) (t := 37) ?hr ?_; (case hd => rfl); (case hg => rfl); (case hr => first | (go_simp; done) | (go_simp; rfl)); intro gb655 hg w9 hbox hb; have n0_ := Aside0.mk (below_step hb_ hb); have n1_ := Aside0.mk (hbox); have n2_ := Aside0.mk ((by rw [hg]; exact (below_size hb_) : w.heap.size ≤ gb655)); have n3_ := Aside0.mk ((by rw [hg]; exact (below_size hb_) : w.heap.size ≤ gb655)); clear HB; have HB := n0_; have BK655 := n1_; have GW655 := n2_; have GE655 := n3_; clear n0_ n1_ n2_ n3_; clear hb hbox hg; have hcz10_0 : w9.cell? ⟨gb655, 0, none⟩ = some (.string (⟨#[]⟩ : ByteArray)) := (blk_cell BK655.out 0).trans rfl; have hcz10_1 : w9.cell? ⟨gb655, 1, none⟩ = some (.int .i64 0) := (blk_cell BK655.out 1).trans rfl; have hfz10_0 := blk_frozen BK655.out 0; have hfz10_1 := blk_frozen BK655.out 1))
     go_roundg k1
     case measure => have := HK1.out; omega
     case rel => exact ⟨(x5_1), (wrap64 (x10_1 + 1)), rs_, rs_, H', ⟨by have := HK1.out; omega⟩, ⟨by repeat (first | (with_reducible first | exact HB.out | apply below_alloc | apply pw_below_drewN | apply below_drew1 | refine below_set ?_ GE655.out) | exact HB.out)⟩⟩
   ·rw [if_neg c3] at H
    have c3b0 : decide (x10_1 < (l0.length : Int)) = false := decide_eq_false c3
    clear c3
    obtain rfl := Option.some.inj H
    go_wp2
    go_ret
    exact ⟨er_, hb_⟩
/-! ### spec_CountKind: function 6 -/
def spec_CountKind.l0 : Nat → List (S37) → Int → Int → Int → Option (Int)
 | 0, _, _, _, _ => none
 | k + 1, x0, x1, x5, x6 => if x6 < (x0.length : Int) then (if 0 ≤ x6 then (if ((rd_T37 x0 x6).f1) = x1 then (spec_CountKind.l0 k x0 x1 (wrap64 (x5 + 1)) (wrap64 (x6 + 1))) else (spec_CountKind.l0 k x0 x1 x5 (wrap64 (x6 + 1)))) else (none)) else (some x5)
def spec_CountKind.f (k : Nat) (l0 : List (S37)) (a1 : Int) : Option (Int) := spec_CountKind.l0 k l0 a1 0 0
theorem spec_CountKind.mono_l : ∀ k, (∀ y0 y1 y2 y3, LeO (spec_CountKind.l0 k y0 y1 y2 y3) (spec_CountKind.l0 (k + 1) y0 y1 y2 y3))
 | 0 => fun _ _ _ _ r h => by simp [spec_CountKind.l0] at h
 | k + 1 => by
  have ih0 := spec_CountKind.mono_l k
  ·intro y0 y1 y2 y3
   unfold spec_CountKind.l0
   repeat' first
   | (with_reducible exact ih0 _ _ _ _)
   | (with_reducible exact LeO.refl _)
   | (with_reducible exact LeO.none _)
   | (with_reducible refine LeO.ite ?_ ?_)
   | (with_reducible refine LeO.bind ?_ (fun _ => ?_))
   | exact ih0 _ _ _ _
   | exact LeO.none _
   | refine LeO.ite ?_ ?_
   | refine LeO.bind ?_ (fun _ => ?_)
theorem spec_CountKind.mono : ∀ a0 a1 k, LeO (spec_CountKind.f k a0 a1) (spec_CountKind.f (k + 1) a0 a1) := by
 intro a0 a1 k
 have ih0 := spec_CountKind.mono_l k
 unfold spec_CountKind.f
 repeat' first
   | (with_reducible exact ih0 _ _ _ _)
   | (with_reducible exact LeO.refl _)
   | (with_reducible exact LeO.none _)
   | (with_reducible refine LeO.ite ?_ ?_)
   | (with_reducible refine LeO.bind ?_ (fun _ => ?_))
   | exact ih0 _ _ _ _
   | exact LeO.none _
   | refine LeO.ite ?_ ?_
   | refine LeO.bind ?_ (fun _ => ?_)
set_option maxHeartbeats 8000000 in
set_option maxRecDepth 100000 in
theorem spec_CountKind.calls (k : Nat) (A0 : Option Addr) (c0 : Nat) (l0 : List (S37)) (a1 : Int) (r : Int) (w : World) (hr0 : Kd.C k37 w A0 l0.length l0) (hc0 : l0.length ≤ c0) (h : spec_CountKind.f k l0 a1 = some r) :
  Calls Try.prog 6 #[.slice A0 l0.length c0, .int .i64 a1] w fun e w' => e = .returned (.int .i64 r) ∧ Drawn0 w w' := by
 have HR0 := Aside0.mk hr0
 have HC0 := Aside0.mk hc0
 clear hr0 hc0
 have H : (spec_CountKind.l0 k l0 a1 0 0) = some r := h
 clear h
 have H' := Aside0.mk H
 clear H
 go_enter Try.func6, Try.ntmps6
 go_wp2
 go_loopg [5, 6] k (fun kq v5 v6 w' => ∃ (x5_1 : Int) (x6_1 : Int), v5 = .int .i64 x5_1 ∧ v6 = .int .i64 x6_1 ∧ Aside0 (spec_CountKind.l0 kq l0 a1 x5_1 x6_1 = some r) ∧ Aside0 (kq ≤ k) ∧ Drawn0 w w')
 case atStart => exact ⟨(0), (0), rs_, rs_, H', ⟨Nat.le_refl _⟩, by repeat (first | exact Drawn0.refl _ | apply Drawn0.step)⟩
 case round =>
  clear H'
  try clear p2
  obtain ⟨x5_1, x6_1, rfl, rfl, HA, HK1, ⟨m1, rfl⟩⟩ := hrel
  cases gk with
  | zero => exact absurd HA.out (by simp [spec_CountKind.l0])
  | succ k1 =>
   have H := HA.out
   clear HA
   simp only [spec_CountKind.l0] at H
   by_cases c3 : x6_1 < (l0.length : Int)
   ·rw [if_pos c3] at H
    have c3b0 : decide (x6_1 < (l0.length : Int)) = true := decide_eq_true c3
    clear c3
    by_cases c4 : 0 ≤ x6_1; rotate_left
    ·rw [if_neg c4] at H; exact absurd H (by simp)
    rw [if_pos c4] at H
    have c4b0 : decide (0 ≤ x6_1) = true := decide_eq_true c4
    clear c4
    by_cases c5 : ((rd_T37 l0 x6_1).f1) = a1
    ·rw [if_pos c5] at H
     have c5b0 : (((rd_T37 l0 x6_1).f1) == a1) = true := beq_iff_eq.mpr c5
     have c5b1 : (((rd_T37 l0 x6_1).f1) != a1) = false := bne_eq_false_iff_eq.mpr c5
     clear c5
     have H' := Aside0.mk H
     clear H
     have p656 : 0 ≤ (x6_1 : Int) := dt_
     have q656 : x6_1 < (l0.length : Int) := dt_
     obtain ⟨ad656, e656, hx656_0, hx656_1⟩ := at_T37 HR0.out x6_1 p656 q656
     cases e656
     replace p656 := eq_true p656
     replace q656 := eq_true q656
     go_wp2
     go_roundg k1
     case measure => have := HK1.out; omega
     case rel => exact ⟨(wrap64 (x5_1 + 1)), (wrap64 (x6_1 + 1)), rs_, rs_, H', ⟨by have := HK1.out; omega⟩, by repeat (first | exact Drawn0.refl _ | apply Drawn0.step)⟩
    ·rw [if_neg c5] at H
     have c5b0 : (((rd_T37 l0 x6_1).f1) == a1) = false := beq_eq_false_iff_ne.mpr c5
     have c5b1 : (((rd_T37 l0 x6_1).f1) != a1) = true := bne_iff_ne.mpr c5
     have H' := Aside0.mk H
     clear H
     have p656 : 0 ≤ (x6_1 : Int) := dt_
     have q656 : x6_1 < (l0.length : Int) := dt_
     obtain ⟨ad656, e656, hx656_0, hx656_1⟩ := at_T37 HR0.out x6_1 p656 q656
     cases e656
     replace p656 := eq_true p656
     replace q656 := eq_true q656
     go_wp2
     go_roundg k1
     case measure => have := HK1.out; omega
     case rel => exact ⟨(x5_1), (wrap64 (x6_1 + 1)), rs_, rs_, H', ⟨by have := HK1.out; omega⟩, by repeat (first | exact Drawn0.refl _ | apply Drawn0.step)⟩
   ·rw [if_neg c3] at H
    have c3b0 : decide (x6_1 < (l0.length : Int)) = false := decide_eq_false c3
    clear c3
    obtain rfl := Option.some.inj H
    go_wp2
    go_ret
    exact ⟨by first | rfl | (simp; done) | (simp [*]; done), by repeat (first | exact Drawn0.refl _ | apply Drawn0.step)⟩
/-! ### impl_isDigit: function 18 -/
def impl_isDigit.f (a0 : Int) : Option (Bool) := if a0 ≥ 48 then (some (decide (a0 ≤ 57))) else (some false)
set_option maxHeartbeats 8000000 in
set_option maxRecDepth 100000 in
theorem impl_isDigit.calls (a0 : Int) (r : Bool) (w : World) (h : impl_isDigit.f a0 = some r) :
  Calls Try.prog 18 #[.int .u8 a0] w fun e w' => e = .returned (.bool r) ∧ Drawn0 w w' := by
 have H : (if a0 ≥ 48 then (some (decide (a0 ≤ 57))) else (some false)) = some r := h
 clear h
 by_cases c2 : a0 ≥ 48
 ·rw [if_pos c2] at H
  have c2b0 : decide (48 ≤ a0) = true := decide_eq_true c2
  clear c2
  obtain rfl := Option.some.inj H
  go_enter Try.func18, Try.ntmps18
  go_wp2
  go_ret
  exact ⟨by first | rfl | (simp; done) | (simp [*]; done), by repeat (first | exact Drawn0.refl _ | apply Drawn0.step)⟩
 ·rw [if_neg c2] at H
  have c2b0 : decide (48 ≤ a0) = false := decide_eq_false c2
  clear c2
  obtain rfl := Option.some.inj H
  go_enter Try.func18, Try.ntmps18
  go_wp2
  go_ret
  exact ⟨by first | rfl | (simp; done) | (simp [*]; done), by repeat (first | exact Drawn0.refl _ | apply Drawn0.step)⟩
/-! ### impl_isSmall: function 19 -/
def impl_isSmall.f (a0 : Int) : Option (Bool) := if a0 ≥ 97 then (some (decide (a0 ≤ 122))) else (some false)
set_option maxHeartbeats 8000000 in
set_option maxRecDepth 100000 in
theorem impl_isSmall.calls (a0 : Int) (r : Bool) (w : World) (h : impl_isSmall.f a0 = some r) :
  Calls Try.prog 19 #[.int .u8 a0] w fun e w' => e = .returned (.bool r) ∧ Drawn0 w w' := by
 have H : (if a0 ≥ 97 then (some (decide (a0 ≤ 122))) else (some false)) = some r := h
 clear h
 by_cases c2 : a0 ≥ 97
 ·rw [if_pos c2] at H
  have c2b0 : decide (97 ≤ a0) = true := decide_eq_true c2
  clear c2
  obtain rfl := Option.some.inj H
  go_enter Try.func19, Try.ntmps19
  go_wp2
  go_ret
  exact ⟨by first | rfl | (simp; done) | (simp [*]; done), by repeat (first | exact Drawn0.refl _ | apply Drawn0.step)⟩
 ·rw [if_neg c2] at H
  have c2b0 : decide (97 ≤ a0) = false := decide_eq_false c2
  clear c2
  obtain rfl := Option.some.inj H
  go_enter Try.func19, Try.ntmps19
  go_wp2
  go_ret
  exact ⟨by first | rfl | (simp; done) | (simp [*]; done), by repeat (first | exact Drawn0.refl _ | apply Drawn0.step)⟩
/-! ### impl_WordValid: function 12 -/
mutual
def impl_WordValid.j0 : Nat → ByteArray → Bool → Option (Bool)
 | 0, _, _ => none
 | k + 1, x0, x16 => if x16 = true then (some false) else (impl_WordValid.l0 k x0 0)
def impl_WordValid.l0 : Nat → ByteArray → Int → Option (Bool)
 | 0, _, _ => none
 | k + 1, x0, x3 => if x3 < (x0.size : Int) then (if 0 ≤ x3 then ((impl_isSmall.f (bt x0 x3)).bind fun t658 => (if t658 = true then (impl_WordValid.l0 k x0 (wrap64 (x3 + 1))) else ((impl_isDigit.f (bt x0 x3)).bind fun t659 => (if t659 = true then (impl_WordValid.l0 k x0 (wrap64 (x3 + 1))) else (some false))))) else (none)) else (some true)
end
def impl_WordValid.f (k : Nat) (a0 : ByteArray) : Option (Bool) := if (a0.size : Int) < 1 then (impl_WordValid.j0 k a0 true) else (if (a0.size : Int) > 8 then (impl_WordValid.j0 k a0 true) else (if 0 < (a0.size : Int) then ((impl_isDigit.f (bt a0 0)).bind fun t657 => (impl_WordValid.j0 k a0 t657)) else (none)))
theorem impl_WordValid.mono_l : ∀ k, (∀ y0 y1, LeO (impl_WordValid.j0 k y0 y1) (impl_WordValid.j0 (k + 1) y0 y1)) ∧ (∀ y0 y1, LeO (impl_WordValid.l0 k y0 y1) (impl_WordValid.l0 (k + 1) y0 y1))
 | 0 => ⟨fun _ _ r h => by simp [impl_WordValid.j0] at h, fun _ _ r h => by simp [impl_WordValid.l0] at h⟩
 | k + 1 => by
  obtain ⟨ih0, ih1⟩ := impl_WordValid.mono_l k
  refine ⟨?_, ?_⟩
  ·intro y0 y1
   unfold impl_WordValid.j0
   repeat' first
   | (with_reducible exact ih0 _ _)
   | (with_reducible exact ih1 _ _)
   | (with_reducible exact LeO.refl _)
   | (with_reducible exact LeO.none _)
   | (with_reducible refine LeO.ite ?_ ?_)
   | (with_reducible refine LeO.bind ?_ (fun _ => ?_))
   | exact ih0 _ _
   | exact ih1 _ _
   | exact LeO.none _
   | refine LeO.ite ?_ ?_
   | refine LeO.bind ?_ (fun _ => ?_)
  ·intro y0 y1
   unfold impl_WordValid.l0
   repeat' first
   | (with_reducible exact ih0 _ _)
   | (with_reducible exact ih1 _ _)
   | (with_reducible exact LeO.refl _)
   | (with_reducible exact LeO.none _)
   | (with_reducible refine LeO.ite ?_ ?_)
   | (with_reducible refine LeO.bind ?_ (fun _ => ?_))
   | exact ih0 _ _
   | exact ih1 _ _
   | exact LeO.none _
   | refine LeO.ite ?_ ?_
   | refine LeO.bind ?_ (fun _ => ?_)
theorem impl_WordValid.mono : ∀ a0 k, LeO (impl_WordValid.f k a0) (impl_WordValid.f (k + 1) a0) := by
 intro a0 k
 obtain ⟨ih0, ih1⟩ := impl_WordValid.mono_l k
 unfold impl_WordValid.f
 repeat' first
   | (with_reducible exact ih0 _ _)
   | (with_reducible exact ih1 _ _)
   | (with_reducible exact LeO.refl _)
   | (with_reducible exact LeO.none _)
   | (with_reducible refine LeO.ite ?_ ?_)
   | (with_reducible refine LeO.bind ?_ (fun _ => ?_))
   | exact ih0 _ _
   | exact ih1 _ _
   | exact LeO.none _
   | refine LeO.ite ?_ ?_
   | refine LeO.bind ?_ (fun _ => ?_)
set_option maxHeartbeats 8000000 in
set_option maxRecDepth 100000 in
theorem impl_WordValid.calls (k : Nat) (a0 : ByteArray) (r : Bool) (w : World) (h : impl_WordValid.f k a0 = some r) :
  Calls Try.prog 12 #[.string a0] w fun e w' => e = .returned (.bool r) ∧ Drawn0 w w' := by
 have H : (if (a0.size : Int) < 1 then (impl_WordValid.j0 k a0 true) else (if (a0.size : Int) > 8 then (impl_WordValid.j0 k a0 true) else (if 0 < (a0.size : Int) then ((impl_isDigit.f (bt a0 0)).bind fun t657 => (impl_WordValid.j0 k a0 t657)) else (none)))) = some r := h
 clear h
 have HC2 := Aside0.mk H
 clear H
 go_enter Try.func12, Try.ntmps12
 go_upto_region 1 with (fail)
 go_cut [16] (fun v16 wc => ∃ (kq : Nat) (x16_1 : Bool), v16 = .bool x16_1 ∧ Aside0 (impl_WordValid.j0 kq a0 x16_1 = some r) ∧ Aside0 (kq ≤ k) ∧ Drawn0 w wc)
 case first =>
  have H := HC2.out
  clear HC2
  by_cases c3 : (a0.size : Int) < 1
  ·rw [if_pos c3] at H
   have c3b0 : decide ((a0.size : Int) < 1) = true := decide_eq_true c3
   have c3b1 : decide (a0.size < 1) = true := decide_eq_true (by omega)
   clear c3
   (first | rw [c3b0] | (simp only [i64_w, i32_w]; rw [c3b0]) | skip)
   have H' := Aside0.mk H
   clear H
   go_wp2
   go_meet
   case rel => exact ⟨_, (true), rs_, H', ⟨by first | omega | exact Nat.le_refl _⟩, by repeat (first | exact Drawn0.refl _ | apply Drawn0.step)⟩
  ·rw [if_neg c3] at H
   have c3b0 : decide ((a0.size : Int) < 1) = false := decide_eq_false c3
   have c3b1 : decide (a0.size < 1) = false := decide_eq_false (by omega)
   clear c3
   (first | rw [c3b0] | (simp only [i64_w, i32_w]; rw [c3b0]) | skip)
   by_cases c4 : (a0.size : Int) > 8
   ·rw [if_pos c4] at H
    have c4b0 : decide (8 < (a0.size : Int)) = true := decide_eq_true c4
    have c4b1 : decide (8 < a0.size) = true := decide_eq_true (by omega)
    clear c4
    have H' := Aside0.mk H
    clear H
    go_wp2
    go_meet
    case rel => exact ⟨_, (true), rs_, H', ⟨by first | omega | exact Nat.le_refl _⟩, by repeat (first | exact Drawn0.refl _ | apply Drawn0.step)⟩
   ·rw [if_neg c4] at H
    have c4b0 : decide (8 < (a0.size : Int)) = false := decide_eq_false c4
    have c4b1 : decide (8 < a0.size) = false := decide_eq_false (by omega)
    clear c4
    by_cases c5 : 0 < (a0.size : Int); rotate_left
    ·rw [if_neg c5] at H; exact absurd H (by simp)
    rw [if_pos c5] at H
    have c5b0 : decide (0 < (a0.size : Int)) = true := decide_eq_true c5
    have c5b1 : decide (0 < a0.size) = true := decide_eq_true (by omega)
    clear c5
    replace H := Option.bind_eq_some_iff.mp H
    obtain ⟨t657, A70, H⟩ := H
    replace H : (impl_WordValid.j0 k a0 t657) = some r := H
    have A7 := Aside0.mk A70
    clear A70
    have H' := Aside0.mk H
    clear H
    have p6 : 0 ≤ (0 : Int) := (by omega)
    have q6 : 0 < a0.size := (by have : (0 : Int) < (a0.size : Int) := dt_; omega)
    have hx6 : ∀ h : 0 < a0.size, ((a0[0]'h).toNat : Int) = bt a0 0 := bt_at a0 0
    clear p6
    have qi6 : (0 < (a0.size : Int)) = True := eq_true (dt_)
    replace q6 := eq_true q6
    go_wp2_with (first | (go_at_call 18; (with_reducible refine (impl_isDigit.calls (bt a0 0) t657 _ A7.out).mono ?_); rintro e w' ⟨rfl, ⟨nd, rfl⟩⟩))
    go_meet
    case rel => exact ⟨_, (t657), rs_, H', ⟨by first | omega | exact Nat.le_refl _⟩, by repeat (first | exact Drawn0.refl _ | apply Drawn0.step)⟩
 case rest =>
  clear HC2
  try clear c1
  try clear p2
  try clear c3
  try clear c3b0
  try clear c3b1
  try clear c4
  try clear c4b0
  try clear c4b1
  try clear c5
  try clear c5b0
  try clear c5b1
  try clear p6
  try clear q6
  try clear hx6
  try clear qi6
  try clear p6
  try clear q6
  obtain ⟨kq, x16_1, rfl, HA, HJ1, ⟨mc1, rfl⟩⟩ := hcut
  cases kq with
  | zero => exact absurd HA.out (by simp [impl_WordValid.j0])
  | succ kj1 =>
   have H := HA.out
   clear HA
   simp only [impl_WordValid.j0] at H
   by_cases c8 : x16_1 = true
   ·subst c8
    have H1 : (some false) = some r := by rw [if_pos rfl] at H; exact H
    clear H
    have H := H1
    clear H1
    obtain rfl := Option.some.inj H
    go_wp2
    go_ret
    exact ⟨by first | rfl | (simp; done) | (simp [*]; done), by repeat (first | exact Drawn0.refl _ | apply Drawn0.step)⟩
   ·replace c8 := Bool.eq_false_iff.mpr c8
    subst c8
    have H1 : (impl_WordValid.l0 kj1 a0 0) = some r := by rw [if_neg (show ¬ (false = true) by decide)] at H; exact H
    clear H
    have H := H1
    clear H1
    have H' := Aside0.mk H
    clear H
    go_wp2
    go_loopg [3] kj1 (fun kq v3 w' => ∃ (x3_2 : Int), v3 = .int .i64 x3_2 ∧ Aside0 (impl_WordValid.l0 kq a0 x3_2 = some r) ∧ Aside0 (kq ≤ kj1) ∧ Drawn0 w w')
    case atStart => exact ⟨(0), rs_, H', ⟨Nat.le_refl _⟩, by repeat (first | exact Drawn0.refl _ | apply Drawn0.step)⟩
    case round =>
     clear H'
     try clear c1
     try clear p2
     try clear c3
     try clear c3b0
     try clear c3b1
     try clear c4
     try clear c4b0
     try clear c4b1
     try clear c5
     try clear c5b0
     try clear c5b1
     try clear p6
     try clear q6
     try clear hx6
     try clear qi6
     try clear c8
     try clear p2
     try clear p6
     try clear q6
     obtain ⟨x3_2, rfl, HA, HK2, ⟨m2, rfl⟩⟩ := hrel
     cases gk with
     | zero => exact absurd HA.out (by simp [impl_WordValid.l0])
     | succ k2 =>
      have H := HA.out
      clear HA
      simp only [impl_WordValid.l0] at H
      by_cases c9 : x3_2 < (a0.size : Int)
      ·rw [if_pos c9] at H
       have c9b0 : decide (x3_2 < (a0.size : Int)) = true := decide_eq_true c9
       clear c9
       by_cases c10 : 0 ≤ x3_2; rotate_left
       ·rw [if_neg c10] at H; exact absurd H (by simp)
       rw [if_pos c10] at H
       have c10b0 : decide (0 ≤ x3_2) = true := decide_eq_true c10
       clear c10
       replace H := Option.bind_eq_some_iff.mp H
       obtain ⟨t658, A120, H⟩ := H
       replace H : (if t658 = true then (impl_WordValid.l0 k2 a0 (wrap64 (x3_2 + 1))) else ((impl_isDigit.f (bt a0 x3_2)).bind fun t659 => (if t659 = true then (impl_WordValid.l0 k2 a0 (wrap64 (x3_2 + 1))) else (some false)))) = some r := H
       have A12 := Aside0.mk A120
       clear A120
       by_cases c13 : t658 = true
       ·subst c13
        have H1 : (impl_WordValid.l0 k2 a0 (wrap64 (x3_2 + 1))) = some r := by rw [if_pos rfl] at H; exact H
        clear H
        have H := H1
        clear H1
        have H' := Aside0.mk H
        clear H
        have p11 : 0 ≤ (x3_2 : Int) := dt_
        have q11 : x3_2 < (a0.size : Int) := dt_
        have hx11 := bt_at a0 x3_2
        replace p11 := eq_true p11
        replace q11 := eq_true q11
        go_wp2_with (first | ((with_reducible refine gate_callee (f := 19) rfl ?_); refine goesL_ (some 26) rfl rfl Try.func19 (by kernel_rfl) rfl #[.int .u8 (bt a0 x3_2)] rfl sl_ ?_; (with_reducible refine (impl_isSmall.calls (bt a0 x3_2) true _ A12.out).mono ?_); rintro e w' ⟨rfl, ⟨nd, rfl⟩⟩; refine ⟨_, rfl, ?_⟩))
        go_roundg k2
        case measure => have := HJ1.out; have := HK2.out; omega
        case rel => exact ⟨(wrap64 (x3_2 + 1)), rs_, H', ⟨by have := HJ1.out; have := HK2.out; omega⟩, by repeat (first | exact Drawn0.refl _ | apply Drawn0.step)⟩
       ·replace c13 := Bool.eq_false_iff.mpr c13
        subst c13
        have H1 : ((impl_isDigit.f (bt a0 x3_2)).bind fun t659 => (if t659 = true then (impl_WordValid.l0 k2 a0 (wrap64 (x3_2 + 1))) else (some false))) = some r := by rw [if_neg (show ¬ (false = true) by decide)] at H; exact H
        clear H
        have H := H1
        clear H1
        replace H := Option.bind_eq_some_iff.mp H
        obtain ⟨t659, A150, H⟩ := H
        replace H : (if t659 = true then (impl_WordValid.l0 k2 a0 (wrap64 (x3_2 + 1))) else (some false)) = some r := H
        have A15 := Aside0.mk A150
        clear A150
        by_cases c16 : t659 = true
        ·subst c16
         have H1 : (impl_WordValid.l0 k2 a0 (wrap64 (x3_2 + 1))) = some r := by rw [if_pos rfl] at H; exact H
         clear H
         have H := H1
         clear H1
         have H' := Aside0.mk H
         clear H
         have p11 : 0 ≤ (x3_2 : Int) := dt_
         have q11 : x3_2 < (a0.size : Int) := dt_
         have hx11 := bt_at a0 x3_2
         replace p11 := eq_true p11
         replace q11 := eq_true q11
         go_wp2_with (first | ((with_reducible refine gate_callee (f := 19) rfl ?_); refine goesL_ (some 26) rfl rfl Try.func19 (by kernel_rfl) rfl #[.int .u8 (bt a0 x3_2)] rfl sl_ ?_; (with_reducible refine (impl_isSmall.calls (bt a0 x3_2) false _ A12.out).mono ?_); rintro e w' ⟨rfl, ⟨nd, rfl⟩⟩; refine ⟨_, rfl, ?_⟩; have p14 : 0 ≤ (x3_2 : Int) := dt_; have q14 : x3_2 < (a0.size : Int) := dt_; have hx14 := bt_at a0 x3_2; replace p14 := eq_true p14; replace q14 := eq_true q14) | (go_at_call 18; (with_reducible refine (impl_isDigit.calls (bt a0 x3_2) true _ A15.out).mono ?_); rintro e w' ⟨rfl, ⟨nd, rfl⟩⟩))
         go_roundg k2
         case measure => have := HJ1.out; have := HK2.out; omega
         case rel => exact ⟨(wrap64 (x3_2 + 1)), rs_, H', ⟨by have := HJ1.out; have := HK2.out; omega⟩, by repeat (first | exact Drawn0.refl _ | apply Drawn0.step)⟩
        ·replace c16 := Bool.eq_false_iff.mpr c16
         subst c16
         have H1 : (some false) = some r := by rw [if_neg (show ¬ (false = true) by decide)] at H; exact H
         clear H
         have H := H1
         clear H1
         obtain rfl := Option.some.inj H
         have p11 : 0 ≤ (x3_2 : Int) := dt_
         have q11 : x3_2 < (a0.size : Int) := dt_
         have hx11 := bt_at a0 x3_2
         replace p11 := eq_true p11
         replace q11 := eq_true q11
         go_wp2_with (first | ((with_reducible refine gate_callee (f := 19) rfl ?_); refine goesL_ (some 26) rfl rfl Try.func19 (by kernel_rfl) rfl #[.int .u8 (bt a0 x3_2)] rfl sl_ ?_; (with_reducible refine (impl_isSmall.calls (bt a0 x3_2) false _ A12.out).mono ?_); rintro e w' ⟨rfl, ⟨nd, rfl⟩⟩; refine ⟨_, rfl, ?_⟩; have p14 : 0 ≤ (x3_2 : Int) := dt_; have q14 : x3_2 < (a0.size : Int) := dt_; have hx14 := bt_at a0 x3_2; replace p14 := eq_true p14; replace q14 := eq_true q14) | (go_at_call 18; (with_reducible refine (impl_isDigit.calls (bt a0 x3_2) false _ A15.out).mono ?_); rintro e w' ⟨rfl, ⟨nd, rfl⟩⟩))
         go_ret
         exact ⟨by first | rfl | (simp; done) | (simp [*]; done), by repeat (first | exact Drawn0.refl _ | apply Drawn0.step)⟩
      ·rw [if_neg c9] at H
       have c9b0 : decide (x3_2 < (a0.size : Int)) = false := decide_eq_false c9
       clear c9
       obtain rfl := Option.some.inj H
       go_wp2
       go_ret
       exact ⟨by first | rfl | (simp; done) | (simp [*]; done), by repeat (first | exact Drawn0.refl _ | apply Drawn0.step)⟩
/-! ### laws_alive: function 7 -/
def laws_alive.f (k : Nat)  : Option (Bool) := (impl_WordValid.f k (⟨#[97, 49]⟩ : ByteArray)).bind fun t660 => (if t660 = true then ((impl_WordValid.f k (⟨#[49, 97]⟩ : ByteArray)).bind fun t661 => (some (!t661))) else (some false))
theorem laws_alive.mono : ∀ k, LeO (laws_alive.f k ) (laws_alive.f (k + 1) ) := by
 intro  k
 unfold laws_alive.f
 repeat' first
   | (with_reducible exact impl_WordValid.mono _ _)
   | (with_reducible exact LeO.refl _)
   | (with_reducible exact LeO.none _)
   | (with_reducible refine LeO.ite ?_ ?_)
   | (with_reducible refine LeO.bind ?_ (fun _ => ?_))
   | exact impl_WordValid.mono _ _
   | exact LeO.none _
   | refine LeO.ite ?_ ?_
   | refine LeO.bind ?_ (fun _ => ?_)
set_option maxHeartbeats 8000000 in
set_option maxRecDepth 100000 in
theorem laws_alive.calls (k : Nat)  (r : Bool) (w : World) (h : laws_alive.f k  = some r) :
  Calls Try.prog 7 #[] w fun e w' => e = .returned (.bool r) ∧ Drawn0 w w' := by
 have H : ((impl_WordValid.f k (⟨#[97, 49]⟩ : ByteArray)).bind fun t660 => (if t660 = true then ((impl_WordValid.f k (⟨#[49, 97]⟩ : ByteArray)).bind fun t661 => (some (!t661))) else (some false))) = some r := h
 clear h
 replace H := Option.bind_eq_some_iff.mp H
 obtain ⟨t660, A10, H⟩ := H
 replace H : (if t660 = true then ((impl_WordValid.f k (⟨#[49, 97]⟩ : ByteArray)).bind fun t661 => (some (!t661))) else (some false)) = some r := H
 have A1 := Aside0.mk A10
 clear A10
 by_cases c2 : t660 = true
 ·subst c2
  have H1 : ((impl_WordValid.f k (⟨#[49, 97]⟩ : ByteArray)).bind fun t661 => (some (!t661))) = some r := by rw [if_pos rfl] at H; exact H
  clear H
  have H := H1
  clear H1
  replace H := Option.bind_eq_some_iff.mp H
  obtain ⟨t661, A30, H⟩ := H
  replace H : (some (!t661)) = some r := H
  have A3 := Aside0.mk A30
  clear A30
  obtain rfl := Option.some.inj H
  go_enter Try.func7, Try.ntmps7
  go_wp2_with (first | ((with_reducible refine gate_callee (f := 12) rfl ?_); refine goesL_ (some 1) rfl rfl Try.func12 (by kernel_rfl) rfl #[.string (⟨#[97, 49]⟩ : ByteArray)] rfl sl_ ?_; (with_reducible refine (impl_WordValid.calls k (⟨#[97, 49]⟩ : ByteArray) true _ A1.out).mono ?_); rintro e w' ⟨rfl, ⟨nd, rfl⟩⟩; refine ⟨_, rfl, ?_⟩) | (go_at_call 12; (with_reducible refine (impl_WordValid.calls k (⟨#[49, 97]⟩ : ByteArray) t661 _ A3.out).mono ?_); rintro e w' ⟨rfl, ⟨nd, rfl⟩⟩))
  go_ret
  exact ⟨by first | rfl | (simp; done) | (simp [*]; done), by repeat (first | exact Drawn0.refl _ | apply Drawn0.step)⟩
 ·replace c2 := Bool.eq_false_iff.mpr c2
  subst c2
  have H1 : (some false) = some r := by rw [if_neg (show ¬ (false = true) by decide)] at H; exact H
  clear H
  have H := H1
  clear H1
  obtain rfl := Option.some.inj H
  go_enter Try.func7, Try.ntmps7
  go_wp2_with (first | ((with_reducible refine gate_callee (f := 12) rfl ?_); refine goesL_ (some 1) rfl rfl Try.func12 (by kernel_rfl) rfl #[.string (⟨#[97, 49]⟩ : ByteArray)] rfl sl_ ?_; (with_reducible refine (impl_WordValid.calls k (⟨#[97, 49]⟩ : ByteArray) false _ A1.out).mono ?_); rintro e w' ⟨rfl, ⟨nd, rfl⟩⟩; refine ⟨_, rfl, ?_⟩))
  go_ret
  exact ⟨by first | rfl | (simp; done) | (simp [*]; done), by repeat (first | exact Drawn0.refl _ | apply Drawn0.step)⟩
/-! ### laws_FnCountKind: function 3 -/
def laws_FnCountKind.f (k : Nat) (l0 : List Int) : Option (Bool) := if (l0.length : Int) > 1048576 then (some true) else ((spec_DrawCountKind.f k l0).bind fun bt662 => ((impl_CountKind.f k bt662.1 bt662.2).bind fun t666 => ((spec_CountKind.f k bt662.1 bt662.2).bind fun t667 => (if t666 = t667 then ((impl_CountKind.f k bt662.1 0).bind fun t668 => ((impl_CountKind.f k bt662.1 1).bind fun t669 => ((impl_CountKind.f k bt662.1 2).bind fun t670 => (if (wrap64 ((wrap64 (t668 + t669)) + t670)) = (bt662.1.length : Int) then (if t666 ≤ (bt662.1.length : Int) then ((laws_alive.f k).bind fun t671 => (some t671)) else (some false)) else (some false))))) else (some false)))))
theorem laws_FnCountKind.mono : ∀ a0 k, LeO (laws_FnCountKind.f k a0) (laws_FnCountKind.f (k + 1) a0) := by
 intro a0 k
 unfold laws_FnCountKind.f
 repeat' first
   | (with_reducible exact impl_CountKind.mono _ _ _)
   | (with_reducible exact laws_alive.mono _)
   | (with_reducible exact spec_CountKind.mono _ _ _)
   | (with_reducible exact spec_DrawCountKind.mono _ _)
   | (with_reducible exact LeO.refl _)
   | (with_reducible exact LeO.none _)
   | (with_reducible refine LeO.ite ?_ ?_)
   | (with_reducible refine LeO.bind ?_ (fun _ => ?_))
   | exact impl_CountKind.mono _ _ _
   | exact laws_alive.mono _
   | exact spec_CountKind.mono _ _ _
   | exact spec_DrawCountKind.mono _ _
   | exact LeO.none _
   | refine LeO.ite ?_ ?_
   | refine LeO.bind ?_ (fun _ => ?_)
set_option maxHeartbeats 8000000 in
set_option maxRecDepth 100000 in
theorem laws_FnCountKind.calls (k : Nat) (A0 : Option Addr) (c0 : Nat) (l0 : List Int) (r : Bool) (w : World) (hr0 : Kd.C (Kd.int .u8) w A0 l0.length l0) (hc0 : l0.length ≤ c0) (h : laws_FnCountKind.f k l0 = some r) (hrt : r = true) :
  Calls Try.prog 3 #[.slice A0 l0.length c0] w fun e w' => e = .returned (.bool r) ∧ Below w.heap.size w w' := by
 have HR0 := Aside0.mk hr0
 have HC0 := Aside0.mk hc0
 clear hr0 hc0
 have HB := Aside0.mk (Below.refl w.heap.size w)
 have H : (if (l0.length : Int) > 1048576 then (some true) else ((spec_DrawCountKind.f k l0).bind fun bt662 => ((impl_CountKind.f k bt662.1 bt662.2).bind fun t666 => ((spec_CountKind.f k bt662.1 bt662.2).bind fun t667 => (if t666 = t667 then ((impl_CountKind.f k bt662.1 0).bind fun t668 => ((impl_CountKind.f k bt662.1 1).bind fun t669 => ((impl_CountKind.f k bt662.1 2).bind fun t670 => (if (wrap64 ((wrap64 (t668 + t669)) + t670)) = (bt662.1.length : Int) then (if t666 ≤ (bt662.1.length : Int) then ((laws_alive.f k).bind fun t671 => (some t671)) else (some false)) else (some false))))) else (some false)))))) = some r := h
 clear h
 by_cases c2 : (l0.length : Int) > 1048576
 ·rw [if_pos c2] at H
  have c2b0 : decide (1048576 < (l0.length : Int)) = true := decide_eq_true c2
  have c2b1 : decide (1048576 < l0.length) = true := decide_eq_true (by omega)
  clear c2
  obtain rfl := Option.some.inj H
  go_enter Try.func3, Try.ntmps3
  go_wp2
  go_ret
  exact ⟨er_, hb_⟩
 ·rw [if_neg c2] at H
  have c2b0 : decide (1048576 < (l0.length : Int)) = false := decide_eq_false c2
  have c2b1 : decide (1048576 < l0.length) = false := decide_eq_false (by omega)
  clear c2
  replace H := Option.bind_eq_some_iff.mp H
  obtain ⟨⟨t662, t663⟩, A30, H⟩ := H
  replace H : ((impl_CountKind.f k t662 t663).bind fun t666 => ((spec_CountKind.f k t662 t663).bind fun t667 => (if t666 = t667 then ((impl_CountKind.f k t662 0).bind fun t668 => ((impl_CountKind.f k t662 1).bind fun t669 => ((impl_CountKind.f k t662 2).bind fun t670 => (if (wrap64 ((wrap64 (t668 + t669)) + t670)) = (t662.length : Int) then (if t666 ≤ (t662.length : Int) then ((laws_alive.f k).bind fun t671 => (some t671)) else (some false)) else (some false))))) else (some false)))) = some r := H
  have A3 := Aside0.mk A30
  clear A30
  replace H := Option.bind_eq_some_iff.mp H
  obtain ⟨t666, A40, H⟩ := H
  replace H : ((spec_CountKind.f k t662 t663).bind fun t667 => (if t666 = t667 then ((impl_CountKind.f k t662 0).bind fun t668 => ((impl_CountKind.f k t662 1).bind fun t669 => ((impl_CountKind.f k t662 2).bind fun t670 => (if (wrap64 ((wrap64 (t668 + t669)) + t670)) = (t662.length : Int) then (if t666 ≤ (t662.length : Int) then ((laws_alive.f k).bind fun t671 => (some t671)) else (some false)) else (some false))))) else (some false))) = some r := H
  have A4 := Aside0.mk A40
  clear A40
  replace H := Option.bind_eq_some_iff.mp H
  obtain ⟨t667, A50, H⟩ := H
  replace H : (if t666 = t667 then ((impl_CountKind.f k t662 0).bind fun t668 => ((impl_CountKind.f k t662 1).bind fun t669 => ((impl_CountKind.f k t662 2).bind fun t670 => (if (wrap64 ((wrap64 (t668 + t669)) + t670)) = (t662.length : Int) then (if t666 ≤ (t662.length : Int) then ((laws_alive.f k).bind fun t671 => (some t671)) else (some false)) else (some false))))) else (some false)) = some r := H
  have A5 := Aside0.mk A50
  clear A50
  by_cases c6 : t666 = t667
  ·rw [if_pos c6] at H
   have c6b0 : (t666 == t667) = true := beq_iff_eq.mpr c6
   have c6b1 : (t666 != t667) = false := bne_eq_false_iff_eq.mpr c6
   clear c6
   replace H := Option.bind_eq_some_iff.mp H
   obtain ⟨t668, A70, H⟩ := H
   replace H : ((impl_CountKind.f k t662 1).bind fun t669 => ((impl_CountKind.f k t662 2).bind fun t670 => (if (wrap64 ((wrap64 (t668 + t669)) + t670)) = (t662.length : Int) then (if t666 ≤ (t662.length : Int) then ((laws_alive.f k).bind fun t671 => (some t671)) else (some false)) else (some false)))) = some r := H
   have A7 := Aside0.mk A70
   clear A70
   replace H := Option.bind_eq_some_iff.mp H
   obtain ⟨t669, A80, H⟩ := H
   replace H : ((impl_CountKind.f k t662 2).bind fun t670 => (if (wrap64 ((wrap64 (t668 + t669)) + t670)) = (t662.length : Int) then (if t666 ≤ (t662.length : Int) then ((laws_alive.f k).bind fun t671 => (some t671)) else (some false)) else (some false))) = some r := H
   have A8 := Aside0.mk A80
   clear A80
   replace H := Option.bind_eq_some_iff.mp H
   obtain ⟨t670, A90, H⟩ := H
   replace H : (if (wrap64 ((wrap64 (t668 + t669)) + t670)) = (t662.length : Int) then (if t666 ≤ (t662.length : Int) then ((laws_alive.f k).bind fun t671 => (some t671)) else (some false)) else (some false)) = some r := H
   have A9 := Aside0.mk A90
   clear A90
   by_cases c10 : (wrap64 ((wrap64 (t668 + t669)) + t670)) = (t662.length : Int)
   ·rw [if_pos c10] at H
    have c10b0 : ((wrap64 ((wrap64 (t668 + t669)) + t670)) == (t662.length : Int)) = true := beq_iff_eq.mpr c10
    have c10b1 : ((wrap64 ((wrap64 (t668 + t669)) + t670)) != (t662.length : Int)) = false := bne_eq_false_iff_eq.mpr c10
    clear c10
    by_cases c11 : t666 ≤ (t662.length : Int)
    ·rw [if_pos c11] at H
     have c11b0 : decide (t666 ≤ (t662.length : Int)) = true := decide_eq_true c11
     clear c11
     replace H := Option.bind_eq_some_iff.mp H
     obtain ⟨t671, A120, H⟩ := H
     replace H : (some t671) = some r := H
     have A12 := Aside0.mk A120
     clear A120
     obtain rfl := Option.some.inj H
     go_enter Try.func3, Try.ntmps3
     go_wp2_with (first | ((with_reducible refine gate_callee (f := 4) rfl ?_); refine goesL_ (some 11) rfl rfl Try.func4 (by kernel_rfl) rfl #[.slice A0 l0.length c0] rfl sl_ ?_; (with_reducible refine (spec_DrawCountKind.calls k _ _ l0 t662 t663 _ ?side1 ?side2 A3.out).mono ?_); (case side1 => exact kC_ HR0.out); (case side2 => exact HC0.out); rintro e w13 ⟨v664, rfl, ho0, hb⟩; refine ⟨_, rfl, ?_⟩; have HO665 := Aside0.mk (Kd.R_lower ho0 (below_size hb_)); replace HB := Aside0.mk (below_step hb_ hb); (try clear hb); (try clear ho0); obtain ⟨Ao14, co14, eo14⟩ := Kd.R_slice HO665.out; subst eo14) | ((with_reducible refine gate_callee (f := 5) rfl ?_); refine goesL_ (some 16) rfl rfl Try.func5 (by kernel_rfl) rfl #[.slice Ao14 t662.length co14, .int .i64 t663] rfl sl_ ?_; (with_reducible refine (impl_CountKind.calls k _ _ t662 t663 t666 _ ?side1 ?side2 A4.out).mono ?_); (case side1 => exact kC_ ((Kd.R_reads' HO665.out).2.2)); (case side2 => exact (Kd.R_reads' HO665.out).2.1); rintro e w15 ⟨rfl, hb⟩; refine ⟨_, rfl, ?_⟩; replace HO665 := Aside0.mk (Kd.R_below (kR_ HO665.out) hb); replace HB := Aside0.mk (below_step hb_ hb); (try clear hb)) | ((with_reducible refine gate_callee (f := 6) rfl ?_); refine goesL_ (some 20) rfl rfl Try.func6 (by kernel_rfl) rfl #[.slice Ao14 t662.length co14, .int .i64 t663] rfl sl_ ?_; (with_reducible refine (spec_CountKind.calls k _ _ t662 t663 t667 _ ?side1 ?side2 A5.out).mono ?_); (case side1 => exact kC_ ((Kd.R_reads' HO665.out).2.2)); (case side2 => exact (Kd.R_reads' HO665.out).2.1); rintro e w' ⟨rfl, ⟨nd, rfl⟩⟩; refine ⟨_, rfl, ?_⟩) | ((with_reducible refine gate_callee (f := 5) rfl ?_); refine goesL_ (some 23) rfl rfl Try.func5 (by kernel_rfl) rfl #[.slice Ao14 t662.length co14, .int .i64 0] rfl sl_ ?_; (with_reducible refine (impl_CountKind.calls k _ _ t662 0 t668 _ ?side1 ?side2 A7.out).mono ?_); (case side1 => exact kC_ ((Kd.R_reads' HO665.out).2.2)); (case side2 => exact (Kd.R_reads' HO665.out).2.1); rintro e w16 ⟨rfl, hb⟩; refine ⟨_, rfl, ?_⟩; replace HO665 := Aside0.mk (Kd.R_below (kR_ HO665.out) hb); replace HB := Aside0.mk (below_step hb_ hb); (try clear hb)) | ((with_reducible refine gate_callee (f := 5) rfl ?_); refine goesL_ (some 25) rfl rfl Try.func5 (by kernel_rfl) rfl #[.slice Ao14 t662.length co14, .int .i64 1] rfl sl_ ?_; (with_reducible refine (impl_CountKind.calls k _ _ t662 1 t669 _ ?side1 ?side2 A8.out).mono ?_); (case side1 => exact kC_ ((Kd.R_reads' HO665.out).2.2)); (case side2 => exact (Kd.R_reads' HO665.out).2.1); rintro e w17 ⟨rfl, hb⟩; refine ⟨_, rfl, ?_⟩; replace HO665 := Aside0.mk (Kd.R_below (kR_ HO665.out) hb); replace HB := Aside0.mk (below_step hb_ hb); (try clear hb)) | ((with_reducible refine gate_callee (f := 5) rfl ?_); refine goesL_ (some 28) rfl rfl Try.func5 (by kernel_rfl) rfl #[.slice Ao14 t662.length co14, .int .i64 2] rfl sl_ ?_; (with_reducible refine (impl_CountKind.calls k _ _ t662 2 t670 _ ?side1 ?side2 A9.out).mono ?_); (case side1 => exact kC_ ((Kd.R_reads' HO665.out).2.2)); (case side2 => exact (Kd.R_reads' HO665.out).2.1); rintro e w18 ⟨rfl, hb⟩; refine ⟨_, rfl, ?_⟩; replace HO665 := Aside0.mk (Kd.R_below (kR_ HO665.out) hb); replace HB := Aside0.mk (below_step hb_ hb); (try clear hb)) | (go_at_call 7; (with_reducible refine (laws_alive.calls k  t671 _ A12.out).mono ?_); rintro e w' ⟨rfl, ⟨nd, rfl⟩⟩))
     go_ret
     exact ⟨er_, hb_⟩
    ·rw [if_neg c11] at H
     have c11b0 : decide (t666 ≤ (t662.length : Int)) = false := decide_eq_false c11
     clear c11
     obtain rfl := Option.some.inj H
     go_enter Try.func3, Try.ntmps3
     go_wp2_with (first | ((with_reducible refine gate_callee (f := 4) rfl ?_); refine goesL_ (some 11) rfl rfl Try.func4 (by kernel_rfl) rfl #[.slice A0 l0.length c0] rfl sl_ ?_; (with_reducible refine (spec_DrawCountKind.calls k _ _ l0 t662 t663 _ ?side1 ?side2 A3.out).mono ?_); (case side1 => exact kC_ HR0.out); (case side2 => exact HC0.out); rintro e w19 ⟨v664, rfl, ho0, hb⟩; refine ⟨_, rfl, ?_⟩; have HO665 := Aside0.mk (Kd.R_lower ho0 (below_size hb_)); replace HB := Aside0.mk (below_step hb_ hb); (try clear hb); (try clear ho0); obtain ⟨Ao20, co20, eo20⟩ := Kd.R_slice HO665.out; subst eo20) | ((with_reducible refine gate_callee (f := 5) rfl ?_); refine goesL_ (some 16) rfl rfl Try.func5 (by kernel_rfl) rfl #[.slice Ao20 t662.length co20, .int .i64 t663] rfl sl_ ?_; (with_reducible refine (impl_CountKind.calls k _ _ t662 t663 t666 _ ?side1 ?side2 A4.out).mono ?_); (case side1 => exact kC_ ((Kd.R_reads' HO665.out).2.2)); (case side2 => exact (Kd.R_reads' HO665.out).2.1); rintro e w21 ⟨rfl, hb⟩; refine ⟨_, rfl, ?_⟩; replace HO665 := Aside0.mk (Kd.R_below (kR_ HO665.out) hb); replace HB := Aside0.mk (below_step hb_ hb); (try clear hb)) | ((with_reducible refine gate_callee (f := 6) rfl ?_); refine goesL_ (some 20) rfl rfl Try.func6 (by kernel_rfl) rfl #[.slice Ao20 t662.length co20, .int .i64 t663] rfl sl_ ?_; (with_reducible refine (spec_CountKind.calls k _ _ t662 t663 t667 _ ?side1 ?side2 A5.out).mono ?_); (case side1 => exact kC_ ((Kd.R_reads' HO665.out).2.2)); (case side2 => exact (Kd.R_reads' HO665.out).2.1); rintro e w' ⟨rfl, ⟨nd, rfl⟩⟩; refine ⟨_, rfl, ?_⟩) | ((with_reducible refine gate_callee (f := 5) rfl ?_); refine goesL_ (some 23) rfl rfl Try.func5 (by kernel_rfl) rfl #[.slice Ao20 t662.length co20, .int .i64 0] rfl sl_ ?_; (with_reducible refine (impl_CountKind.calls k _ _ t662 0 t668 _ ?side1 ?side2 A7.out).mono ?_); (case side1 => exact kC_ ((Kd.R_reads' HO665.out).2.2)); (case side2 => exact (Kd.R_reads' HO665.out).2.1); rintro e w22 ⟨rfl, hb⟩; refine ⟨_, rfl, ?_⟩; replace HO665 := Aside0.mk (Kd.R_below (kR_ HO665.out) hb); replace HB := Aside0.mk (below_step hb_ hb); (try clear hb)) | ((with_reducible refine gate_callee (f := 5) rfl ?_); refine goesL_ (some 25) rfl rfl Try.func5 (by kernel_rfl) rfl #[.slice Ao20 t662.length co20, .int .i64 1] rfl sl_ ?_; (with_reducible refine (impl_CountKind.calls k _ _ t662 1 t669 _ ?side1 ?side2 A8.out).mono ?_); (case side1 => exact kC_ ((Kd.R_reads' HO665.out).2.2)); (case side2 => exact (Kd.R_reads' HO665.out).2.1); rintro e w23 ⟨rfl, hb⟩; refine ⟨_, rfl, ?_⟩; replace HO665 := Aside0.mk (Kd.R_below (kR_ HO665.out) hb); replace HB := Aside0.mk (below_step hb_ hb); (try clear hb)) | ((with_reducible refine gate_callee (f := 5) rfl ?_); refine goesL_ (some 28) rfl rfl Try.func5 (by kernel_rfl) rfl #[.slice Ao20 t662.length co20, .int .i64 2] rfl sl_ ?_; (with_reducible refine (impl_CountKind.calls k _ _ t662 2 t670 _ ?side1 ?side2 A9.out).mono ?_); (case side1 => exact kC_ ((Kd.R_reads' HO665.out).2.2)); (case side2 => exact (Kd.R_reads' HO665.out).2.1); rintro e w24 ⟨rfl, hb⟩; refine ⟨_, rfl, ?_⟩; replace HO665 := Aside0.mk (Kd.R_below (kR_ HO665.out) hb); replace HB := Aside0.mk (below_step hb_ hb); (try clear hb)))
     go_ret
     exact ⟨er_, hb_⟩
   ·rw [if_neg c10] at H
    have c10b0 : ((wrap64 ((wrap64 (t668 + t669)) + t670)) == (t662.length : Int)) = false := beq_eq_false_iff_ne.mpr c10
    have c10b1 : ((wrap64 ((wrap64 (t668 + t669)) + t670)) != (t662.length : Int)) = true := bne_iff_ne.mpr c10
    exact absurd H (by subst hrt; decide)
  ·rw [if_neg c6] at H
   have c6b0 : (t666 == t667) = false := beq_eq_false_iff_ne.mpr c6
   have c6b1 : (t666 != t667) = true := bne_iff_ne.mpr c6
   exact absurd H (by subst hrt; decide)
/-- THE ONE PURE STATEMENT of laws_FnCountKind: yours. -/
def laws_FnCountKind.Pure : Prop := ∀ (l0 : List Int), l0.length ≤ maxLen → l0.length * 1 ≤ 140737488351232 → (∀ x ∈ l0, (Lit.int .u8 x).wf = true) → ∃ k, laws_FnCountKind.f k l0 = some true
theorem laws_FnCountKind.walk (P : laws_FnCountKind.Pure) (a0 : Option Addr) (len0 cap0 : Nat) (z0 : List Int) (w : World) (w0 : (a0 = none ∧ len0 = 0 ∧ cap0 = 0 ∧ z0 = []) ∨ ∃ x, a0 = some x ∧ len0 ≤ cap0 ∧ cap0 ≤ maxLen ∧ z0.length = cap0 ∧ (∀ i, i < z0.length → w.cell? (x.add i) = some (.int .u8 (z0.getD i 0))) ∧ ∀ n ∈ z0, (Lit.int .u8 n).wf = true) (y0 : len0 * 1 ≤ 140737488351232) :
  Calls Try.prog 3 #[.slice a0 len0 cap0] w fun e w' => e = .returned (.bool true) ∧ Below w.heap.size w w' := by
 obtain ⟨l0, rfl, hr0, hm0, hw0, hc0⟩ := ReadsInt.ofRowC w0
 obtain ⟨k, h⟩ := P l0 hm0 y0 hw0
 refine (laws_FnCountKind.calls k _ _ l0 true w (Kd.C_of_reads (d := (0 : Int)) (h1 := fun _ => rfl) hr0) hc0 h rfl).mono ?_
 rintro e w' ⟨rfl, hd⟩
 exact ⟨rfl, hd⟩
end Go.Proofs.Ytjgbidklkhohfaa.P
