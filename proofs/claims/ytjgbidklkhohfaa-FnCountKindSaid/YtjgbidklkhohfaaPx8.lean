-- The functions of the seat as plain Lean functions, made by the kit's print.py for all laws at once. Not trusted: Lean checks it.
import Derived.Test.YtjgbidklkhohfaaPx0
import Derived.Test.YtjgbidklkhohfaaPx1
import Derived.Test.YtjgbidklkhohfaaPx3
import Derived.Test.YtjgbidklkhohfaaPx6
import Derived.Test.YtjgbidklkhohfaaPx7
namespace Go.Proofs.Ytjgbidklkhohfaa.P
open Go.RowKit Go.Proofs.YtjgbidklkhohfaaW.PrintWords Go.Proofs.YtjgbidklkhohfaaW.PrintLast Go.Proofs.YtjgbidklkhohfaaW.PrintMore
attribute [local go_sem] max2_int min2_int max_two min_two max_three min_three max_four min_four   -- for this text's walks alone
set_option linter.unusedVariables false
set_option linter.unusedSimpArgs false
/-! ### spec_WriteAt: function 23 -/
def spec_WriteAt.j0 : Nat → List (S45) → Int → ByteArray → List ByteArray → Bool → Option ((List (S45)) × Int × Bool)
 | 0, _, _, _, _, _ => none
 | k + 1, x0, x1, x3, x11, x43 => if x43 = true then (some ((([] : List (S45))), (-1), false)) else ((some (([] : List (S45)) : List (S45))).bind fun y421 => (if y421.length + x0.length < 5864062014805 then ((some (y421 ++ x0 : List (S45))).bind fun y424 => ((spec_l4Get.f k x0 x1).bind fun bt427 => (if bt427.2 = true then ((spec_FileText.f k x3).bind fun t429 => ((spec_PrintOf.f k t429).bind fun t430 => ((spec_l10Set.f k x0 x1 x11 t430).bind fun bt431 => (if bt431.2.2 = true then ((spec_FileText.f k x3).bind fun t436 => ((spec_PutText.f k bt431.1 t436).bind fun bt437 => (if bt437.2.2 = true then ((some (([] : List (S45)) : List (S45))).bind fun y442 => (if y442.length + bt437.1.length < 5864062014805 then (some ((y442 ++ bt437.1), bt431.2.1, true)) else (none))) else (some (y424, x1, false))))) else (some (y424, x1, false)))))) else (some (y424, x1, false))))) else (none)))
def spec_WriteAt.f (k : Nat) (l0 : List (S45)) (a1 : Int) (a2 : ByteArray) (a3 : ByteArray) : Option ((List (S45)) × Int × Bool) := (spec_PathParts.f k a2).bind fun bt412 => ((spec_StoreValid.f k l0).bind fun t416 => (if t416 = true then (if bt412.2 = true then (if (bt412.1.length : Int) = 0 then (spec_WriteAt.j0 k l0 a1 a3 bt412.1 true) else ((spec_ContentValid.f k a3).bind fun t417 => (spec_WriteAt.j0 k l0 a1 a3 bt412.1 (!t417)))) else (spec_WriteAt.j0 k l0 a1 a3 bt412.1 true)) else (spec_WriteAt.j0 k l0 a1 a3 bt412.1 true)))
theorem spec_WriteAt.mono_l : ∀ k, (∀ y0 y1 y2 y3 y4, LeO (spec_WriteAt.j0 k y0 y1 y2 y3 y4) (spec_WriteAt.j0 (k + 1) y0 y1 y2 y3 y4))
 | 0 => fun _ _ _ _ _ r h => by simp [spec_WriteAt.j0] at h
 | k + 1 => by
  have ih0 := spec_WriteAt.mono_l k
  ·intro y0 y1 y2 y3 y4
   unfold spec_WriteAt.j0
   repeat' first
   | (with_reducible exact ih0 _ _ _ _ _)
   | (with_reducible exact spec_ContentValid.mono _ _)
   | (with_reducible exact spec_FileText.mono _ _)
   | (with_reducible exact spec_PathParts.mono _ _)
   | (with_reducible exact spec_PrintOf.mono _ _)
   | (with_reducible exact spec_PutText.mono _ _ _)
   | (with_reducible exact spec_StoreValid.mono _ _)
   | (with_reducible exact spec_l10Set.mono _ _ _ _ _)
   | (with_reducible exact spec_l4Get.mono _ _ _)
   | (with_reducible exact LeO.refl _)
   | (with_reducible exact LeO.none _)
   | (with_reducible refine LeO.ite ?_ ?_)
   | (with_reducible refine LeO.bind ?_ (fun _ => ?_))
   | exact ih0 _ _ _ _ _
   | exact spec_ContentValid.mono _ _
   | exact spec_FileText.mono _ _
   | exact spec_PathParts.mono _ _
   | exact spec_PrintOf.mono _ _
   | exact spec_PutText.mono _ _ _
   | exact spec_StoreValid.mono _ _
   | exact spec_l10Set.mono _ _ _ _ _
   | exact spec_l4Get.mono _ _ _
   | exact LeO.none _
   | refine LeO.ite ?_ ?_
   | refine LeO.bind ?_ (fun _ => ?_)
theorem spec_WriteAt.mono : ∀ a0 a1 a2 a3 k, LeO (spec_WriteAt.f k a0 a1 a2 a3) (spec_WriteAt.f (k + 1) a0 a1 a2 a3) := by
 intro a0 a1 a2 a3 k
 have ih0 := spec_WriteAt.mono_l k
 unfold spec_WriteAt.f
 repeat' first
   | (with_reducible exact ih0 _ _ _ _ _)
   | (with_reducible exact spec_ContentValid.mono _ _)
   | (with_reducible exact spec_FileText.mono _ _)
   | (with_reducible exact spec_PathParts.mono _ _)
   | (with_reducible exact spec_PrintOf.mono _ _)
   | (with_reducible exact spec_PutText.mono _ _ _)
   | (with_reducible exact spec_StoreValid.mono _ _)
   | (with_reducible exact spec_l10Set.mono _ _ _ _ _)
   | (with_reducible exact spec_l4Get.mono _ _ _)
   | (with_reducible exact LeO.refl _)
   | (with_reducible exact LeO.none _)
   | (with_reducible refine LeO.ite ?_ ?_)
   | (with_reducible refine LeO.bind ?_ (fun _ => ?_))
   | exact ih0 _ _ _ _ _
   | exact spec_ContentValid.mono _ _
   | exact spec_FileText.mono _ _
   | exact spec_PathParts.mono _ _
   | exact spec_PrintOf.mono _ _
   | exact spec_PutText.mono _ _ _
   | exact spec_StoreValid.mono _ _
   | exact spec_l10Set.mono _ _ _ _ _
   | exact spec_l4Get.mono _ _ _
   | exact LeO.none _
   | refine LeO.ite ?_ ?_
   | refine LeO.bind ?_ (fun _ => ?_)
set_option maxHeartbeats 8000000 in
set_option maxRecDepth 100000 in
theorem spec_WriteAt.calls (k : Nat) (A0 : Option Addr) (c0 : Nat) (l0 : List (S45)) (a1 : Int) (a2 : ByteArray) (a3 : ByteArray) (r1 : List (S45)) (r2 : Int) (r3 : Bool) (w : World) (hr0 : Kd.C k45 w A0 l0.length l0) (hc0 : l0.length ≤ c0) (h : spec_WriteAt.f k l0 a1 a2 a3 = some (r1, r2, r3)) :
  Calls Try.prog 23 #[.slice A0 l0.length c0, .int .i64 a1, .string a2, .string a3] w fun e w' => ∃ v0_ : Value, e = .returned (.tuple #[v0_, .int .i64 r2, .bool r3]) ∧ Kd.R k45 45 w' w.heap.size (fun _ => True) v0_ r1 ∧ Below w.heap.size w w' := by
 have HR0 := Aside0.mk hr0
 have HC0 := Aside0.mk hc0
 clear hr0 hc0
 have HB := Aside0.mk (Below.refl w.heap.size w)
 have H : ((spec_PathParts.f k a2).bind fun bt412 => ((spec_StoreValid.f k l0).bind fun t416 => (if t416 = true then (if bt412.2 = true then (if (bt412.1.length : Int) = 0 then (spec_WriteAt.j0 k l0 a1 a3 bt412.1 true) else ((spec_ContentValid.f k a3).bind fun t417 => (spec_WriteAt.j0 k l0 a1 a3 bt412.1 (!t417)))) else (spec_WriteAt.j0 k l0 a1 a3 bt412.1 true)) else (spec_WriteAt.j0 k l0 a1 a3 bt412.1 true)))) = some (r1, r2, r3) := h
 clear h
 replace H := Option.bind_eq_some_iff.mp H
 obtain ⟨⟨t412, t413⟩, A50, H⟩ := H
 replace H : ((spec_StoreValid.f k l0).bind fun t416 => (if t416 = true then (if t413 = true then (if (t412.length : Int) = 0 then (spec_WriteAt.j0 k l0 a1 a3 t412 true) else ((spec_ContentValid.f k a3).bind fun t417 => (spec_WriteAt.j0 k l0 a1 a3 t412 (!t417)))) else (spec_WriteAt.j0 k l0 a1 a3 t412 true)) else (spec_WriteAt.j0 k l0 a1 a3 t412 true))) = some (r1, r2, r3) := H
 have A5 := Aside0.mk A50
 clear A50
 have HC6 := Aside0.mk H
 clear H
 go_enter Try.func23, Try.ntmps23
 go_upto_region 2 with (first | ((with_reducible refine gate_callee (f := 32) rfl ?_); refine goesL_ (some 24) rfl rfl Try.func32 (by kernel_rfl) rfl #[.string a2] rfl sl_ ?_; (with_reducible refine (spec_PathParts.calls k a2 t412 t413 _ A5.out).mono ?_); rintro e w7 ⟨v414, rfl, ho0, hb⟩; refine ⟨_, rfl, ?_⟩; have HO415 := Aside0.mk (Kd.R_lower ho0 (below_size hb_)); replace HB := Aside0.mk (below_step hb_ hb); (try clear hb); (try clear ho0)))
 (try simp only [Act.put, List.setIfInBounds_toArray, List.set_cons_zero, List.set_cons_succ])
 go_cut [43] (fun v43 wc => ∃ (kq : Nat) (x43_5 : Bool), v43 = .bool x43_5 ∧ Aside0 (spec_WriteAt.j0 kq l0 a1 a3 t412 x43_5 = some (r1, r2, r3)) ∧ Aside0 (kq ≤ k) ∧ Aside0 (Kd.R Kd.string 9 wc w.heap.size (fun _ => True) v414 t412) ∧ Aside0 (Below w.heap.size w wc))
 case first =>
  have H := HC6.out
  clear HC6
  replace H := Option.bind_eq_some_iff.mp H
  obtain ⟨t416, A80, H⟩ := H
  replace H : (if t416 = true then (if t413 = true then (if (t412.length : Int) = 0 then (spec_WriteAt.j0 k l0 a1 a3 t412 true) else ((spec_ContentValid.f k a3).bind fun t417 => (spec_WriteAt.j0 k l0 a1 a3 t412 (!t417)))) else (spec_WriteAt.j0 k l0 a1 a3 t412 true)) else (spec_WriteAt.j0 k l0 a1 a3 t412 true)) = some (r1, r2, r3) := H
  have A8 := Aside0.mk A80
  clear A80
  by_cases c9 : t416 = true
  ·subst c9
   have H1 : (if t413 = true then (if (t412.length : Int) = 0 then (spec_WriteAt.j0 k l0 a1 a3 t412 true) else ((spec_ContentValid.f k a3).bind fun t417 => (spec_WriteAt.j0 k l0 a1 a3 t412 (!t417)))) else (spec_WriteAt.j0 k l0 a1 a3 t412 true)) = some (r1, r2, r3) := by rw [if_pos rfl] at H; exact H
   clear H
   have H := H1
   clear H1
   by_cases c10 : t413 = true
   ·subst c10
    have H1 : (if (t412.length : Int) = 0 then (spec_WriteAt.j0 k l0 a1 a3 t412 true) else ((spec_ContentValid.f k a3).bind fun t417 => (spec_WriteAt.j0 k l0 a1 a3 t412 (!t417)))) = some (r1, r2, r3) := by rw [if_pos rfl] at H; exact H
    clear H
    have H := H1
    clear H1
    by_cases c11 : (t412.length : Int) = 0
    ·rw [if_pos c11] at H
     have c11b0 : ((t412.length : Int) == 0) = true := beq_iff_eq.mpr c11
     have c11b1 : ((t412.length : Int) != 0) = false := bne_eq_false_iff_eq.mpr c11
     clear c11
     (first | rw [c11b0] | (simp only [i64_w, i32_w]; rw [c11b0]) | skip)
     have H' := Aside0.mk H
     clear H
     go_wp2_with (first | ((with_reducible refine gate_callee (f := 25) rfl ?_); refine goesL_ (some 28) rfl rfl Try.func25 (by kernel_rfl) rfl #[.slice A0 l0.length c0] rfl sl_ ?_; (with_reducible refine (spec_StoreValid.calls k _ _ l0 true _ ?side1 ?side2 A8.out).mono ?_); (case side1 => exact kC_ (Kd.C_below HR0.out HB.out)); (case side2 => exact HC0.out); rintro e w12 ⟨rfl, hb⟩; refine ⟨_, rfl, ?_⟩; replace HO415 := Aside0.mk (Kd.R_below (kR_ HO415.out) hb); replace HB := Aside0.mk (below_step hb_ hb); (try clear hb); obtain ⟨Ao13, co13, eo13⟩ := Kd.R_slice HO415.out; subst eo13))
     go_meet
     case rel => exact ⟨_, (true), rs_, H', ⟨by first | omega | exact Nat.le_refl _⟩, ⟨by (with_reducible repeat (first | apply Kd.R_alloc | apply Kd.R_drewN | apply Kd.R_drew)); exact HO415.out⟩, ⟨hb_⟩⟩
    ·rw [if_neg c11] at H
     have c11b0 : ((t412.length : Int) == 0) = false := beq_eq_false_iff_ne.mpr c11
     have c11b1 : ((t412.length : Int) != 0) = true := bne_iff_ne.mpr c11
     have c11b2 : ¬ (t412 = []) := fun h_ => c11 (by rw [h_]; rfl)
     (first | rw [c11b0] | (simp only [i64_w, i32_w]; rw [c11b0]) | skip)
     replace H := Option.bind_eq_some_iff.mp H
     obtain ⟨t417, A140, H⟩ := H
     replace H : (spec_WriteAt.j0 k l0 a1 a3 t412 (!t417)) = some (r1, r2, r3) := H
     have A14 := Aside0.mk A140
     clear A140
     have H' := Aside0.mk H
     clear H
     go_wp2_with (first | ((with_reducible refine gate_callee (f := 25) rfl ?_); refine goesL_ (some 28) rfl rfl Try.func25 (by kernel_rfl) rfl #[.slice A0 l0.length c0] rfl sl_ ?_; (with_reducible refine (spec_StoreValid.calls k _ _ l0 true _ ?side1 ?side2 A8.out).mono ?_); (case side1 => exact kC_ (Kd.C_below HR0.out HB.out)); (case side2 => exact HC0.out); rintro e w15 ⟨rfl, hb⟩; refine ⟨_, rfl, ?_⟩; replace HO415 := Aside0.mk (Kd.R_below (kR_ HO415.out) hb); replace HB := Aside0.mk (below_step hb_ hb); (try clear hb); obtain ⟨Ao16, co16, eo16⟩ := Kd.R_slice HO415.out; subst eo16) | (go_at_call 35; (with_reducible refine (spec_ContentValid.calls k a3 t417 _ A14.out).mono ?_); rintro e w' ⟨rfl, ⟨nd, rfl⟩⟩))
     go_meet
     case rel => exact ⟨_, (!t417), rs_, H', ⟨by first | omega | exact Nat.le_refl _⟩, ⟨by (with_reducible repeat (first | apply Kd.R_alloc | apply Kd.R_drewN | apply Kd.R_drew)); exact HO415.out⟩, ⟨hb_⟩⟩
   ·replace c10 := Bool.eq_false_iff.mpr c10
    subst c10
    have H1 : (spec_WriteAt.j0 k l0 a1 a3 t412 true) = some (r1, r2, r3) := by rw [if_neg (show ¬ (false = true) by decide)] at H; exact H
    clear H
    have H := H1
    clear H1
    have H' := Aside0.mk H
    clear H
    go_wp2_with (first | ((with_reducible refine gate_callee (f := 25) rfl ?_); refine goesL_ (some 28) rfl rfl Try.func25 (by kernel_rfl) rfl #[.slice A0 l0.length c0] rfl sl_ ?_; (with_reducible refine (spec_StoreValid.calls k _ _ l0 true _ ?side1 ?side2 A8.out).mono ?_); (case side1 => exact kC_ (Kd.C_below HR0.out HB.out)); (case side2 => exact HC0.out); rintro e w17 ⟨rfl, hb⟩; refine ⟨_, rfl, ?_⟩; replace HO415 := Aside0.mk (Kd.R_below (kR_ HO415.out) hb); replace HB := Aside0.mk (below_step hb_ hb); (try clear hb)))
    go_meet
    case rel => exact ⟨_, (true), rs_, H', ⟨by first | omega | exact Nat.le_refl _⟩, ⟨by (with_reducible repeat (first | apply Kd.R_alloc | apply Kd.R_drewN | apply Kd.R_drew)); exact HO415.out⟩, ⟨hb_⟩⟩
  ·replace c9 := Bool.eq_false_iff.mpr c9
   subst c9
   have H1 : (spec_WriteAt.j0 k l0 a1 a3 t412 true) = some (r1, r2, r3) := by rw [if_neg (show ¬ (false = true) by decide)] at H; exact H
   clear H
   have H := H1
   clear H1
   have H' := Aside0.mk H
   clear H
   go_wp2_with (first | ((with_reducible refine gate_callee (f := 25) rfl ?_); refine goesL_ (some 28) rfl rfl Try.func25 (by kernel_rfl) rfl #[.slice A0 l0.length c0] rfl sl_ ?_; (with_reducible refine (spec_StoreValid.calls k _ _ l0 false _ ?side1 ?side2 A8.out).mono ?_); (case side1 => exact kC_ (Kd.C_below HR0.out HB.out)); (case side2 => exact HC0.out); rintro e w18 ⟨rfl, hb⟩; refine ⟨_, rfl, ?_⟩; replace HO415 := Aside0.mk (Kd.R_below (kR_ HO415.out) hb); replace HB := Aside0.mk (below_step hb_ hb); (try clear hb)))
   go_meet
   case rel => exact ⟨_, (true), rs_, H', ⟨by first | omega | exact Nat.le_refl _⟩, ⟨by (with_reducible repeat (first | apply Kd.R_alloc | apply Kd.R_drewN | apply Kd.R_drew)); exact HO415.out⟩, ⟨hb_⟩⟩
 case rest =>
  clear HC6
  try clear c1
  try clear c2
  try clear p2
  try clear c3
  try clear c9
  try clear c10
  try clear c11
  try clear c11b0
  try clear c11b1
  try clear c11b2
  obtain ⟨kq, x43_5, rfl, HA, HJ5, HO_11, HB⟩ := hcut
  cases kq with
  | zero => exact absurd HA.out (by simp [spec_WriteAt.j0])
  | succ kj5 =>
   have H := HA.out
   clear HA
   simp only [spec_WriteAt.j0] at H
   by_cases c19 : x43_5 = true
   ·subst c19
    have H1 : (some ((([] : List (S45))), (-1), false)) = some (r1, r2, r3) := by rw [if_pos rfl] at H; exact H
    clear H
    have H := H1
    clear H1
    obtain ⟨y418, hy418⟩ : ∃ y_ : List (S45), y_ = (([] : List (S45))) := ⟨_, rfl⟩
    replace H : (some (y418, (-1), false)) = some (r1, r2, r3) := hq_ hy418 H
    have Ny418 := Aside0.mk hy418
    clear hy418
    simp only [Option.some.injEq, Prod.mk.injEq] at H
    obtain ⟨rfl, rfl, rfl⟩ := H
    go_wp2_with (first | ((with_reducible refine gate_dst (N := 44) rfl ?_); refine Kd.R_lit k45 _ 45 ?hg (N := 44) ?hd (xs := ([] : List (S45))) (inner := []) (ok := fun _ => True) (okp := fun _ => True) ?hr ?hp (fun _ hk => hk) trivial (Below.refl _ _) (Nat.le_refl _) (by simp) ?_; (case hd => rfl); (case hg => rfl); (case hr => first | (go_simp; done) | (go_simp; rfl)); (case hp => exact (Reps.none _ _)); intro v419 w20 ho21 hb hg_ hnew_; clear hg_ hnew_; (first | rw [← Ny418.out] at ho21 | (simp only [Int.reduceToNat] at ho21; rw [← Ny418.out] at ho21)); replace HO_11 := Aside0.mk (Kd.R_below (kR_ HO_11.out) hb); have HO420 := Aside0.mk (Kd.R_lower ho21 (below_size hb_)); replace HB := Aside0.mk (below_step hb_ hb); clear hb ho21))
    go_ret3
    exact ⟨_, er_, by (with_reducible repeat (first | apply Kd.R_alloc | apply Kd.R_drewN | apply Kd.R_drew)); exact HO420.out, hb_⟩
   ·replace c19 := Bool.eq_false_iff.mpr c19
    subst c19
    have H1 : ((some (([] : List (S45)) : List (S45))).bind fun y421 => (if y421.length + l0.length < 5864062014805 then ((some (y421 ++ l0 : List (S45))).bind fun y424 => ((spec_l4Get.f kj5 l0 a1).bind fun bt427 => (if bt427.2 = true then ((spec_FileText.f kj5 a3).bind fun t429 => ((spec_PrintOf.f kj5 t429).bind fun t430 => ((spec_l10Set.f kj5 l0 a1 t412 t430).bind fun bt431 => (if bt431.2.2 = true then ((spec_FileText.f kj5 a3).bind fun t436 => ((spec_PutText.f kj5 bt431.1 t436).bind fun bt437 => (if bt437.2.2 = true then ((some (([] : List (S45)) : List (S45))).bind fun y442 => (if y442.length + bt437.1.length < 5864062014805 then (some ((y442 ++ bt437.1), bt431.2.1, true)) else (none))) else (some (y424, a1, false))))) else (some (y424, a1, false)))))) else (some (y424, a1, false))))) else (none))) = some (r1, r2, r3) := by rw [if_neg (show ¬ (false = true) by decide)] at H; exact H
    clear H
    have H := H1
    clear H1
    obtain ⟨y421, hy421⟩ : ∃ y_ : List (S45), y_ = (([] : List (S45))) := ⟨_, rfl⟩
    replace H : (if y421.length + l0.length < 5864062014805 then ((some (y421 ++ l0 : List (S45))).bind fun y424 => ((spec_l4Get.f kj5 l0 a1).bind fun bt427 => (if bt427.2 = true then ((spec_FileText.f kj5 a3).bind fun t429 => ((spec_PrintOf.f kj5 t429).bind fun t430 => ((spec_l10Set.f kj5 l0 a1 t412 t430).bind fun bt431 => (if bt431.2.2 = true then ((spec_FileText.f kj5 a3).bind fun t436 => ((spec_PutText.f kj5 bt431.1 t436).bind fun bt437 => (if bt437.2.2 = true then ((some (([] : List (S45)) : List (S45))).bind fun y442 => (if y442.length + bt437.1.length < 5864062014805 then (some ((y442 ++ bt437.1), bt431.2.1, true)) else (none))) else (some (y424, a1, false))))) else (some (y424, a1, false)))))) else (some (y424, a1, false))))) else (none)) = some (r1, r2, r3) := hq_ hy421 H
    have Ny421 := Aside0.mk hy421
    clear hy421
    by_cases c22 : y421.length + l0.length < 5864062014805; rotate_left
    ·rw [if_neg c22] at H; exact absurd H (by simp)
    rw [if_pos c22] at H
    have LMc22 := Aside0.mk c22
    clear c22
    obtain ⟨y424, hy424⟩ : ∃ y_ : List (S45), y_ = (y421 ++ l0) := ⟨_, rfl⟩
    replace H : ((spec_l4Get.f kj5 l0 a1).bind fun bt427 => (if bt427.2 = true then ((spec_FileText.f kj5 a3).bind fun t429 => ((spec_PrintOf.f kj5 t429).bind fun t430 => ((spec_l10Set.f kj5 l0 a1 t412 t430).bind fun bt431 => (if bt431.2.2 = true then ((spec_FileText.f kj5 a3).bind fun t436 => ((spec_PutText.f kj5 bt431.1 t436).bind fun bt437 => (if bt437.2.2 = true then ((some (([] : List (S45)) : List (S45))).bind fun y442 => (if y442.length + bt437.1.length < 5864062014805 then (some ((y442 ++ bt437.1), bt431.2.1, true)) else (none))) else (some (y424, a1, false))))) else (some (y424, a1, false)))))) else (some (y424, a1, false)))) = some (r1, r2, r3) := hq_ hy424 H
    have Ny424 := Aside0.mk hy424
    clear hy424
    replace H := Option.bind_eq_some_iff.mp H
    obtain ⟨⟨t427, t428⟩, A230, H⟩ := H
    replace H : (if t428 = true then ((spec_FileText.f kj5 a3).bind fun t429 => ((spec_PrintOf.f kj5 t429).bind fun t430 => ((spec_l10Set.f kj5 l0 a1 t412 t430).bind fun bt431 => (if bt431.2.2 = true then ((spec_FileText.f kj5 a3).bind fun t436 => ((spec_PutText.f kj5 bt431.1 t436).bind fun bt437 => (if bt437.2.2 = true then ((some (([] : List (S45)) : List (S45))).bind fun y442 => (if y442.length + bt437.1.length < 5864062014805 then (some ((y442 ++ bt437.1), bt431.2.1, true)) else (none))) else (some (y424, a1, false))))) else (some (y424, a1, false)))))) else (some (y424, a1, false))) = some (r1, r2, r3) := H
    have A23 := Aside0.mk A230
    clear A230
    by_cases c24 : t428 = true
    ·subst c24
     have H1 : ((spec_FileText.f kj5 a3).bind fun t429 => ((spec_PrintOf.f kj5 t429).bind fun t430 => ((spec_l10Set.f kj5 l0 a1 t412 t430).bind fun bt431 => (if bt431.2.2 = true then ((spec_FileText.f kj5 a3).bind fun t436 => ((spec_PutText.f kj5 bt431.1 t436).bind fun bt437 => (if bt437.2.2 = true then ((some (([] : List (S45)) : List (S45))).bind fun y442 => (if y442.length + bt437.1.length < 5864062014805 then (some ((y442 ++ bt437.1), bt431.2.1, true)) else (none))) else (some (y424, a1, false))))) else (some (y424, a1, false)))))) = some (r1, r2, r3) := by rw [if_pos rfl] at H; exact H
     clear H
     have H := H1
     clear H1
     replace H := Option.bind_eq_some_iff.mp H
     obtain ⟨t429, A250, H⟩ := H
     replace H : ((spec_PrintOf.f kj5 t429).bind fun t430 => ((spec_l10Set.f kj5 l0 a1 t412 t430).bind fun bt431 => (if bt431.2.2 = true then ((spec_FileText.f kj5 a3).bind fun t436 => ((spec_PutText.f kj5 bt431.1 t436).bind fun bt437 => (if bt437.2.2 = true then ((some (([] : List (S45)) : List (S45))).bind fun y442 => (if y442.length + bt437.1.length < 5864062014805 then (some ((y442 ++ bt437.1), bt431.2.1, true)) else (none))) else (some (y424, a1, false))))) else (some (y424, a1, false))))) = some (r1, r2, r3) := H
     have A25 := Aside0.mk A250
     clear A250
     replace H := Option.bind_eq_some_iff.mp H
     obtain ⟨t430, A260, H⟩ := H
     replace H : ((spec_l10Set.f kj5 l0 a1 t412 t430).bind fun bt431 => (if bt431.2.2 = true then ((spec_FileText.f kj5 a3).bind fun t436 => ((spec_PutText.f kj5 bt431.1 t436).bind fun bt437 => (if bt437.2.2 = true then ((some (([] : List (S45)) : List (S45))).bind fun y442 => (if y442.length + bt437.1.length < 5864062014805 then (some ((y442 ++ bt437.1), bt431.2.1, true)) else (none))) else (some (y424, a1, false))))) else (some (y424, a1, false)))) = some (r1, r2, r3) := H
     have A26 := Aside0.mk A260
     clear A260
     replace H := Option.bind_eq_some_iff.mp H
     obtain ⟨⟨t431, t434, t435⟩, A270, H⟩ := H
     replace H : (if t435 = true then ((spec_FileText.f kj5 a3).bind fun t436 => ((spec_PutText.f kj5 t431 t436).bind fun bt437 => (if bt437.2.2 = true then ((some (([] : List (S45)) : List (S45))).bind fun y442 => (if y442.length + bt437.1.length < 5864062014805 then (some ((y442 ++ bt437.1), t434, true)) else (none))) else (some (y424, a1, false))))) else (some (y424, a1, false))) = some (r1, r2, r3) := H
     have A27 := Aside0.mk A270
     clear A270
     by_cases c28 : t435 = true
     ·subst c28
      have H1 : ((spec_FileText.f kj5 a3).bind fun t436 => ((spec_PutText.f kj5 t431 t436).bind fun bt437 => (if bt437.2.2 = true then ((some (([] : List (S45)) : List (S45))).bind fun y442 => (if y442.length + bt437.1.length < 5864062014805 then (some ((y442 ++ bt437.1), t434, true)) else (none))) else (some (y424, a1, false))))) = some (r1, r2, r3) := by rw [if_pos rfl] at H; exact H
      clear H
      have H := H1
      clear H1
      replace H := Option.bind_eq_some_iff.mp H
      obtain ⟨t436, A290, H⟩ := H
      replace H : ((spec_PutText.f kj5 t431 t436).bind fun bt437 => (if bt437.2.2 = true then ((some (([] : List (S45)) : List (S45))).bind fun y442 => (if y442.length + bt437.1.length < 5864062014805 then (some ((y442 ++ bt437.1), t434, true)) else (none))) else (some (y424, a1, false)))) = some (r1, r2, r3) := H
      have A29 := Aside0.mk A290
      clear A290
      replace H := Option.bind_eq_some_iff.mp H
      obtain ⟨⟨t437, t438, t439⟩, A300, H⟩ := H
      replace H : (if t439 = true then ((some (([] : List (S45)) : List (S45))).bind fun y442 => (if y442.length + t437.length < 5864062014805 then (some ((y442 ++ t437), t434, true)) else (none))) else (some (y424, a1, false))) = some (r1, r2, r3) := H
      have A30 := Aside0.mk A300
      clear A300
      by_cases c31 : t439 = true
      ·subst c31
       have H1 : ((some (([] : List (S45)) : List (S45))).bind fun y442 => (if y442.length + t437.length < 5864062014805 then (some ((y442 ++ t437), t434, true)) else (none))) = some (r1, r2, r3) := by rw [if_pos rfl] at H; exact H
       clear H
       have H := H1
       clear H1
       obtain ⟨y442, hy442⟩ : ∃ y_ : List (S45), y_ = (([] : List (S45))) := ⟨_, rfl⟩
       replace H : (if y442.length + t437.length < 5864062014805 then (some ((y442 ++ t437), t434, true)) else (none)) = some (r1, r2, r3) := hq_ hy442 H
       have Ny442 := Aside0.mk hy442
       clear hy442
       by_cases c32 : y442.length + t437.length < 5864062014805; rotate_left
       ·rw [if_neg c32] at H; exact absurd H (by simp)
       rw [if_pos c32] at H
       have LMc32 := Aside0.mk c32
       clear c32
       obtain ⟨y445, hy445⟩ : ∃ y_ : List (S45), y_ = (y442 ++ t437) := ⟨_, rfl⟩
       replace H : (some (y445, t434, true)) = some (r1, r2, r3) := hq_ hy445 H
       have Ny445 := Aside0.mk hy445
       clear hy445
       simp only [Option.some.injEq, Prod.mk.injEq] at H
       obtain ⟨rfl, rfl, rfl⟩ := H
       go_wp2_with (first | ((with_reducible refine gate_dst (N := 45) rfl ?_); refine Kd.R_lit k45 _ 45 ?hg (N := 45) ?hd (xs := ([] : List (S45))) (inner := []) (ok := fun _ => True) (okp := fun _ => True) ?hr ?hp (fun _ hk => hk) trivial (Below.refl _ _) (Nat.le_refl _) (by simp) ?_; (case hd => rfl); (case hg => rfl); (case hr => first | (go_simp; done) | (go_simp; rfl)); (case hp => exact (Reps.none _ _)); intro v422 w33 ho34 hb hg_ hnew_; clear hg_ hnew_; (first | rw [← Ny421.out] at ho34 | (simp only [Int.reduceToNat] at ho34; rw [← Ny421.out] at ho34)); replace HO_11 := Aside0.mk (Kd.R_below (kR_ HO_11.out) hb); have HO423 := Aside0.mk (Kd.R_lower ho34 (below_size hb_)); replace HB := Aside0.mk (below_step hb_ hb); clear hb ho34) | ((with_reducible refine gate_builtin (b := .append) (xs := #[.tmp 45, .tmp 46]) rfl ?_); at_builtin; refine Kd.R_append_rows k45 (w0 := w) w.heap.size rfl (.tmp 45) (.tmp 46) 29 45 (.agg #[(.int .i64 0), (.string ⟨#[]⟩)]) 24 rfl Try.underlying29 info45 rfl (by decide) (by omega) v422 y421 l0 _ _ _ (fun _ => True) (fun _ => False) rfl rfl ?aO ?aR (fun _ _ h => h) (fun _ h => h.elim) ?aF ?aB ?aS ?aL ?_; (case aR => repeat (first | exact (Kd.C_below HR0.out HB.out) | (with_reducible refine Kd.C_alloc ?_ _) | (with_reducible refine Kd.C_drewN ?_ _) | (with_reducible refine Kd.C_drew ?_))); (case aB => exact hb_); (case aF => exact (fun _ _ => trivial)); (case aO => exact (kR_ HO423.out)); (case aS => exact (below_size hb_)); (case aL => have := LMc22.out; omega); intro v425 w35 ho hb hg hat; rw [← Ny424.out] at ho; have n0_ := Aside0.mk (Kd.R_over' (kR_ HO_11.out) (Kd.R_typed (kR_ HO423.out)) (by decide) hg); have n1_ := Aside0.mk (hb); have n2_ := Aside0.mk (ho); clear HO_11; clear HB; clear HO423; have HO_11 := n0_; have HB := n1_; have HO426 := n2_; clear n0_ n1_ n2_; clear ho hb hg hat) | ((with_reducible refine gate_callee (f := 36) rfl ?_); refine goesL_ (some 51) rfl rfl Try.func36 (by kernel_rfl) rfl #[.slice A0 l0.length c0, .int .i64 a1] rfl sl_ ?_; (with_reducible refine (spec_l4Get.calls kj5 _ _ l0 a1 t427 true _ ?side1 ?side2 A23.out).mono ?_); (case side1 => exact kC_ (Kd.C_below HR0.out HB.out)); (case side2 => exact HC0.out); rintro e w' ⟨rfl, ⟨nd, rfl⟩⟩; refine ⟨_, rfl, ?_⟩) | ((with_reducible refine gate_callee (f := 39) rfl ?_); refine goesL_ (some 63) rfl rfl Try.func39 (by kernel_rfl) rfl #[.string a3] rfl sl_ ?_; (with_reducible refine (spec_FileText.calls kj5 a3 t429 _ A25.out).mono ?_); rintro e w' ⟨rfl, ⟨nd, rfl⟩⟩; refine ⟨_, rfl, ?_⟩) | ((with_reducible refine gate_callee (f := 38) rfl ?_); refine goesL_ (some 64) rfl rfl Try.func38 (by kernel_rfl) rfl #[.string t429] rfl sl_ ?_; (with_reducible refine (spec_PrintOf.calls kj5 t429 t430 _ A26.out).mono ?_); rintro e w' ⟨rfl, ⟨nd, rfl⟩⟩; refine ⟨_, rfl, ?_⟩; obtain ⟨Ao36, co36, eo36⟩ := Kd.R_slice HO_11.out; subst eo36) | ((with_reducible refine gate_callee (f := 37) rfl ?_); refine goesL_ (some 65) rfl rfl Try.func37 (by kernel_rfl) rfl #[.slice A0 l0.length c0, .int .i64 a1, .slice Ao36 t412.length co36, .int .i64 t430] rfl sl_ ?_; (with_reducible refine (spec_l10Set.calls kj5 (fun k_ => k_ < w.heap.size) _ _ l0 a1 _ _ t412 t430 t431 t434 true _ ?side1 ?side2 ?side3 A27.out).mono ?_); (case side1 => exact Kd.V_mk HC0.out (Kd.F_below (Kd.C_F k45_heap HR0.out) hb_)); (case side2 => exact kC_ ((Kd.R_reads' HO_11.out).2.2)); (case side3 => exact (Kd.R_reads' HO_11.out).2.1); rintro e w37 ⟨v432, rfl, ho0, hb⟩; refine ⟨_, rfl, ?_⟩; have HO433 := Aside0.mk (Kd.V_lower (Kd.V_mono (ok' := fun k_ => some k_ ≠ (.slice Ao36 t412.length co36 : Value).ownBlock ∧ some k_ ≠ (v425 : Value).ownBlock) ho0 (fun k_ hk_ => ⟨Or.elim hk_ (fun hs_ => fun e_ => Nat.not_le.2 hs_ (Kd.R_base HO_11.out k_ e_.symm)) (fun hn_ => (Kd.fresh' (Kd.R_lt (kR_ HO_11.out)) k_ hn_)), Or.elim hk_ (fun hs_ => fun e_ => Nat.not_le.2 hs_ (Kd.R_base HO426.out k_ e_.symm)) (fun hn_ => (Kd.fresh' (Kd.R_lt (kR_ HO426.out)) k_ hn_))⟩)) (below_size hb_)); replace HO_11 := Aside0.mk (Kd.R_below (kR_ HO_11.out) hb); replace HO426 := Aside0.mk (Kd.R_below (kR_ HO426.out) hb); replace HB := Aside0.mk (below_step hb_ hb); (try clear hb); (try clear hk); (try clear ho0)) | ((with_reducible refine gate_callee (f := 39) rfl ?_); refine goesL_ (some 76) rfl rfl Try.func39 (by kernel_rfl) rfl #[.string a3] rfl sl_ ?_; (with_reducible refine (spec_FileText.calls kj5 a3 t436 _ A29.out).mono ?_); rintro e w' ⟨rfl, ⟨nd, rfl⟩⟩; refine ⟨_, rfl, ?_⟩; obtain ⟨Ao38, co38, eo38⟩ := Kd.V_slice HO433.out; subst eo38) | ((with_reducible refine gate_callee (f := 30) rfl ?_); refine goesL_ (some 77) rfl rfl Try.func30 (by kernel_rfl) rfl #[.slice Ao38 t431.length co38, .string t436] rfl sl_ ?_; (with_reducible refine (spec_PutText.calls kj5 _ _ t431 t436 t437 t438 true _ ?side1 ?side2 A30.out).mono ?_); (case side1 => exact kC_ ((Kd.V_reads' HO433.out).2.2)); (case side2 => exact (Kd.V_reads' HO433.out).2.1); rintro e w39 ⟨v440, rfl, ho0, hb⟩; refine ⟨_, rfl, ?_⟩; have n0_ := Aside0.mk (Kd.R_below (kR_ HO_11.out) hb); have n1_ := Aside0.mk (Kd.R_elder' (kR_ HO426.out) (Kd.R_base ho0) hb); have n2_ := Aside0.mk (Kd.V_elder' (kV_ HO433.out) (Kd.R_base ho0) hb); have n3_ := Aside0.mk (Kd.R_lower (Kd.R_new' ho0 (Kd.R_lt (kR_ HO426.out))) (below_size hb_)); have n4_ := Aside0.mk (below_step hb_ hb); clear HO_11; clear HO426; clear HO433; clear HB; have HO_11 := n0_; have HO426 := n1_; have HO433 := n2_; have HO441 := n3_; have HB := n4_; clear n0_ n1_ n2_ n3_ n4_; (try clear hb); (try clear hk); (try clear ho0)) | ((with_reducible refine gate_dst (N := 85) rfl ?_); refine Kd.R_lit k45 _ 45 ?hg (N := 85) ?hd (xs := ([] : List (S45))) (inner := []) (ok := fun _ => True) (okp := fun _ => True) ?hr ?hp (fun _ hk => hk) trivial (Below.refl _ _) (Nat.le_refl _) (by simp) ?_; (case hd => rfl); (case hg => rfl); (case hr => first | (go_simp; done) | (go_simp; rfl)); (case hp => exact (Reps.none _ _)); intro v443 w40 ho41 hb hg_ hnew_; clear hg_ hnew_; (first | rw [← Ny442.out] at ho41 | (simp only [Int.reduceToNat] at ho41; rw [← Ny442.out] at ho41)); have n0_ := Aside0.mk (Kd.R_below (kR_ HO_11.out) hb); have n1_ := Aside0.mk (Kd.R_elder' (kR_ HO426.out) (Kd.R_base ho41) hb); have n2_ := Aside0.mk (Kd.V_elder' (kV_ HO433.out) (Kd.R_base ho41) hb); have n3_ := Aside0.mk (Kd.R_elder' (kR_ HO441.out) (Kd.R_base ho41) hb); have n4_ := Aside0.mk (Kd.R_lower (Kd.R_new' (Kd.R_new' ho41 (Kd.R_lt (kR_ HO426.out))) (Kd.R_lt (kR_ HO441.out))) (below_size hb_)); have n5_ := Aside0.mk (below_step hb_ hb); clear HO_11; clear HO426; clear HO433; clear HO441; clear HB; have HO_11 := n0_; have HO426 := n1_; have HO433 := n2_; have HO441 := n3_; have HO444 := n4_; have HB := n5_; clear n0_ n1_ n2_ n3_ n4_ n5_; clear hb ho41; obtain ⟨Ao43, co43, eo43⟩ := Kd.R_slice HO441.out; subst eo43) | ((with_reducible refine gate_builtin (b := .append) (xs := #[.tmp 85, .tmp 86]) rfl ?_); at_builtin; refine Kd.R_append_rows k45 (w0 := w) w.heap.size rfl (.tmp 85) (.tmp 86) 29 45 (.agg #[(.int .i64 0), (.string ⟨#[]⟩)]) 24 rfl Try.underlying29 info45 rfl (by decide) (by omega) v443 y442 t437 _ _ _ (fun k_ => some k_ ≠ (v425 : Value).ownBlock ∧ some k_ ≠ (.slice Ao43 t437.length co43 : Value).ownBlock) (fun _ => False) rfl rfl ?aO ?aR (fun _ _ h => h) (fun _ h => h.elim) ?aF ?aB ?aS ?aL ?_; (case aR => repeat (first | exact (Kd.R_reads' HO441.out).2.2 | (with_reducible refine Kd.C_alloc ?_ _) | (with_reducible refine Kd.C_drewN ?_ _) | (with_reducible refine Kd.C_drew ?_))); (case aB => exact hb_); (case aF => exact (fun k_ hk => ⟨Kd.fresh' (Kd.R_lt (kR_ HO426.out)) k_ hk, Kd.fresh' (Kd.R_lt (kR_ HO441.out)) k_ hk⟩)); (case aO => exact (by refine kR_ ?_; exact Kd.R_mono HO444.out (fun _ hk => ⟨hk.1.2, hk.2⟩))); (case aS => exact (below_size hb_)); (case aL => have := LMc32.out; omega); intro v446 w42 ho hb hg hat; rw [← Ny445.out] at ho; have n0_ := Aside0.mk (Kd.R_over' (kR_ HO_11.out) (Kd.R_typed (kR_ HO444.out)) (by decide) hg); have n1_ := Aside0.mk (Kd.R_after (ok := (fun k_ => some k_ ≠ (.slice Ao43 t437.length co43 : Value).ownBlock)) (by refine kR_ ?_; exact Kd.R_mono HO426.out (fun _ hk => ⟨hk.1.2, hk.2⟩)) hg hat); have n2_ := Aside0.mk (Kd.V_afterv (ok := (fun k_ => some k_ ≠ (.slice Ao36 t412.length co36 : Value).ownBlock ∧ some k_ ≠ (v425 : Value).ownBlock ∧ some k_ ≠ (.slice Ao43 t437.length co43 : Value).ownBlock)) (by refine kV_ ?_; exact Kd.V_mono HO433.out (fun _ hk => ⟨⟨hk.1.1.1, ⟨hk.1.1.2, hk.1.2⟩⟩, hk.2⟩)) hg hat); have n3_ := Aside0.mk (Kd.R_after (ok := (fun k_ => some k_ ≠ (v425 : Value).ownBlock)) (by refine kR_ ?_; exact Kd.R_mono HO441.out (fun _ hk => ⟨hk.1.2, hk.2⟩)) hg hat); have n4_ := Aside0.mk (hb); have n5_ := Aside0.mk (ho); clear HO_11; clear HO426; clear HO433; clear HO441; clear HB; clear HO444; have HO_11 := n0_; have HO426 := n1_; have HO433 := n2_; have HO441 := n3_; have HB := n4_; have HO447 := n5_; clear n0_ n1_ n2_ n3_ n4_ n5_; clear ho hb hg hat))
       go_ret3
       exact ⟨_, er_, by (with_reducible repeat (first | apply Kd.R_alloc | apply Kd.R_drewN | apply Kd.R_drew)); exact Kd.R_mono HO447.out (fun _ hk => trivial), hb_⟩
      ·replace c31 := Bool.eq_false_iff.mpr c31
       subst c31
       have H1 : (some (y424, a1, false)) = some (r1, r2, r3) := by rw [if_neg (show ¬ (false = true) by decide)] at H; exact H
       clear H
       have H := H1
       clear H1
       simp only [Option.some.injEq, Prod.mk.injEq] at H
       obtain ⟨rfl, rfl, rfl⟩ := H
       go_wp2_with (first | ((with_reducible refine gate_dst (N := 45) rfl ?_); refine Kd.R_lit k45 _ 45 ?hg (N := 45) ?hd (xs := ([] : List (S45))) (inner := []) (ok := fun _ => True) (okp := fun _ => True) ?hr ?hp (fun _ hk => hk) trivial (Below.refl _ _) (Nat.le_refl _) (by simp) ?_; (case hd => rfl); (case hg => rfl); (case hr => first | (go_simp; done) | (go_simp; rfl)); (case hp => exact (Reps.none _ _)); intro v422 w44 ho45 hb hg_ hnew_; clear hg_ hnew_; (first | rw [← Ny421.out] at ho45 | (simp only [Int.reduceToNat] at ho45; rw [← Ny421.out] at ho45)); replace HO_11 := Aside0.mk (Kd.R_below (kR_ HO_11.out) hb); have HO423 := Aside0.mk (Kd.R_lower ho45 (below_size hb_)); replace HB := Aside0.mk (below_step hb_ hb); clear hb ho45) | ((with_reducible refine gate_builtin (b := .append) (xs := #[.tmp 45, .tmp 46]) rfl ?_); at_builtin; refine Kd.R_append_rows k45 (w0 := w) w.heap.size rfl (.tmp 45) (.tmp 46) 29 45 (.agg #[(.int .i64 0), (.string ⟨#[]⟩)]) 24 rfl Try.underlying29 info45 rfl (by decide) (by omega) v422 y421 l0 _ _ _ (fun _ => True) (fun _ => False) rfl rfl ?aO ?aR (fun _ _ h => h) (fun _ h => h.elim) ?aF ?aB ?aS ?aL ?_; (case aR => repeat (first | exact (Kd.C_below HR0.out HB.out) | (with_reducible refine Kd.C_alloc ?_ _) | (with_reducible refine Kd.C_drewN ?_ _) | (with_reducible refine Kd.C_drew ?_))); (case aB => exact hb_); (case aF => exact (fun _ _ => trivial)); (case aO => exact (kR_ HO423.out)); (case aS => exact (below_size hb_)); (case aL => have := LMc22.out; omega); intro v425 w46 ho hb hg hat; rw [← Ny424.out] at ho; have n0_ := Aside0.mk (Kd.R_over' (kR_ HO_11.out) (Kd.R_typed (kR_ HO423.out)) (by decide) hg); have n1_ := Aside0.mk (hb); have n2_ := Aside0.mk (ho); clear HO_11; clear HB; clear HO423; have HO_11 := n0_; have HB := n1_; have HO426 := n2_; clear n0_ n1_ n2_; clear ho hb hg hat) | ((with_reducible refine gate_callee (f := 36) rfl ?_); refine goesL_ (some 51) rfl rfl Try.func36 (by kernel_rfl) rfl #[.slice A0 l0.length c0, .int .i64 a1] rfl sl_ ?_; (with_reducible refine (spec_l4Get.calls kj5 _ _ l0 a1 t427 true _ ?side1 ?side2 A23.out).mono ?_); (case side1 => exact kC_ (Kd.C_below HR0.out HB.out)); (case side2 => exact HC0.out); rintro e w' ⟨rfl, ⟨nd, rfl⟩⟩; refine ⟨_, rfl, ?_⟩) | ((with_reducible refine gate_callee (f := 39) rfl ?_); refine goesL_ (some 63) rfl rfl Try.func39 (by kernel_rfl) rfl #[.string a3] rfl sl_ ?_; (with_reducible refine (spec_FileText.calls kj5 a3 t429 _ A25.out).mono ?_); rintro e w' ⟨rfl, ⟨nd, rfl⟩⟩; refine ⟨_, rfl, ?_⟩) | ((with_reducible refine gate_callee (f := 38) rfl ?_); refine goesL_ (some 64) rfl rfl Try.func38 (by kernel_rfl) rfl #[.string t429] rfl sl_ ?_; (with_reducible refine (spec_PrintOf.calls kj5 t429 t430 _ A26.out).mono ?_); rintro e w' ⟨rfl, ⟨nd, rfl⟩⟩; refine ⟨_, rfl, ?_⟩; obtain ⟨Ao47, co47, eo47⟩ := Kd.R_slice HO_11.out; subst eo47) | ((with_reducible refine gate_callee (f := 37) rfl ?_); refine goesL_ (some 65) rfl rfl Try.func37 (by kernel_rfl) rfl #[.slice A0 l0.length c0, .int .i64 a1, .slice Ao47 t412.length co47, .int .i64 t430] rfl sl_ ?_; (with_reducible refine (spec_l10Set.calls kj5 (fun k_ => k_ < w.heap.size) _ _ l0 a1 _ _ t412 t430 t431 t434 true _ ?side1 ?side2 ?side3 A27.out).mono ?_); (case side1 => exact Kd.V_mk HC0.out (Kd.F_below (Kd.C_F k45_heap HR0.out) hb_)); (case side2 => exact kC_ ((Kd.R_reads' HO_11.out).2.2)); (case side3 => exact (Kd.R_reads' HO_11.out).2.1); rintro e w48 ⟨v432, rfl, ho0, hb⟩; refine ⟨_, rfl, ?_⟩; have HO433 := Aside0.mk (Kd.V_lower (Kd.V_mono (ok' := fun k_ => some k_ ≠ (.slice Ao47 t412.length co47 : Value).ownBlock ∧ some k_ ≠ (v425 : Value).ownBlock) ho0 (fun k_ hk_ => ⟨Or.elim hk_ (fun hs_ => fun e_ => Nat.not_le.2 hs_ (Kd.R_base HO_11.out k_ e_.symm)) (fun hn_ => (Kd.fresh' (Kd.R_lt (kR_ HO_11.out)) k_ hn_)), Or.elim hk_ (fun hs_ => fun e_ => Nat.not_le.2 hs_ (Kd.R_base HO426.out k_ e_.symm)) (fun hn_ => (Kd.fresh' (Kd.R_lt (kR_ HO426.out)) k_ hn_))⟩)) (below_size hb_)); replace HO_11 := Aside0.mk (Kd.R_below (kR_ HO_11.out) hb); replace HO426 := Aside0.mk (Kd.R_below (kR_ HO426.out) hb); replace HB := Aside0.mk (below_step hb_ hb); (try clear hb); (try clear hk); (try clear ho0)) | ((with_reducible refine gate_callee (f := 39) rfl ?_); refine goesL_ (some 76) rfl rfl Try.func39 (by kernel_rfl) rfl #[.string a3] rfl sl_ ?_; (with_reducible refine (spec_FileText.calls kj5 a3 t436 _ A29.out).mono ?_); rintro e w' ⟨rfl, ⟨nd, rfl⟩⟩; refine ⟨_, rfl, ?_⟩; obtain ⟨Ao49, co49, eo49⟩ := Kd.V_slice HO433.out; subst eo49) | ((with_reducible refine gate_callee (f := 30) rfl ?_); refine goesL_ (some 77) rfl rfl Try.func30 (by kernel_rfl) rfl #[.slice Ao49 t431.length co49, .string t436] rfl sl_ ?_; (with_reducible refine (spec_PutText.calls kj5 _ _ t431 t436 t437 t438 false _ ?side1 ?side2 A30.out).mono ?_); (case side1 => exact kC_ ((Kd.V_reads' HO433.out).2.2)); (case side2 => exact (Kd.V_reads' HO433.out).2.1); rintro e w50 ⟨v440, rfl, ho0, hb⟩; refine ⟨_, rfl, ?_⟩; have n0_ := Aside0.mk (Kd.R_below (kR_ HO_11.out) hb); have n1_ := Aside0.mk (Kd.R_elder' (kR_ HO426.out) (Kd.R_base ho0) hb); have n2_ := Aside0.mk (Kd.V_elder' (kV_ HO433.out) (Kd.R_base ho0) hb); have n3_ := Aside0.mk (Kd.R_lower (Kd.R_new' ho0 (Kd.R_lt (kR_ HO426.out))) (below_size hb_)); have n4_ := Aside0.mk (below_step hb_ hb); clear HO_11; clear HO426; clear HO433; clear HB; have HO_11 := n0_; have HO426 := n1_; have HO433 := n2_; have HO441 := n3_; have HB := n4_; clear n0_ n1_ n2_ n3_ n4_; (try clear hb); (try clear hk); (try clear ho0)))
       go_ret3
       exact ⟨_, er_, by (with_reducible repeat (first | apply Kd.R_alloc | apply Kd.R_drewN | apply Kd.R_drew)); exact Kd.R_mono HO426.out (fun _ hk => trivial), hb_⟩
     ·replace c28 := Bool.eq_false_iff.mpr c28
      subst c28
      have H1 : (some (y424, a1, false)) = some (r1, r2, r3) := by rw [if_neg (show ¬ (false = true) by decide)] at H; exact H
      clear H
      have H := H1
      clear H1
      simp only [Option.some.injEq, Prod.mk.injEq] at H
      obtain ⟨rfl, rfl, rfl⟩ := H
      go_wp2_with (first | ((with_reducible refine gate_dst (N := 45) rfl ?_); refine Kd.R_lit k45 _ 45 ?hg (N := 45) ?hd (xs := ([] : List (S45))) (inner := []) (ok := fun _ => True) (okp := fun _ => True) ?hr ?hp (fun _ hk => hk) trivial (Below.refl _ _) (Nat.le_refl _) (by simp) ?_; (case hd => rfl); (case hg => rfl); (case hr => first | (go_simp; done) | (go_simp; rfl)); (case hp => exact (Reps.none _ _)); intro v422 w51 ho52 hb hg_ hnew_; clear hg_ hnew_; (first | rw [← Ny421.out] at ho52 | (simp only [Int.reduceToNat] at ho52; rw [← Ny421.out] at ho52)); replace HO_11 := Aside0.mk (Kd.R_below (kR_ HO_11.out) hb); have HO423 := Aside0.mk (Kd.R_lower ho52 (below_size hb_)); replace HB := Aside0.mk (below_step hb_ hb); clear hb ho52) | ((with_reducible refine gate_builtin (b := .append) (xs := #[.tmp 45, .tmp 46]) rfl ?_); at_builtin; refine Kd.R_append_rows k45 (w0 := w) w.heap.size rfl (.tmp 45) (.tmp 46) 29 45 (.agg #[(.int .i64 0), (.string ⟨#[]⟩)]) 24 rfl Try.underlying29 info45 rfl (by decide) (by omega) v422 y421 l0 _ _ _ (fun _ => True) (fun _ => False) rfl rfl ?aO ?aR (fun _ _ h => h) (fun _ h => h.elim) ?aF ?aB ?aS ?aL ?_; (case aR => repeat (first | exact (Kd.C_below HR0.out HB.out) | (with_reducible refine Kd.C_alloc ?_ _) | (with_reducible refine Kd.C_drewN ?_ _) | (with_reducible refine Kd.C_drew ?_))); (case aB => exact hb_); (case aF => exact (fun _ _ => trivial)); (case aO => exact (kR_ HO423.out)); (case aS => exact (below_size hb_)); (case aL => have := LMc22.out; omega); intro v425 w53 ho hb hg hat; rw [← Ny424.out] at ho; have n0_ := Aside0.mk (Kd.R_over' (kR_ HO_11.out) (Kd.R_typed (kR_ HO423.out)) (by decide) hg); have n1_ := Aside0.mk (hb); have n2_ := Aside0.mk (ho); clear HO_11; clear HB; clear HO423; have HO_11 := n0_; have HB := n1_; have HO426 := n2_; clear n0_ n1_ n2_; clear ho hb hg hat) | ((with_reducible refine gate_callee (f := 36) rfl ?_); refine goesL_ (some 51) rfl rfl Try.func36 (by kernel_rfl) rfl #[.slice A0 l0.length c0, .int .i64 a1] rfl sl_ ?_; (with_reducible refine (spec_l4Get.calls kj5 _ _ l0 a1 t427 true _ ?side1 ?side2 A23.out).mono ?_); (case side1 => exact kC_ (Kd.C_below HR0.out HB.out)); (case side2 => exact HC0.out); rintro e w' ⟨rfl, ⟨nd, rfl⟩⟩; refine ⟨_, rfl, ?_⟩) | ((with_reducible refine gate_callee (f := 39) rfl ?_); refine goesL_ (some 63) rfl rfl Try.func39 (by kernel_rfl) rfl #[.string a3] rfl sl_ ?_; (with_reducible refine (spec_FileText.calls kj5 a3 t429 _ A25.out).mono ?_); rintro e w' ⟨rfl, ⟨nd, rfl⟩⟩; refine ⟨_, rfl, ?_⟩) | ((with_reducible refine gate_callee (f := 38) rfl ?_); refine goesL_ (some 64) rfl rfl Try.func38 (by kernel_rfl) rfl #[.string t429] rfl sl_ ?_; (with_reducible refine (spec_PrintOf.calls kj5 t429 t430 _ A26.out).mono ?_); rintro e w' ⟨rfl, ⟨nd, rfl⟩⟩; refine ⟨_, rfl, ?_⟩; obtain ⟨Ao54, co54, eo54⟩ := Kd.R_slice HO_11.out; subst eo54) | ((with_reducible refine gate_callee (f := 37) rfl ?_); refine goesL_ (some 65) rfl rfl Try.func37 (by kernel_rfl) rfl #[.slice A0 l0.length c0, .int .i64 a1, .slice Ao54 t412.length co54, .int .i64 t430] rfl sl_ ?_; (with_reducible refine (spec_l10Set.calls kj5 (fun k_ => k_ < w.heap.size) _ _ l0 a1 _ _ t412 t430 t431 t434 false _ ?side1 ?side2 ?side3 A27.out).mono ?_); (case side1 => exact Kd.V_mk HC0.out (Kd.F_below (Kd.C_F k45_heap HR0.out) hb_)); (case side2 => exact kC_ ((Kd.R_reads' HO_11.out).2.2)); (case side3 => exact (Kd.R_reads' HO_11.out).2.1); rintro e w55 ⟨v432, rfl, ho0, hb⟩; refine ⟨_, rfl, ?_⟩; have HO433 := Aside0.mk (Kd.V_lower (Kd.V_mono (ok' := fun k_ => some k_ ≠ (.slice Ao54 t412.length co54 : Value).ownBlock ∧ some k_ ≠ (v425 : Value).ownBlock) ho0 (fun k_ hk_ => ⟨Or.elim hk_ (fun hs_ => fun e_ => Nat.not_le.2 hs_ (Kd.R_base HO_11.out k_ e_.symm)) (fun hn_ => (Kd.fresh' (Kd.R_lt (kR_ HO_11.out)) k_ hn_)), Or.elim hk_ (fun hs_ => fun e_ => Nat.not_le.2 hs_ (Kd.R_base HO426.out k_ e_.symm)) (fun hn_ => (Kd.fresh' (Kd.R_lt (kR_ HO426.out)) k_ hn_))⟩)) (below_size hb_)); replace HO_11 := Aside0.mk (Kd.R_below (kR_ HO_11.out) hb); replace HO426 := Aside0.mk (Kd.R_below (kR_ HO426.out) hb); replace HB := Aside0.mk (below_step hb_ hb); (try clear hb); (try clear hk); (try clear ho0)))
      go_ret3
      exact ⟨_, er_, by (with_reducible repeat (first | apply Kd.R_alloc | apply Kd.R_drewN | apply Kd.R_drew)); exact HO426.out, hb_⟩
    ·replace c24 := Bool.eq_false_iff.mpr c24
     subst c24
     have H1 : (some (y424, a1, false)) = some (r1, r2, r3) := by rw [if_neg (show ¬ (false = true) by decide)] at H; exact H
     clear H
     have H := H1
     clear H1
     simp only [Option.some.injEq, Prod.mk.injEq] at H
     obtain ⟨rfl, rfl, rfl⟩ := H
     go_wp2_with (first | ((with_reducible refine gate_dst (N := 45) rfl ?_); refine Kd.R_lit k45 _ 45 ?hg (N := 45) ?hd (xs := ([] : List (S45))) (inner := []) (ok := fun _ => True) (okp := fun _ => True) ?hr ?hp (fun _ hk => hk) trivial (Below.refl _ _) (Nat.le_refl _) (by simp) ?_; (case hd => rfl); (case hg => rfl); (case hr => first | (go_simp; done) | (go_simp; rfl)); (case hp => exact (Reps.none _ _)); intro v422 w56 ho57 hb hg_ hnew_; clear hg_ hnew_; (first | rw [← Ny421.out] at ho57 | (simp only [Int.reduceToNat] at ho57; rw [← Ny421.out] at ho57)); replace HO_11 := Aside0.mk (Kd.R_below (kR_ HO_11.out) hb); have HO423 := Aside0.mk (Kd.R_lower ho57 (below_size hb_)); replace HB := Aside0.mk (below_step hb_ hb); clear hb ho57) | ((with_reducible refine gate_builtin (b := .append) (xs := #[.tmp 45, .tmp 46]) rfl ?_); at_builtin; refine Kd.R_append_rows k45 (w0 := w) w.heap.size rfl (.tmp 45) (.tmp 46) 29 45 (.agg #[(.int .i64 0), (.string ⟨#[]⟩)]) 24 rfl Try.underlying29 info45 rfl (by decide) (by omega) v422 y421 l0 _ _ _ (fun _ => True) (fun _ => False) rfl rfl ?aO ?aR (fun _ _ h => h) (fun _ h => h.elim) ?aF ?aB ?aS ?aL ?_; (case aR => repeat (first | exact (Kd.C_below HR0.out HB.out) | (with_reducible refine Kd.C_alloc ?_ _) | (with_reducible refine Kd.C_drewN ?_ _) | (with_reducible refine Kd.C_drew ?_))); (case aB => exact hb_); (case aF => exact (fun _ _ => trivial)); (case aO => exact (kR_ HO423.out)); (case aS => exact (below_size hb_)); (case aL => have := LMc22.out; omega); intro v425 w58 ho hb hg hat; rw [← Ny424.out] at ho; have n0_ := Aside0.mk (Kd.R_over' (kR_ HO_11.out) (Kd.R_typed (kR_ HO423.out)) (by decide) hg); have n1_ := Aside0.mk (hb); have n2_ := Aside0.mk (ho); clear HO_11; clear HB; clear HO423; have HO_11 := n0_; have HB := n1_; have HO426 := n2_; clear n0_ n1_ n2_; clear ho hb hg hat) | ((with_reducible refine gate_callee (f := 36) rfl ?_); refine goesL_ (some 51) rfl rfl Try.func36 (by kernel_rfl) rfl #[.slice A0 l0.length c0, .int .i64 a1] rfl sl_ ?_; (with_reducible refine (spec_l4Get.calls kj5 _ _ l0 a1 t427 false _ ?side1 ?side2 A23.out).mono ?_); (case side1 => exact kC_ (Kd.C_below HR0.out HB.out)); (case side2 => exact HC0.out); rintro e w' ⟨rfl, ⟨nd, rfl⟩⟩; refine ⟨_, rfl, ?_⟩))
     go_ret3
     exact ⟨_, er_, by (with_reducible repeat (first | apply Kd.R_alloc | apply Kd.R_drewN | apply Kd.R_drew)); exact HO426.out, hb_⟩
/-! ### spec_l20Content: function 24 -/
def spec_l20Content.f (k : Nat) (s0_0 : List Int) (s0_1 : Int) : Option (ByteArray × Int) := (some (([(⟨#[104, 105]⟩ : ByteArray), (⟨#[114, 101, 100, 32, 103, 114, 101, 101, 110]⟩ : ByteArray), (⟨#[]⟩ : ByteArray), (⟨#[120]⟩ : ByteArray)] : List ByteArray) : List ByteArray)).bind fun y448 => ((spec_l20Rd_pick.f k s0_0 s0_1 4).bind fun bt451 => (if 0 ≤ bt451.1 then (if bt451.1 < (y448.length : Int) then (some (rdOf ByteArray.empty y448 bt451.1, bt451.2)) else (none)) else (none)))
theorem spec_l20Content.mono : ∀ a0 a1 k, LeO (spec_l20Content.f k a0 a1) (spec_l20Content.f (k + 1) a0 a1) := by
 intro a0 a1 k
 unfold spec_l20Content.f
 repeat' first
   | (with_reducible exact spec_l20Rd_pick.mono _ _ _ _)
   | (with_reducible exact LeO.refl _)
   | (with_reducible exact LeO.none _)
   | (with_reducible refine LeO.ite ?_ ?_)
   | (with_reducible refine LeO.bind ?_ (fun _ => ?_))
   | exact spec_l20Rd_pick.mono _ _ _ _
   | exact LeO.none _
   | refine LeO.ite ?_ ?_
   | refine LeO.bind ?_ (fun _ => ?_)
set_option maxHeartbeats 8000000 in
set_option maxRecDepth 100000 in
theorem spec_l20Content.calls (k : Nat) (g : Nat) (s0_0 : List Int) (s0_1 : Int) (r1 : ByteArray) (r2 : Int) (w0 w : World) (hI : IsS51 w0 w g s0_0 s0_1) (hB : Below w0.heap.size w0 w) (h : spec_l20Content.f k s0_0 s0_1 = some (r1, r2)) :
  Calls Try.prog 24 #[.pointer (some ⟨g, 0, none⟩)] w fun e w' => e = .returned (.string r1) ∧ IsS51 w0 w' g s0_0 r2 ∧ Below w0.heap.size w0 w' ∧ KeepBut w w' g none := by
 have HI0 := Aside0.mk hI
 have HK := Aside0.mk (KeepBut.refl w g none)
 have HL := Aside0.mk hB.size
 clear hI
 have HW0 := Aside0.mk hB.size
 have HB := Aside0.mk hB
 clear hB
 have H : ((some (([(⟨#[104, 105]⟩ : ByteArray), (⟨#[114, 101, 100, 32, 103, 114, 101, 101, 110]⟩ : ByteArray), (⟨#[]⟩ : ByteArray), (⟨#[120]⟩ : ByteArray)] : List ByteArray) : List ByteArray)).bind fun y448 => ((spec_l20Rd_pick.f k s0_0 s0_1 4).bind fun bt451 => (if 0 ≤ bt451.1 then (if bt451.1 < (y448.length : Int) then (some (rdOf ByteArray.empty y448 bt451.1, bt451.2)) else (none)) else (none)))) = some (r1, r2) := h
 clear h
 obtain ⟨y448, hy448⟩ : ∃ y_ : List ByteArray, y_ = (([(⟨#[104, 105]⟩ : ByteArray), (⟨#[114, 101, 100, 32, 103, 114, 101, 101, 110]⟩ : ByteArray), (⟨#[]⟩ : ByteArray), (⟨#[120]⟩ : ByteArray)] : List ByteArray)) := ⟨_, rfl⟩
 replace H : ((spec_l20Rd_pick.f k s0_0 s0_1 4).bind fun bt451 => (if 0 ≤ bt451.1 then (if bt451.1 < (y448.length : Int) then (some (rdOf ByteArray.empty y448 bt451.1, bt451.2)) else (none)) else (none))) = some (r1, r2) := hq_ hy448 H
 have Ny448 := Aside0.mk hy448
 clear hy448
 replace H := Option.bind_eq_some_iff.mp H
 obtain ⟨⟨t451, t452⟩, A20, H⟩ := H
 replace H : (if 0 ≤ t451 then (if t451 < (y448.length : Int) then (some (rdOf ByteArray.empty y448 t451, t452)) else (none)) else (none)) = some (r1, r2) := H
 have A2 := Aside0.mk A20
 clear A20
 by_cases c3 : 0 ≤ t451; rotate_left
 ·rw [if_neg c3] at H; exact absurd H (by simp)
 rw [if_pos c3] at H
 have c3b0 : decide (0 ≤ t451) = true := decide_eq_true c3
 clear c3
 by_cases c4 : t451 < (y448.length : Int); rotate_left
 ·rw [if_neg c4] at H; exact absurd H (by simp)
 rw [if_pos c4] at H
 have c4b0 : decide (t451 < (y448.length : Int)) = true := decide_eq_true c4
 clear c4
 simp only [Option.some.injEq, Prod.mk.injEq] at H
 obtain ⟨rfl, rfl⟩ := H
 go_enter Try.func24, Try.ntmps24
 go_wp2_with (first | ((with_reducible refine gate_dst (N := 3) rfl ?_); refine Kd.R_lit Kd.string _ 9 ?hg (N := 3) ?hd (xs := ([(⟨#[104, 105]⟩ : ByteArray), (⟨#[114, 101, 100, 32, 103, 114, 101, 101, 110]⟩ : ByteArray), (⟨#[]⟩ : ByteArray), (⟨#[120]⟩ : ByteArray)] : List ByteArray)) (inner := [.string (⟨#[104, 105]⟩ : ByteArray), .string (⟨#[114, 101, 100, 32, 103, 114, 101, 101, 110]⟩ : ByteArray), .string (⟨#[]⟩ : ByteArray), .string (⟨#[120]⟩ : ByteArray)]) (ok := fun _ => True) (okp := fun _ => True) ?hr ?hp (fun _ hk => hk) trivial (Below.refl _ _) (Nat.le_refl _) (by simp) ?_; (case hd => rfl); (case hg => rfl); (case hr => first | (go_simp; done) | (go_simp; rfl)); (case hp => exact (Reps.one (show Kd.M Kd.string _ _ _ (⟨#[104, 105]⟩ : ByteArray) [.string (⟨#[104, 105]⟩ : ByteArray)] from rfl) (Reps.one (show Kd.M Kd.string _ _ _ (⟨#[114, 101, 100, 32, 103, 114, 101, 101, 110]⟩ : ByteArray) [.string (⟨#[114, 101, 100, 32, 103, 114, 101, 101, 110]⟩ : ByteArray)] from rfl) (Reps.one (show Kd.M Kd.string _ _ _ (⟨#[]⟩ : ByteArray) [.string (⟨#[]⟩ : ByteArray)] from rfl) (Reps.one (show Kd.M Kd.string _ _ _ (⟨#[120]⟩ : ByteArray) [.string (⟨#[120]⟩ : ByteArray)] from rfl) (Reps.none _ _)))))); intro v449 w5 ho6 hb hg_ hnew_; clear hg_ hnew_; (first | rw [← Ny448.out] at ho6 | (simp only [Int.reduceToNat] at ho6; rw [← Ny448.out] at ho6)); have HO450 := Aside0.mk (Kd.R_lower ho6 (keep_size (w := w) (g := g) (row := none) hK0_)); replace HK := Aside0.mk (KeepBut.trans hK0_ (KeepBut.of_below hb g none) (.inl rfl)); replace HB := Aside0.mk (below_step (by repeat (first | (with_reducible first | exact HB.out | apply below_alloc | apply pw_below_drewN | apply below_drew1 | refine below_set ?_ (IsS51.ge HI0.out)) | exact HB.out)) hb); replace HI0 := Aside0.mk (IsS51.below (by repeat (first | (with_reducible first | exact HI0.out | apply IsS51.alloc | apply IsS51.drewN | apply IsS51.drew | apply IsS51.set_1) | exact HI0.out)) hb); clear hb ho6) | ((with_reducible refine gate_callee (f := 11) rfl ?_); refine goesL_ (some 5) rfl rfl Try.func11 (by kernel_rfl) rfl #[.pointer (some ⟨g, 0, none⟩), .int .i64 4] rfl sl_ ?_; (with_reducible refine (spec_l20Rd_pick.calls k g s0_0 s0_1 4 t451 t452 w0 _ ?side1 ?side2 A2.out).mono ?_); (case side1 => repeat (first | (with_reducible first | exact HI0.out | apply IsS51.alloc | apply IsS51.drewN | apply IsS51.drew | apply IsS51.set_1) | exact HI0.out)); (case side2 => repeat (first | (with_reducible first | exact HB.out | apply below_alloc | apply pw_below_drewN | apply below_drew1 | refine below_set ?_ (IsS51.ge HI0.out)) | exact HB.out)); rintro e w7 ⟨rfl, hi, hb, hk⟩; refine ⟨_, rfl, ?_⟩; replace HO450 := Aside0.mk (Kd.R_mono (Kd.R_keep (IsS51.apart (show IsS51 w0 _ g s0_0 s0_1 from by repeat (first | (with_reducible first | exact HI0.out | apply IsS51.alloc | apply IsS51.drewN | apply IsS51.drew | apply IsS51.set_1) | exact HI0.out)) (kR_ HO450.out) (by decide)) hk (fun _ h => h.2)) (fun _ h => h.1)); replace HK := Aside0.mk (KeepBut.trans hK0_ hk (.inl rfl)); replace HB := Aside0.mk (hb); replace HI0 := Aside0.mk (hi); (try clear hb); (try clear hk); (try clear hi); obtain ⟨Ao8, co8, eo8⟩ := Kd.R_slice HO450.out; subst eo8; have p453 : 0 ≤ (t451 : Int) := dt_; have q453 : t451 < (y448.length : Int) := dt_; obtain ⟨ad453, e453, hx453_0⟩ := Kd.at_string (Kd.R_reads' HO450.out).2.2 t451 p453 q453; cases e453; replace p453 := eq_true p453; replace q453 := eq_true q453))
 go_ret
 exact ⟨er_, by repeat (first | (with_reducible first | exact HI0.out | apply IsS51.alloc | apply IsS51.drewN | apply IsS51.drew | apply IsS51.set_1) | exact HI0.out), by repeat (first | (with_reducible first | exact HB.out | apply below_alloc | apply pw_below_drewN | apply below_drew1 | refine below_set ?_ (IsS51.ge HI0.out)) | exact HB.out), by repeat (first | (with_reducible first | exact HK.out | apply KeepBut.set_ | apply keep_drewN | apply keep_drew | apply keep_alloc) | exact HK.out)⟩
/-! ### spec_l20Step: function 14 -/
def spec_l20Step.f (k : Nat) (s0_0 : List Int) (s0_1 : Int) (l1 : List (S45)) (a2 : Int) : Option ((List (S45)) × Int × Bool × Int) := (spec_l20Path.f k s0_0 s0_1 0).bind fun bt454 => (if bt454.1.toList = ([47] : List UInt8) then (some (l1, a2, false, bt454.2)) else ((spec_l20Rd_pick.f k s0_0 bt454.2 5).bind fun bt456 => (if bt456.1 = 0 then ((spec_DropAt.f k l1 a2 bt454.1).bind fun bt458 => (some (bt458.1, bt458.2.1, bt458.2.2, bt456.2))) else ((spec_l20Content.f k s0_0 bt456.2).bind fun bt463 => ((spec_WriteAt.f k l1 a2 bt454.1 bt463.1).bind fun bt465 => (some (bt465.1, bt465.2.1, bt465.2.2, bt463.2)))))))
theorem spec_l20Step.mono : ∀ a0 a1 a2 a3 k, LeO (spec_l20Step.f k a0 a1 a2 a3) (spec_l20Step.f (k + 1) a0 a1 a2 a3) := by
 intro a0 a1 a2 a3 k
 unfold spec_l20Step.f
 repeat' first
   | (with_reducible exact spec_DropAt.mono _ _ _ _)
   | (with_reducible exact spec_WriteAt.mono _ _ _ _ _)
   | (with_reducible exact spec_l20Content.mono _ _ _)
   | (with_reducible exact spec_l20Path.mono _ _ _ _)
   | (with_reducible exact spec_l20Rd_pick.mono _ _ _ _)
   | (with_reducible exact LeO.refl _)
   | (with_reducible exact LeO.none _)
   | (with_reducible refine LeO.ite ?_ ?_)
   | (with_reducible refine LeO.bind ?_ (fun _ => ?_))
   | exact spec_DropAt.mono _ _ _ _
   | exact spec_WriteAt.mono _ _ _ _ _
   | exact spec_l20Content.mono _ _ _
   | exact spec_l20Path.mono _ _ _ _
   | exact spec_l20Rd_pick.mono _ _ _ _
   | exact LeO.none _
   | refine LeO.ite ?_ ?_
   | refine LeO.bind ?_ (fun _ => ?_)
set_option maxHeartbeats 8000000 in
set_option maxRecDepth 100000 in
theorem spec_l20Step.calls (k : Nat) (g : Nat) (s0_0 : List Int) (s0_1 : Int) (P1_ : Nat → Prop) (A1 : Option Addr) (c1 : Nat) (l1 : List (S45)) (a2 : Int) (r1 : List (S45)) (r2 : Int) (r3 : Bool) (r4 : Int) (w0 w : World) (hI : IsS51 w0 w g s0_0 s0_1) (hB : Below w0.heap.size w0 w) (hs1 : Kd.V k45 45 w w.heap.size (fun k_ => P1_ k_ ∧ k_ ≠ g) (.slice A1 l1.length c1) l1) (h : spec_l20Step.f k s0_0 s0_1 l1 a2 = some (r1, r2, r3, r4)) :
  Calls Try.prog 14 #[.pointer (some ⟨g, 0, none⟩), .slice A1 l1.length c1, .int .i64 a2] w fun e w' => ∃ v0_ : Value, e = .returned (.tuple #[v0_, .int .i64 r2, .bool r3]) ∧ Kd.V k45 45 w' w.heap.size (fun k_ => (P1_ k_ ∨ w.heap.size ≤ k_)) v0_ r1 ∧ IsS51 w0 w' g s0_0 r4 ∧ Below w0.heap.size w0 w' ∧ KeepBut w w' g none := by
 have HO1 := Aside0.mk (show Kd.V k45 45 w w.heap.size (fun k_ => (P1_ k_ ∨ w.heap.size ≤ k_) ∧ k_ ≠ g) (.slice A1 l1.length c1) l1 from Kd.V_mono hs1 (fun k_ hk => ⟨.inl hk.1, hk.2⟩))
 have HI0 := Aside0.mk hI
 have HK := Aside0.mk (KeepBut.refl w g none)
 have HL := Aside0.mk hB.size
 clear hI
 have HW0 := Aside0.mk hB.size
 have HB := Aside0.mk hB
 clear hB
 have H : ((spec_l20Path.f k s0_0 s0_1 0).bind fun bt454 => (if bt454.1.toList = ([47] : List UInt8) then (some (l1, a2, false, bt454.2)) else ((spec_l20Rd_pick.f k s0_0 bt454.2 5).bind fun bt456 => (if bt456.1 = 0 then ((spec_DropAt.f k l1 a2 bt454.1).bind fun bt458 => (some (bt458.1, bt458.2.1, bt458.2.2, bt456.2))) else ((spec_l20Content.f k s0_0 bt456.2).bind fun bt463 => ((spec_WriteAt.f k l1 a2 bt454.1 bt463.1).bind fun bt465 => (some (bt465.1, bt465.2.1, bt465.2.2, bt463.2)))))))) = some (r1, r2, r3, r4) := h
 clear h
 replace H := Option.bind_eq_some_iff.mp H
 obtain ⟨⟨t454, t455⟩, A40, H⟩ := H
 replace H : (if t454.toList = ([47] : List UInt8) then (some (l1, a2, false, t455)) else ((spec_l20Rd_pick.f k s0_0 t455 5).bind fun bt456 => (if bt456.1 = 0 then ((spec_DropAt.f k l1 a2 t454).bind fun bt458 => (some (bt458.1, bt458.2.1, bt458.2.2, bt456.2))) else ((spec_l20Content.f k s0_0 bt456.2).bind fun bt463 => ((spec_WriteAt.f k l1 a2 t454 bt463.1).bind fun bt465 => (some (bt465.1, bt465.2.1, bt465.2.2, bt463.2))))))) = some (r1, r2, r3, r4) := H
 have A4 := Aside0.mk A40
 clear A40
 by_cases c5 : t454.toList = ([47] : List UInt8)
 ·rw [if_pos c5] at H
  have c5b0 : (t454.toList == ([47] : List UInt8)) = true := beq_iff_eq.mpr c5
  have c5b1 : (t454.toList != ([47] : List UInt8)) = false := bne_eq_false_iff_eq.mpr c5
  clear c5
  simp only [Option.some.injEq, Prod.mk.injEq] at H
  obtain ⟨rfl, rfl, rfl, rfl⟩ := H
  go_enter Try.func14, Try.ntmps14
  go_wp2_with (first | ((with_reducible refine gate_callee (f := 21) rfl ?_); refine goesL_ (some 11) rfl rfl Try.func21 (by kernel_rfl) rfl #[.pointer (some ⟨g, 0, none⟩), .int .i64 0] rfl sl_ ?_; (with_reducible refine (spec_l20Path.calls k g s0_0 s0_1 0 t454 t455 w0 _ ?side1 ?side2 A4.out).mono ?_); (case side1 => repeat (first | (with_reducible first | exact HI0.out | apply IsS51.alloc | apply IsS51.drewN | apply IsS51.drew | apply IsS51.set_1) | exact HI0.out)); (case side2 => repeat (first | (with_reducible first | exact HB.out | apply below_alloc | apply pw_below_drewN | apply below_drew1 | refine below_set ?_ (IsS51.ge HI0.out)) | exact HB.out)); rintro e w6 ⟨rfl, hi, hb, hk⟩; refine ⟨_, rfl, ?_⟩; have n0_ := Aside0.mk (Kd.V_mono (Kd.V_keep (Kd.V_mono (ok := fun k_ => (((P1_ k_ ∨ w.heap.size ≤ k_)) ∧ k_ ≠ g)) (kV_ HO1.out) (fun k_ hk_ => (⟨hk_, hk_.2⟩ : _ ∧ k_ ≠ g))) hk (fun _ h => h.2)) (fun _ h => h.1)); have n1_ := Aside0.mk (KeepBut.trans hK0_ hk (.inl rfl)); have n2_ := Aside0.mk (hb); have n3_ := Aside0.mk (hi); clear HO1; clear HK; clear HB; clear HI0; have HO1 := n0_; have HK := n1_; have HB := n2_; have HI0 := n3_; clear n0_ n1_ n2_ n3_; (try clear hb); (try clear hk); (try clear hi)))
  go_ret3
  exact ⟨_, er_, by (with_reducible repeat (first | apply Kd.V_alloc | apply Kd.V_drewN | apply Kd.V_drew)); exact Kd.V_mono HO1.out (fun _ hk => hk.1), by repeat (first | (with_reducible first | exact HI0.out | apply IsS51.alloc | apply IsS51.drewN | apply IsS51.drew | apply IsS51.set_1) | exact HI0.out), by repeat (first | (with_reducible first | exact HB.out | apply below_alloc | apply pw_below_drewN | apply below_drew1 | refine below_set ?_ (IsS51.ge HI0.out)) | exact HB.out), by repeat (first | (with_reducible first | exact HK.out | apply KeepBut.set_ | apply keep_drewN | apply keep_drew | apply keep_alloc) | exact HK.out)⟩
 ·rw [if_neg c5] at H
  have c5b0 : (t454.toList == ([47] : List UInt8)) = false := beq_eq_false_iff_ne.mpr c5
  have c5b1 : (t454.toList != ([47] : List UInt8)) = true := bne_iff_ne.mpr c5
  replace H := Option.bind_eq_some_iff.mp H
  obtain ⟨⟨t456, t457⟩, A70, H⟩ := H
  replace H : (if t456 = 0 then ((spec_DropAt.f k l1 a2 t454).bind fun bt458 => (some (bt458.1, bt458.2.1, bt458.2.2, t457))) else ((spec_l20Content.f k s0_0 t457).bind fun bt463 => ((spec_WriteAt.f k l1 a2 t454 bt463.1).bind fun bt465 => (some (bt465.1, bt465.2.1, bt465.2.2, bt463.2))))) = some (r1, r2, r3, r4) := H
  have A7 := Aside0.mk A70
  clear A70
  by_cases c8 : t456 = 0
  ·rw [if_pos c8] at H
   have c8b0 : (t456 == 0) = true := beq_iff_eq.mpr c8
   have c8b1 : (t456 != 0) = false := bne_eq_false_iff_eq.mpr c8
   clear c8
   replace H := Option.bind_eq_some_iff.mp H
   obtain ⟨⟨t458, t459, t460⟩, A90, H⟩ := H
   replace H : (some (t458, t459, t460, t457)) = some (r1, r2, r3, r4) := H
   have A9 := Aside0.mk A90
   clear A90
   simp only [Option.some.injEq, Prod.mk.injEq] at H
   obtain ⟨rfl, rfl, rfl, rfl⟩ := H
   go_enter Try.func14, Try.ntmps14
   go_wp2_with (first | ((with_reducible refine gate_callee (f := 21) rfl ?_); refine goesL_ (some 11) rfl rfl Try.func21 (by kernel_rfl) rfl #[.pointer (some ⟨g, 0, none⟩), .int .i64 0] rfl sl_ ?_; (with_reducible refine (spec_l20Path.calls k g s0_0 s0_1 0 t454 t455 w0 _ ?side1 ?side2 A4.out).mono ?_); (case side1 => repeat (first | (with_reducible first | exact HI0.out | apply IsS51.alloc | apply IsS51.drewN | apply IsS51.drew | apply IsS51.set_1) | exact HI0.out)); (case side2 => repeat (first | (with_reducible first | exact HB.out | apply below_alloc | apply pw_below_drewN | apply below_drew1 | refine below_set ?_ (IsS51.ge HI0.out)) | exact HB.out)); rintro e w10 ⟨rfl, hi, hb, hk⟩; refine ⟨_, rfl, ?_⟩; have n0_ := Aside0.mk (Kd.V_mono (Kd.V_keep (Kd.V_mono (ok := fun k_ => (((P1_ k_ ∨ w.heap.size ≤ k_)) ∧ k_ ≠ g)) (kV_ HO1.out) (fun k_ hk_ => (⟨hk_, hk_.2⟩ : _ ∧ k_ ≠ g))) hk (fun _ h => h.2)) (fun _ h => h.1)); have n1_ := Aside0.mk (KeepBut.trans hK0_ hk (.inl rfl)); have n2_ := Aside0.mk (hb); have n3_ := Aside0.mk (hi); clear HO1; clear HK; clear HB; clear HI0; have HO1 := n0_; have HK := n1_; have HB := n2_; have HI0 := n3_; clear n0_ n1_ n2_ n3_; (try clear hb); (try clear hk); (try clear hi)) | ((with_reducible refine gate_callee (f := 11) rfl ?_); refine goesL_ (some 17) rfl rfl Try.func11 (by kernel_rfl) rfl #[.pointer (some ⟨g, 0, none⟩), .int .i64 5] rfl sl_ ?_; (with_reducible refine (spec_l20Rd_pick.calls k g s0_0 t455 5 t456 t457 w0 _ ?side1 ?side2 A7.out).mono ?_); (case side1 => repeat (first | (with_reducible first | exact HI0.out | apply IsS51.alloc | apply IsS51.drewN | apply IsS51.drew | apply IsS51.set_1) | exact HI0.out)); (case side2 => repeat (first | (with_reducible first | exact HB.out | apply below_alloc | apply pw_below_drewN | apply below_drew1 | refine below_set ?_ (IsS51.ge HI0.out)) | exact HB.out)); rintro e w11 ⟨rfl, hi, hb, hk⟩; refine ⟨_, rfl, ?_⟩; have n0_ := Aside0.mk (Kd.V_mono (Kd.V_keep (Kd.V_mono (ok := fun k_ => (((P1_ k_ ∨ w.heap.size ≤ k_)) ∧ k_ ≠ g)) (kV_ HO1.out) (fun k_ hk_ => (⟨hk_, hk_.2⟩ : _ ∧ k_ ≠ g))) hk (fun _ h => h.2)) (fun _ h => h.1)); have n1_ := Aside0.mk (KeepBut.trans hK0_ hk (.inl rfl)); have n2_ := Aside0.mk (hb); have n3_ := Aside0.mk (hi); clear HO1; clear HK; clear HB; clear HI0; have HO1 := n0_; have HK := n1_; have HB := n2_; have HI0 := n3_; clear n0_ n1_ n2_ n3_; (try clear hb); (try clear hk); (try clear hi)) | ((with_reducible refine gate_callee (f := 22) rfl ?_); refine goesL_ (some 22) rfl rfl Try.func22 (by kernel_rfl) rfl #[.slice A1 l1.length c1, .int .i64 a2, .string t454] rfl sl_ ?_; (with_reducible refine (spec_DropAt.calls k _ _ l1 a2 t454 t458 t459 t460 _ ?side1 ?side2 A9.out).mono ?_); (case side1 => exact kC_ ((Kd.V_reads' HO1.out).2.2)); (case side2 => exact (Kd.V_reads' HO1.out).2.1); rintro e w12 ⟨v461, rfl, ho0, hb⟩; refine ⟨_, rfl, ?_⟩; have n0_ := Aside0.mk (Kd.V_elder' (kV_ HO1.out) (Kd.R_base ho0) hb); have n1_ := Aside0.mk (Kd.R_lower (Kd.R_newM (M := fun k_ => (w.heap.size ≤ k_)) ho0 (keep_size (w := w) (g := g) (row := none) hK0_) (fun k_ h_ => h_)) (keep_size (w := w) (g := g) (row := none) hK0_)); have n2_ := Aside0.mk (IsS51.below (by repeat (first | (with_reducible first | exact HI0.out | apply IsS51.alloc | apply IsS51.drewN | apply IsS51.drew | apply IsS51.set_1) | exact HI0.out)) hb); have n3_ := Aside0.mk (KeepBut.trans hK0_ (KeepBut.of_below hb g none) (.inl rfl)); have n4_ := Aside0.mk (below_step (by repeat (first | (with_reducible first | exact HB.out | apply below_alloc | apply pw_below_drewN | apply below_drew1 | refine below_set ?_ (IsS51.ge HI0.out)) | exact HB.out)) hb); clear HO1; clear HI0; clear HK; clear HB; have HO1 := n0_; have HO462 := n1_; have HI0 := n2_; have HK := n3_; have HB := n4_; clear n0_ n1_ n2_ n3_ n4_; (try clear hb); (try clear hk); (try clear hi); (try clear ho0)))
   go_ret3
   exact ⟨_, er_, Kd.V_mono (Kd.R_V (by refine kR_ ?_; exact Kd.R_mono HO462.out (fun _ hk => hk.1))) (fun k_ hk => by first | exact ⟨(.inr (hk.1)), hk.2⟩ | exact (.inr (hk))), by repeat (first | (with_reducible first | exact HI0.out | apply IsS51.alloc | apply IsS51.drewN | apply IsS51.drew | apply IsS51.set_1) | exact HI0.out), by repeat (first | (with_reducible first | exact HB.out | apply below_alloc | apply pw_below_drewN | apply below_drew1 | refine below_set ?_ (IsS51.ge HI0.out)) | exact HB.out), by repeat (first | (with_reducible first | exact HK.out | apply KeepBut.set_ | apply keep_drewN | apply keep_drew | apply keep_alloc) | exact HK.out)⟩
  ·rw [if_neg c8] at H
   have c8b0 : (t456 == 0) = false := beq_eq_false_iff_ne.mpr c8
   have c8b1 : (t456 != 0) = true := bne_iff_ne.mpr c8
   replace H := Option.bind_eq_some_iff.mp H
   obtain ⟨⟨t463, t464⟩, A130, H⟩ := H
   replace H : ((spec_WriteAt.f k l1 a2 t454 t463).bind fun bt465 => (some (bt465.1, bt465.2.1, bt465.2.2, t464))) = some (r1, r2, r3, r4) := H
   have A13 := Aside0.mk A130
   clear A130
   replace H := Option.bind_eq_some_iff.mp H
   obtain ⟨⟨t465, t466, t467⟩, A140, H⟩ := H
   replace H : (some (t465, t466, t467, t464)) = some (r1, r2, r3, r4) := H
   have A14 := Aside0.mk A140
   clear A140
   simp only [Option.some.injEq, Prod.mk.injEq] at H
   obtain ⟨rfl, rfl, rfl, rfl⟩ := H
   go_enter Try.func14, Try.ntmps14
   go_wp2_with (first | ((with_reducible refine gate_callee (f := 21) rfl ?_); refine goesL_ (some 11) rfl rfl Try.func21 (by kernel_rfl) rfl #[.pointer (some ⟨g, 0, none⟩), .int .i64 0] rfl sl_ ?_; (with_reducible refine (spec_l20Path.calls k g s0_0 s0_1 0 t454 t455 w0 _ ?side1 ?side2 A4.out).mono ?_); (case side1 => repeat (first | (with_reducible first | exact HI0.out | apply IsS51.alloc | apply IsS51.drewN | apply IsS51.drew | apply IsS51.set_1) | exact HI0.out)); (case side2 => repeat (first | (with_reducible first | exact HB.out | apply below_alloc | apply pw_below_drewN | apply below_drew1 | refine below_set ?_ (IsS51.ge HI0.out)) | exact HB.out)); rintro e w15 ⟨rfl, hi, hb, hk⟩; refine ⟨_, rfl, ?_⟩; have n0_ := Aside0.mk (Kd.V_mono (Kd.V_keep (Kd.V_mono (ok := fun k_ => (((P1_ k_ ∨ w.heap.size ≤ k_)) ∧ k_ ≠ g)) (kV_ HO1.out) (fun k_ hk_ => (⟨hk_, hk_.2⟩ : _ ∧ k_ ≠ g))) hk (fun _ h => h.2)) (fun _ h => h.1)); have n1_ := Aside0.mk (KeepBut.trans hK0_ hk (.inl rfl)); have n2_ := Aside0.mk (hb); have n3_ := Aside0.mk (hi); clear HO1; clear HK; clear HB; clear HI0; have HO1 := n0_; have HK := n1_; have HB := n2_; have HI0 := n3_; clear n0_ n1_ n2_ n3_; (try clear hb); (try clear hk); (try clear hi)) | ((with_reducible refine gate_callee (f := 11) rfl ?_); refine goesL_ (some 17) rfl rfl Try.func11 (by kernel_rfl) rfl #[.pointer (some ⟨g, 0, none⟩), .int .i64 5] rfl sl_ ?_; (with_reducible refine (spec_l20Rd_pick.calls k g s0_0 t455 5 t456 t457 w0 _ ?side1 ?side2 A7.out).mono ?_); (case side1 => repeat (first | (with_reducible first | exact HI0.out | apply IsS51.alloc | apply IsS51.drewN | apply IsS51.drew | apply IsS51.set_1) | exact HI0.out)); (case side2 => repeat (first | (with_reducible first | exact HB.out | apply below_alloc | apply pw_below_drewN | apply below_drew1 | refine below_set ?_ (IsS51.ge HI0.out)) | exact HB.out)); rintro e w16 ⟨rfl, hi, hb, hk⟩; refine ⟨_, rfl, ?_⟩; have n0_ := Aside0.mk (Kd.V_mono (Kd.V_keep (Kd.V_mono (ok := fun k_ => (((P1_ k_ ∨ w.heap.size ≤ k_)) ∧ k_ ≠ g)) (kV_ HO1.out) (fun k_ hk_ => (⟨hk_, hk_.2⟩ : _ ∧ k_ ≠ g))) hk (fun _ h => h.2)) (fun _ h => h.1)); have n1_ := Aside0.mk (KeepBut.trans hK0_ hk (.inl rfl)); have n2_ := Aside0.mk (hb); have n3_ := Aside0.mk (hi); clear HO1; clear HK; clear HB; clear HI0; have HO1 := n0_; have HK := n1_; have HB := n2_; have HI0 := n3_; clear n0_ n1_ n2_ n3_; (try clear hb); (try clear hk); (try clear hi)) | ((with_reducible refine gate_callee (f := 24) rfl ?_); refine goesL_ (some 30) rfl rfl Try.func24 (by kernel_rfl) rfl #[.pointer (some ⟨g, 0, none⟩)] rfl sl_ ?_; (with_reducible refine (spec_l20Content.calls k g s0_0 t457 t463 t464 w0 _ ?side1 ?side2 A13.out).mono ?_); (case side1 => repeat (first | (with_reducible first | exact HI0.out | apply IsS51.alloc | apply IsS51.drewN | apply IsS51.drew | apply IsS51.set_1) | exact HI0.out)); (case side2 => repeat (first | (with_reducible first | exact HB.out | apply below_alloc | apply pw_below_drewN | apply below_drew1 | refine below_set ?_ (IsS51.ge HI0.out)) | exact HB.out)); rintro e w17 ⟨rfl, hi, hb, hk⟩; refine ⟨_, rfl, ?_⟩; have n0_ := Aside0.mk (Kd.V_mono (Kd.V_keep (Kd.V_mono (ok := fun k_ => (((P1_ k_ ∨ w.heap.size ≤ k_)) ∧ k_ ≠ g)) (kV_ HO1.out) (fun k_ hk_ => (⟨hk_, hk_.2⟩ : _ ∧ k_ ≠ g))) hk (fun _ h => h.2)) (fun _ h => h.1)); have n1_ := Aside0.mk (KeepBut.trans hK0_ hk (.inl rfl)); have n2_ := Aside0.mk (hb); have n3_ := Aside0.mk (hi); clear HO1; clear HK; clear HB; clear HI0; have HO1 := n0_; have HK := n1_; have HB := n2_; have HI0 := n3_; clear n0_ n1_ n2_ n3_; (try clear hb); (try clear hk); (try clear hi)) | ((with_reducible refine gate_callee (f := 23) rfl ?_); refine goesL_ (some 31) rfl rfl Try.func23 (by kernel_rfl) rfl #[.slice A1 l1.length c1, .int .i64 a2, .string t454, .string t463] rfl sl_ ?_; (with_reducible refine (spec_WriteAt.calls k _ _ l1 a2 t454 t463 t465 t466 t467 _ ?side1 ?side2 A14.out).mono ?_); (case side1 => exact kC_ ((Kd.V_reads' HO1.out).2.2)); (case side2 => exact (Kd.V_reads' HO1.out).2.1); rintro e w18 ⟨v468, rfl, ho0, hb⟩; refine ⟨_, rfl, ?_⟩; have n0_ := Aside0.mk (Kd.V_elder' (kV_ HO1.out) (Kd.R_base ho0) hb); have n1_ := Aside0.mk (Kd.R_lower (Kd.R_newM (M := fun k_ => (w.heap.size ≤ k_)) ho0 (keep_size (w := w) (g := g) (row := none) hK0_) (fun k_ h_ => h_)) (keep_size (w := w) (g := g) (row := none) hK0_)); have n2_ := Aside0.mk (IsS51.below (by repeat (first | (with_reducible first | exact HI0.out | apply IsS51.alloc | apply IsS51.drewN | apply IsS51.drew | apply IsS51.set_1) | exact HI0.out)) hb); have n3_ := Aside0.mk (KeepBut.trans hK0_ (KeepBut.of_below hb g none) (.inl rfl)); have n4_ := Aside0.mk (below_step (by repeat (first | (with_reducible first | exact HB.out | apply below_alloc | apply pw_below_drewN | apply below_drew1 | refine below_set ?_ (IsS51.ge HI0.out)) | exact HB.out)) hb); clear HO1; clear HI0; clear HK; clear HB; have HO1 := n0_; have HO469 := n1_; have HI0 := n2_; have HK := n3_; have HB := n4_; clear n0_ n1_ n2_ n3_ n4_; (try clear hb); (try clear hk); (try clear hi); (try clear ho0)))
   go_ret3
   exact ⟨_, er_, Kd.V_mono (Kd.R_V (by refine kR_ ?_; exact Kd.R_mono HO469.out (fun _ hk => hk.1))) (fun k_ hk => by first | exact ⟨(.inr (hk.1)), hk.2⟩ | exact (.inr (hk))), by repeat (first | (with_reducible first | exact HI0.out | apply IsS51.alloc | apply IsS51.drewN | apply IsS51.drew | apply IsS51.set_1) | exact HI0.out), by repeat (first | (with_reducible first | exact HB.out | apply below_alloc | apply pw_below_drewN | apply below_drew1 | refine below_set ?_ (IsS51.ge HI0.out)) | exact HB.out), by repeat (first | (with_reducible first | exact HK.out | apply KeepBut.set_ | apply keep_drewN | apply keep_drew | apply keep_alloc) | exact HK.out)⟩
end Go.Proofs.Ytjgbidklkhohfaa.P
