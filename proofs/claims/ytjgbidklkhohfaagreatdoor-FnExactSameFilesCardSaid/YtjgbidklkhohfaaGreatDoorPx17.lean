-- The functions of the seat as plain Lean functions, made by the kit's print.py for all laws at once. Not trusted: Lean checks it.
import Derived.Test.YtjgbidklkhohfaaGreatDoorPx0
import Derived.Test.YtjgbidklkhohfaaGreatDoorPx3
import Derived.Test.YtjgbidklkhohfaaGreatDoorPx5
import Derived.Test.YtjgbidklkhohfaaGreatDoorPx7
import Derived.Test.YtjgbidklkhohfaaGreatDoorPx8
import Derived.Test.YtjgbidklkhohfaaGreatDoorPx10
namespace Go.Proofs.YtjgbidklkhohfaaGreatDoor.P
open Go.RowKit Go.Proofs.YtjgbidklkhohfaaGreatDoorW.PrintWords Go.Proofs.YtjgbidklkhohfaaGreatDoorW.PrintLast Go.Proofs.YtjgbidklkhohfaaGreatDoorW.PrintMore
attribute [local go_sem] max2_int min2_int max_two min_two max_three min_three max_four min_four   -- for this text's walks alone
set_option linter.unusedVariables false
set_option linter.unusedSimpArgs false
/-! ### spec_SameFiles: function 21 -/
mutual
def spec_SameFiles.j0 : Nat → List (S46) → Int → Int → List ByteArray → List ByteArray → Bool → Option (Bool)
 | 0, _, _, _, _, _, _ => none
 | k + 1, x0, x1, x2, x7, x8, x29 => if x29 = true then (some false) else (spec_SameFiles.l0 k x0 x1 x2 x7 x8 0)
def spec_SameFiles.l0 : Nat → List (S46) → Int → Int → List ByteArray → List ByteArray → Int → Option (Bool)
 | 0, _, _, _, _, _, _ => none
 | k + 1, x0, x1, x2, x7, x8, x9 => if x9 < (x7.length : Int) then (if 0 ≤ x9 then ((spec_ReadAt.f k x0 x1 (rdOf ByteArray.empty x7 x9)).bind fun bt595 => (if x9 < (x8.length : Int) then ((spec_ReadAt.f k x0 x2 (rdOf ByteArray.empty x8 x9)).bind fun bt598 => (if (rdOf ByteArray.empty x7 x9).toList = (rdOf ByteArray.empty x8 x9).toList then (if bt595.1.toList = bt598.1.toList then (spec_SameFiles.l0 k x0 x1 x2 x7 x8 (wrap64 (x9 + 1))) else (some false)) else (some false))) else (none))) else (none)) else (some true)
end
def spec_SameFiles.f (k : Nat) (l0 : List (S46)) (a1 : Int) (a2 : Int) : Option (Bool) := (spec_AllFiles.f k l0 a1).bind fun t587 => ((spec_AllFiles.f k l0 a2).bind fun t590 => ((spec_StoreValid.f k l0).bind fun t593 => (if t593 = true then (spec_SameFiles.j0 k l0 a1 a2 t587 t590 ((t587.length : Int) != (t590.length : Int))) else (spec_SameFiles.j0 k l0 a1 a2 t587 t590 true))))
theorem spec_SameFiles.mono_l : ∀ k, (∀ y0 y1 y2 y3 y4 y5, LeO (spec_SameFiles.j0 k y0 y1 y2 y3 y4 y5) (spec_SameFiles.j0 (k + 1) y0 y1 y2 y3 y4 y5)) ∧ (∀ y0 y1 y2 y3 y4 y5, LeO (spec_SameFiles.l0 k y0 y1 y2 y3 y4 y5) (spec_SameFiles.l0 (k + 1) y0 y1 y2 y3 y4 y5))
 | 0 => ⟨fun _ _ _ _ _ _ r h => by simp [spec_SameFiles.j0] at h, fun _ _ _ _ _ _ r h => by simp [spec_SameFiles.l0] at h⟩
 | k + 1 => by
  obtain ⟨ih0, ih1⟩ := spec_SameFiles.mono_l k
  refine ⟨?_, ?_⟩
  ·intro y0 y1 y2 y3 y4 y5
   unfold spec_SameFiles.j0
   repeat' first
   | (with_reducible exact ih0 _ _ _ _ _ _)
   | (with_reducible exact ih1 _ _ _ _ _ _)
   | (with_reducible exact spec_AllFiles.mono _ _ _)
   | (with_reducible exact spec_ReadAt.mono _ _ _ _)
   | (with_reducible exact spec_StoreValid.mono _ _)
   | (with_reducible exact LeO.refl _)
   | (with_reducible exact LeO.none _)
   | (with_reducible refine LeO.ite ?_ ?_)
   | (with_reducible refine LeO.bind ?_ (fun _ => ?_))
   | exact ih0 _ _ _ _ _ _
   | exact ih1 _ _ _ _ _ _
   | exact spec_AllFiles.mono _ _ _
   | exact spec_ReadAt.mono _ _ _ _
   | exact spec_StoreValid.mono _ _
   | exact LeO.none _
   | refine LeO.ite ?_ ?_
   | refine LeO.bind ?_ (fun _ => ?_)
  ·intro y0 y1 y2 y3 y4 y5
   unfold spec_SameFiles.l0
   repeat' first
   | (with_reducible exact ih0 _ _ _ _ _ _)
   | (with_reducible exact ih1 _ _ _ _ _ _)
   | (with_reducible exact spec_AllFiles.mono _ _ _)
   | (with_reducible exact spec_ReadAt.mono _ _ _ _)
   | (with_reducible exact spec_StoreValid.mono _ _)
   | (with_reducible exact LeO.refl _)
   | (with_reducible exact LeO.none _)
   | (with_reducible refine LeO.ite ?_ ?_)
   | (with_reducible refine LeO.bind ?_ (fun _ => ?_))
   | exact ih0 _ _ _ _ _ _
   | exact ih1 _ _ _ _ _ _
   | exact spec_AllFiles.mono _ _ _
   | exact spec_ReadAt.mono _ _ _ _
   | exact spec_StoreValid.mono _ _
   | exact LeO.none _
   | refine LeO.ite ?_ ?_
   | refine LeO.bind ?_ (fun _ => ?_)
theorem spec_SameFiles.mono : ∀ a0 a1 a2 k, LeO (spec_SameFiles.f k a0 a1 a2) (spec_SameFiles.f (k + 1) a0 a1 a2) := by
 intro a0 a1 a2 k
 obtain ⟨ih0, ih1⟩ := spec_SameFiles.mono_l k
 unfold spec_SameFiles.f
 repeat' first
   | (with_reducible exact ih0 _ _ _ _ _ _)
   | (with_reducible exact ih1 _ _ _ _ _ _)
   | (with_reducible exact spec_AllFiles.mono _ _ _)
   | (with_reducible exact spec_ReadAt.mono _ _ _ _)
   | (with_reducible exact spec_StoreValid.mono _ _)
   | (with_reducible exact LeO.refl _)
   | (with_reducible exact LeO.none _)
   | (with_reducible refine LeO.ite ?_ ?_)
   | (with_reducible refine LeO.bind ?_ (fun _ => ?_))
   | exact ih0 _ _ _ _ _ _
   | exact ih1 _ _ _ _ _ _
   | exact spec_AllFiles.mono _ _ _
   | exact spec_ReadAt.mono _ _ _ _
   | exact spec_StoreValid.mono _ _
   | exact LeO.none _
   | refine LeO.ite ?_ ?_
   | refine LeO.bind ?_ (fun _ => ?_)
set_option maxHeartbeats 8000000 in
set_option maxRecDepth 100000 in
theorem spec_SameFiles.calls (k : Nat) (A0 : Option Addr) (c0 : Nat) (l0 : List (S46)) (a1 : Int) (a2 : Int) (r : Bool) (w : World) (hr0 : Kd.C k46 w A0 l0.length l0) (hc0 : l0.length ≤ c0) (h : spec_SameFiles.f k l0 a1 a2 = some r) :
  Calls Tryz.prog 21 #[.slice A0 l0.length c0, .int .i64 a1, .int .i64 a2] w fun e w' => e = .returned (.bool r) ∧ Below w.heap.size w w' := by
 have HR0 := Aside0.mk hr0
 have HC0 := Aside0.mk hc0
 clear hr0 hc0
 have HB := Aside0.mk (Below.refl w.heap.size w)
 have H : ((spec_AllFiles.f k l0 a1).bind fun t587 => ((spec_AllFiles.f k l0 a2).bind fun t590 => ((spec_StoreValid.f k l0).bind fun t593 => (if t593 = true then (spec_SameFiles.j0 k l0 a1 a2 t587 t590 ((t587.length : Int) != (t590.length : Int))) else (spec_SameFiles.j0 k l0 a1 a2 t587 t590 true))))) = some r := h
 clear h
 replace H := Option.bind_eq_some_iff.mp H
 obtain ⟨t587, A40, H⟩ := H
 replace H : ((spec_AllFiles.f k l0 a2).bind fun t590 => ((spec_StoreValid.f k l0).bind fun t593 => (if t593 = true then (spec_SameFiles.j0 k l0 a1 a2 t587 t590 ((t587.length : Int) != (t590.length : Int))) else (spec_SameFiles.j0 k l0 a1 a2 t587 t590 true)))) = some r := H
 have A4 := Aside0.mk A40
 clear A40
 replace H := Option.bind_eq_some_iff.mp H
 obtain ⟨t590, A50, H⟩ := H
 replace H : ((spec_StoreValid.f k l0).bind fun t593 => (if t593 = true then (spec_SameFiles.j0 k l0 a1 a2 t587 t590 ((t587.length : Int) != (t590.length : Int))) else (spec_SameFiles.j0 k l0 a1 a2 t587 t590 true))) = some r := H
 have A5 := Aside0.mk A50
 clear A50
 have HC6 := Aside0.mk H
 clear H
 go_enter Tryz.func21, Tryz.ntmps21
 go_upto_region 3 with (first | (go_at_call 29; (with_reducible refine (spec_AllFiles.calls k _ _ l0 a1 t587 _ ?side1 ?side2 A4.out).mono ?_); (case side1 => exact kC_ HR0.out); (case side2 => exact HC0.out); rintro e w7 ⟨v588, rfl, ho0, hb⟩; have HO589 := Aside0.mk (Kd.R_lower ho0 (below_size hb_)); replace HB := Aside0.mk (below_step hb_ hb); (try clear hb); (try clear ho0)) | (go_at_call 29; (with_reducible refine (spec_AllFiles.calls k _ _ l0 a2 t590 _ ?side1 ?side2 A5.out).mono ?_); (case side1 => exact kC_ (Kd.C_below HR0.out HB.out)); (case side2 => exact HC0.out); rintro e w8 ⟨v591, rfl, ho0, hb⟩; have HO592 := Aside0.mk (Kd.R_lower (Kd.R_new' ho0 (Kd.R_lt (kR_ HO589.out))) (below_size hb_)); replace HO589 := Aside0.mk (Kd.R_elder' (kR_ HO589.out) (Kd.R_base ho0) hb); replace HB := Aside0.mk (below_step hb_ hb); (try clear hb); (try clear ho0)))
 repeat (go_quiet (first | (go_at_call 29; (with_reducible refine (spec_AllFiles.calls k _ _ l0 a1 t587 _ ?side1 ?side2 A4.out).mono ?_); (case side1 => exact kC_ HR0.out); (case side2 => exact HC0.out); rintro e w7 ⟨v588, rfl, ho0, hb⟩; have HO589 := Aside0.mk (Kd.R_lower ho0 (below_size hb_)); replace HB := Aside0.mk (below_step hb_ hb); (try clear hb); (try clear ho0)) | (go_at_call 29; (with_reducible refine (spec_AllFiles.calls k _ _ l0 a2 t590 _ ?side1 ?side2 A5.out).mono ?_); (case side1 => exact kC_ (Kd.C_below HR0.out HB.out)); (case side2 => exact HC0.out); rintro e w8 ⟨v591, rfl, ho0, hb⟩; have HO592 := Aside0.mk (Kd.R_lower (Kd.R_new' ho0 (Kd.R_lt (kR_ HO589.out))) (below_size hb_)); replace HO589 := Aside0.mk (Kd.R_elder' (kR_ HO589.out) (Kd.R_base ho0) hb); replace HB := Aside0.mk (below_step hb_ hb); (try clear hb); (try clear ho0))); go_upto_region 3 with (first | (go_at_call 29; (with_reducible refine (spec_AllFiles.calls k _ _ l0 a1 t587 _ ?side1 ?side2 A4.out).mono ?_); (case side1 => exact kC_ HR0.out); (case side2 => exact HC0.out); rintro e w7 ⟨v588, rfl, ho0, hb⟩; have HO589 := Aside0.mk (Kd.R_lower ho0 (below_size hb_)); replace HB := Aside0.mk (below_step hb_ hb); (try clear hb); (try clear ho0)) | (go_at_call 29; (with_reducible refine (spec_AllFiles.calls k _ _ l0 a2 t590 _ ?side1 ?side2 A5.out).mono ?_); (case side1 => exact kC_ (Kd.C_below HR0.out HB.out)); (case side2 => exact HC0.out); rintro e w8 ⟨v591, rfl, ho0, hb⟩; have HO592 := Aside0.mk (Kd.R_lower (Kd.R_new' ho0 (Kd.R_lt (kR_ HO589.out))) (below_size hb_)); replace HO589 := Aside0.mk (Kd.R_elder' (kR_ HO589.out) (Kd.R_base ho0) hb); replace HB := Aside0.mk (below_step hb_ hb); (try clear hb); (try clear ho0))))
 (try simp only [Act.put, List.setIfInBounds_toArray, List.set_cons_zero, List.set_cons_succ])
 go_cut [29] (fun v29 wc => ∃ (kq : Nat) (x29_5 : Bool), v29 = .bool x29_5 ∧ Aside0 (spec_SameFiles.j0 kq l0 a1 a2 t587 t590 x29_5 = some r) ∧ Aside0 (kq ≤ k) ∧ Aside0 (Kd.R Kd.string 9 wc w.heap.size (fun k_ => some k_ ≠ (v591 : Value).ownBlock) v588 t587) ∧ Aside0 (Kd.R Kd.string 9 wc w.heap.size (fun k_ => some k_ ≠ (v588 : Value).ownBlock) v591 t590) ∧ Aside0 (Below w.heap.size w wc))
 case first =>
  have H := HC6.out
  clear HC6
  replace H := Option.bind_eq_some_iff.mp H
  obtain ⟨t593, A90, H⟩ := H
  replace H : (if t593 = true then (spec_SameFiles.j0 k l0 a1 a2 t587 t590 ((t587.length : Int) != (t590.length : Int))) else (spec_SameFiles.j0 k l0 a1 a2 t587 t590 true)) = some r := H
  have A9 := Aside0.mk A90
  clear A90
  by_cases c10 : t593 = true
  ·subst c10
   have H1 : (spec_SameFiles.j0 k l0 a1 a2 t587 t590 ((t587.length : Int) != (t590.length : Int))) = some r := by rw [if_pos rfl] at H; exact H
   clear H
   have H := H1
   clear H1
   have H' := Aside0.mk H
   clear H
   go_wp2_with (first | (go_at_call 36; (with_reducible refine (spec_StoreValid.calls k _ _ l0 true _ ?side1 ?side2 A9.out).mono ?_); (case side1 => exact kC_ (Kd.C_below HR0.out HB.out)); (case side2 => exact HC0.out); rintro e w11 ⟨rfl, hb⟩; replace HO589 := Aside0.mk (Kd.R_below (kR_ HO589.out) hb); replace HO592 := Aside0.mk (Kd.R_below (kR_ HO592.out) hb); replace HB := Aside0.mk (below_step hb_ hb); (try clear hb); obtain ⟨Ao12, co12, eo12⟩ := Kd.R_slice HO589.out; subst eo12; obtain ⟨Ao13, co13, eo13⟩ := Kd.R_slice HO592.out; subst eo13))
   repeat (go_quiet (first | (go_at_call 36; (with_reducible refine (spec_StoreValid.calls k _ _ l0 true _ ?side1 ?side2 A9.out).mono ?_); (case side1 => exact kC_ (Kd.C_below HR0.out HB.out)); (case side2 => exact HC0.out); rintro e w11 ⟨rfl, hb⟩; replace HO589 := Aside0.mk (Kd.R_below (kR_ HO589.out) hb); replace HO592 := Aside0.mk (Kd.R_below (kR_ HO592.out) hb); replace HB := Aside0.mk (below_step hb_ hb); (try clear hb); obtain ⟨Ao12, co12, eo12⟩ := Kd.R_slice HO589.out; subst eo12; obtain ⟨Ao13, co13, eo13⟩ := Kd.R_slice HO592.out; subst eo13)); try go_wp2_with (first | (go_at_call 36; (with_reducible refine (spec_StoreValid.calls k _ _ l0 true _ ?side1 ?side2 A9.out).mono ?_); (case side1 => exact kC_ (Kd.C_below HR0.out HB.out)); (case side2 => exact HC0.out); rintro e w11 ⟨rfl, hb⟩; replace HO589 := Aside0.mk (Kd.R_below (kR_ HO589.out) hb); replace HO592 := Aside0.mk (Kd.R_below (kR_ HO592.out) hb); replace HB := Aside0.mk (below_step hb_ hb); (try clear hb); obtain ⟨Ao12, co12, eo12⟩ := Kd.R_slice HO589.out; subst eo12; obtain ⟨Ao13, co13, eo13⟩ := Kd.R_slice HO592.out; subst eo13)))
   go_meet
   case rel => exact ⟨_, (((t587.length : Int) != (t590.length : Int))), (by first | rfl | (simp; done) | (simp [*]; done)), H', ⟨by first | omega | exact Nat.le_refl _⟩, ⟨by (with_reducible repeat (first | apply Kd.R_alloc | apply Kd.R_drewN | apply Kd.R_drew)); exact Kd.R_mono HO589.out (fun _ hk => hk.2)⟩, ⟨by (with_reducible repeat (first | apply Kd.R_alloc | apply Kd.R_drewN | apply Kd.R_drew)); exact Kd.R_mono HO592.out (fun _ hk => hk.2)⟩, ⟨hb_⟩⟩
  ·replace c10 := Bool.eq_false_iff.mpr c10
   subst c10
   have H1 : (spec_SameFiles.j0 k l0 a1 a2 t587 t590 true) = some r := by rw [if_neg (show ¬ (false = true) by decide)] at H; exact H
   clear H
   have H := H1
   clear H1
   have H' := Aside0.mk H
   clear H
   go_wp2_with (first | (go_at_call 36; (with_reducible refine (spec_StoreValid.calls k _ _ l0 false _ ?side1 ?side2 A9.out).mono ?_); (case side1 => exact kC_ (Kd.C_below HR0.out HB.out)); (case side2 => exact HC0.out); rintro e w14 ⟨rfl, hb⟩; replace HO589 := Aside0.mk (Kd.R_below (kR_ HO589.out) hb); replace HO592 := Aside0.mk (Kd.R_below (kR_ HO592.out) hb); replace HB := Aside0.mk (below_step hb_ hb); (try clear hb)))
   repeat (go_quiet (first | (go_at_call 36; (with_reducible refine (spec_StoreValid.calls k _ _ l0 false _ ?side1 ?side2 A9.out).mono ?_); (case side1 => exact kC_ (Kd.C_below HR0.out HB.out)); (case side2 => exact HC0.out); rintro e w14 ⟨rfl, hb⟩; replace HO589 := Aside0.mk (Kd.R_below (kR_ HO589.out) hb); replace HO592 := Aside0.mk (Kd.R_below (kR_ HO592.out) hb); replace HB := Aside0.mk (below_step hb_ hb); (try clear hb))); try go_wp2_with (first | (go_at_call 36; (with_reducible refine (spec_StoreValid.calls k _ _ l0 false _ ?side1 ?side2 A9.out).mono ?_); (case side1 => exact kC_ (Kd.C_below HR0.out HB.out)); (case side2 => exact HC0.out); rintro e w14 ⟨rfl, hb⟩; replace HO589 := Aside0.mk (Kd.R_below (kR_ HO589.out) hb); replace HO592 := Aside0.mk (Kd.R_below (kR_ HO592.out) hb); replace HB := Aside0.mk (below_step hb_ hb); (try clear hb))))
   go_meet
   case rel => exact ⟨_, (true), (by first | rfl | (simp; done) | (simp [*]; done)), H', ⟨by first | omega | exact Nat.le_refl _⟩, ⟨by (with_reducible repeat (first | apply Kd.R_alloc | apply Kd.R_drewN | apply Kd.R_drew)); exact Kd.R_mono HO589.out (fun _ hk => hk.2)⟩, ⟨by (with_reducible repeat (first | apply Kd.R_alloc | apply Kd.R_drewN | apply Kd.R_drew)); exact Kd.R_mono HO592.out (fun _ hk => hk.2)⟩, ⟨hb_⟩⟩
 case rest =>
  clear HC6
  try clear c1
  try clear c2
  try clear p2
  try clear c10
  obtain ⟨kq, x29_5, rfl, HA, HJ5, HO_7, HO_8, HB⟩ := hcut
  cases kq with
  | zero => exact absurd HA.out (by simp [spec_SameFiles.j0])
  | succ kj5 =>
   have H := HA.out
   clear HA
   simp only [spec_SameFiles.j0] at H
   by_cases c15 : x29_5 = true
   ·subst c15
    have H1 : (some false) = some r := by rw [if_pos rfl] at H; exact H
    clear H
    have H := H1
    clear H1
    obtain rfl := Option.some.inj H
    go_wp2
    repeat (go_quiet (fail); try go_wp2)
    go_ret
    exact ⟨er_, hb_⟩
   ·replace c15 := Bool.eq_false_iff.mpr c15
    subst c15
    have H1 : (spec_SameFiles.l0 kj5 l0 a1 a2 t587 t590 0) = some r := by rw [if_neg (show ¬ (false = true) by decide)] at H; exact H
    clear H
    have H := H1
    clear H1
    have H' := Aside0.mk H
    clear H
    go_wp2
    repeat (go_quiet (fail); try go_wp2)
    go_loopg [9] kj5 (fun kq v9 w' => ∃ (x9_2 : Int), v9 = .int .i64 x9_2 ∧ Aside0 (spec_SameFiles.l0 kq l0 a1 a2 t587 t590 x9_2 = some r) ∧ Aside0 (kq ≤ kj5) ∧ Aside0 (Kd.R Kd.string 9 w' w.heap.size (fun k_ => some k_ ≠ (v591 : Value).ownBlock) v588 t587) ∧ Aside0 (Kd.R Kd.string 9 w' w.heap.size (fun k_ => some k_ ≠ (v588 : Value).ownBlock) v591 t590) ∧ Aside0 (Below w.heap.size w w'))
    case atStart => exact ⟨(0), (by first | rfl | (simp; done) | (simp [*]; done)), H', ⟨Nat.le_refl _⟩, ⟨by (with_reducible repeat (first | apply Kd.R_alloc | apply Kd.R_drewN | apply Kd.R_drew)); exact HO_7.out⟩, ⟨by (with_reducible repeat (first | apply Kd.R_alloc | apply Kd.R_drewN | apply Kd.R_drew)); exact HO_8.out⟩, ⟨hb_⟩⟩
    case round =>
     clear H'
     try clear c1
     try clear c2
     try clear p2
     try clear c10
     try clear c15
     try clear p2
     obtain ⟨x9_2, rfl, HA, HK2, HO_7, HO_8, HB⟩ := hrel
     cases gk with
     | zero => exact absurd HA.out (by simp [spec_SameFiles.l0])
     | succ k2 =>
      have H := HA.out
      clear HA
      simp only [spec_SameFiles.l0] at H
      by_cases c16 : x9_2 < (t587.length : Int)
      ·rw [if_pos c16] at H
       have c16b0 : decide (x9_2 < (t587.length : Int)) = true := decide_eq_true c16
       clear c16
       by_cases c17 : 0 ≤ x9_2
       ·rw [if_pos c17] at H
        have c17b0 : decide (0 ≤ x9_2) = true := decide_eq_true c17
        clear c17
        replace H := Option.bind_eq_some_iff.mp H
        obtain ⟨⟨t595, t596⟩, A180, H⟩ := H
        replace H : (if x9_2 < (t590.length : Int) then ((spec_ReadAt.f k2 l0 a2 (rdOf ByteArray.empty t590 x9_2)).bind fun bt598 => (if (rdOf ByteArray.empty t587 x9_2).toList = (rdOf ByteArray.empty t590 x9_2).toList then (if t595.toList = bt598.1.toList then (spec_SameFiles.l0 k2 l0 a1 a2 t587 t590 (wrap64 (x9_2 + 1))) else (some false)) else (some false))) else (none)) = some r := H
        have A18 := Aside0.mk A180
        clear A180
        by_cases c19 : x9_2 < (t590.length : Int)
        ·rw [if_pos c19] at H
         have c19b0 : decide (x9_2 < (t590.length : Int)) = true := decide_eq_true c19
         clear c19
         replace H := Option.bind_eq_some_iff.mp H
         obtain ⟨⟨t598, t599⟩, A200, H⟩ := H
         replace H : (if (rdOf ByteArray.empty t587 x9_2).toList = (rdOf ByteArray.empty t590 x9_2).toList then (if t595.toList = t598.toList then (spec_SameFiles.l0 k2 l0 a1 a2 t587 t590 (wrap64 (x9_2 + 1))) else (some false)) else (some false)) = some r := H
         have A20 := Aside0.mk A200
         clear A200
         by_cases c21 : (rdOf ByteArray.empty t587 x9_2).toList = (rdOf ByteArray.empty t590 x9_2).toList
         ·rw [if_pos c21] at H
          have c21b0 : ((rdOf ByteArray.empty t587 x9_2).toList == (rdOf ByteArray.empty t590 x9_2).toList) = true := beq_iff_eq.mpr c21
          have c21b1 : ((rdOf ByteArray.empty t587 x9_2).toList != (rdOf ByteArray.empty t590 x9_2).toList) = false := bne_eq_false_iff_eq.mpr c21
          clear c21
          by_cases c22 : t595.toList = t598.toList
          ·rw [if_pos c22] at H
           have c22b0 : (t595.toList == t598.toList) = true := beq_iff_eq.mpr c22
           have c22b1 : (t595.toList != t598.toList) = false := bne_eq_false_iff_eq.mpr c22
           clear c22
           have H' := Aside0.mk H
           clear H
           obtain ⟨Ao23, co23, eo23⟩ := Kd.R_slice HO_7.out
           subst eo23
           have p594 : 0 ≤ (x9_2 : Int) := of_decide_eq_true ma_
           have q594 : x9_2 < (t587.length : Int) := of_decide_eq_true ma_
           obtain ⟨ad594, e594, hx594_0⟩ := Kd.at_string (Kd.R_reads' HO_7.out).2.2 x9_2 p594 q594
           cases e594
           replace p594 := eq_true p594
           replace q594 := eq_true q594
           go_wp2_with (first | (go_at_call 44; (with_reducible refine (spec_ReadAt.calls k2 _ _ l0 a1 (rdOf ByteArray.empty t587 x9_2) t595 t596 _ ?side1 ?side2 A18.out).mono ?_); (case side1 => exact kC_ (Kd.C_below HR0.out HB.out)); (case side2 => exact HC0.out); rintro e w24 ⟨rfl, hb⟩; replace HO_7 := Aside0.mk (Kd.R_below (kR_ HO_7.out) hb); replace HO_8 := Aside0.mk (Kd.R_below (kR_ HO_8.out) hb); replace HB := Aside0.mk (below_step hb_ hb); (try clear hb); obtain ⟨Ao25, co25, eo25⟩ := Kd.R_slice HO_8.out; subst eo25; have p597 : 0 ≤ (x9_2 : Int) := of_decide_eq_true ma_; have q597 : x9_2 < (t590.length : Int) := of_decide_eq_true ma_; obtain ⟨ad597, e597, hx597_0⟩ := Kd.at_string (Kd.R_reads' HO_8.out).2.2 x9_2 p597 q597; cases e597; replace p597 := eq_true p597; replace q597 := eq_true q597) | (go_at_call 44; (with_reducible refine (spec_ReadAt.calls k2 _ _ l0 a2 (rdOf ByteArray.empty t590 x9_2) t598 t599 _ ?side1 ?side2 A20.out).mono ?_); (case side1 => exact kC_ (Kd.C_below HR0.out HB.out)); (case side2 => exact HC0.out); rintro e w26 ⟨rfl, hb⟩; replace HO_7 := Aside0.mk (Kd.R_below (kR_ HO_7.out) hb); replace HO_8 := Aside0.mk (Kd.R_below (kR_ HO_8.out) hb); replace HB := Aside0.mk (below_step hb_ hb); (try clear hb); have p600 : 0 ≤ (x9_2 : Int) := of_decide_eq_true ma_; have q600 : x9_2 < (t587.length : Int) := of_decide_eq_true ma_; obtain ⟨ad600, e600, hx600_0⟩ := Kd.at_string (Kd.R_reads' HO_7.out).2.2 x9_2 p600 q600; obtain rfl : ad594 = ad600 := (by injection e600); replace p600 := eq_true p600; replace q600 := eq_true q600; have p601 : 0 ≤ (x9_2 : Int) := of_decide_eq_true ma_; have q601 : x9_2 < (t590.length : Int) := of_decide_eq_true ma_; obtain ⟨ad601, e601, hx601_0⟩ := Kd.at_string (Kd.R_reads' HO_8.out).2.2 x9_2 p601 q601; obtain rfl : ad597 = ad601 := (by injection e601); replace p601 := eq_true p601; replace q601 := eq_true q601))
           repeat (go_quiet (first | (go_at_call 44; (with_reducible refine (spec_ReadAt.calls k2 _ _ l0 a1 (rdOf ByteArray.empty t587 x9_2) t595 t596 _ ?side1 ?side2 A18.out).mono ?_); (case side1 => exact kC_ (Kd.C_below HR0.out HB.out)); (case side2 => exact HC0.out); rintro e w24 ⟨rfl, hb⟩; replace HO_7 := Aside0.mk (Kd.R_below (kR_ HO_7.out) hb); replace HO_8 := Aside0.mk (Kd.R_below (kR_ HO_8.out) hb); replace HB := Aside0.mk (below_step hb_ hb); (try clear hb); obtain ⟨Ao25, co25, eo25⟩ := Kd.R_slice HO_8.out; subst eo25; have p597 : 0 ≤ (x9_2 : Int) := of_decide_eq_true ma_; have q597 : x9_2 < (t590.length : Int) := of_decide_eq_true ma_; obtain ⟨ad597, e597, hx597_0⟩ := Kd.at_string (Kd.R_reads' HO_8.out).2.2 x9_2 p597 q597; cases e597; replace p597 := eq_true p597; replace q597 := eq_true q597) | (go_at_call 44; (with_reducible refine (spec_ReadAt.calls k2 _ _ l0 a2 (rdOf ByteArray.empty t590 x9_2) t598 t599 _ ?side1 ?side2 A20.out).mono ?_); (case side1 => exact kC_ (Kd.C_below HR0.out HB.out)); (case side2 => exact HC0.out); rintro e w26 ⟨rfl, hb⟩; replace HO_7 := Aside0.mk (Kd.R_below (kR_ HO_7.out) hb); replace HO_8 := Aside0.mk (Kd.R_below (kR_ HO_8.out) hb); replace HB := Aside0.mk (below_step hb_ hb); (try clear hb); have p600 : 0 ≤ (x9_2 : Int) := of_decide_eq_true ma_; have q600 : x9_2 < (t587.length : Int) := of_decide_eq_true ma_; obtain ⟨ad600, e600, hx600_0⟩ := Kd.at_string (Kd.R_reads' HO_7.out).2.2 x9_2 p600 q600; obtain rfl : ad594 = ad600 := (by injection e600); replace p600 := eq_true p600; replace q600 := eq_true q600; have p601 : 0 ≤ (x9_2 : Int) := of_decide_eq_true ma_; have q601 : x9_2 < (t590.length : Int) := of_decide_eq_true ma_; obtain ⟨ad601, e601, hx601_0⟩ := Kd.at_string (Kd.R_reads' HO_8.out).2.2 x9_2 p601 q601; obtain rfl : ad597 = ad601 := (by injection e601); replace p601 := eq_true p601; replace q601 := eq_true q601)); try go_wp2_with (first | (go_at_call 44; (with_reducible refine (spec_ReadAt.calls k2 _ _ l0 a1 (rdOf ByteArray.empty t587 x9_2) t595 t596 _ ?side1 ?side2 A18.out).mono ?_); (case side1 => exact kC_ (Kd.C_below HR0.out HB.out)); (case side2 => exact HC0.out); rintro e w24 ⟨rfl, hb⟩; replace HO_7 := Aside0.mk (Kd.R_below (kR_ HO_7.out) hb); replace HO_8 := Aside0.mk (Kd.R_below (kR_ HO_8.out) hb); replace HB := Aside0.mk (below_step hb_ hb); (try clear hb); obtain ⟨Ao25, co25, eo25⟩ := Kd.R_slice HO_8.out; subst eo25; have p597 : 0 ≤ (x9_2 : Int) := of_decide_eq_true ma_; have q597 : x9_2 < (t590.length : Int) := of_decide_eq_true ma_; obtain ⟨ad597, e597, hx597_0⟩ := Kd.at_string (Kd.R_reads' HO_8.out).2.2 x9_2 p597 q597; cases e597; replace p597 := eq_true p597; replace q597 := eq_true q597) | (go_at_call 44; (with_reducible refine (spec_ReadAt.calls k2 _ _ l0 a2 (rdOf ByteArray.empty t590 x9_2) t598 t599 _ ?side1 ?side2 A20.out).mono ?_); (case side1 => exact kC_ (Kd.C_below HR0.out HB.out)); (case side2 => exact HC0.out); rintro e w26 ⟨rfl, hb⟩; replace HO_7 := Aside0.mk (Kd.R_below (kR_ HO_7.out) hb); replace HO_8 := Aside0.mk (Kd.R_below (kR_ HO_8.out) hb); replace HB := Aside0.mk (below_step hb_ hb); (try clear hb); have p600 : 0 ≤ (x9_2 : Int) := of_decide_eq_true ma_; have q600 : x9_2 < (t587.length : Int) := of_decide_eq_true ma_; obtain ⟨ad600, e600, hx600_0⟩ := Kd.at_string (Kd.R_reads' HO_7.out).2.2 x9_2 p600 q600; obtain rfl : ad594 = ad600 := (by injection e600); replace p600 := eq_true p600; replace q600 := eq_true q600; have p601 : 0 ≤ (x9_2 : Int) := of_decide_eq_true ma_; have q601 : x9_2 < (t590.length : Int) := of_decide_eq_true ma_; obtain ⟨ad601, e601, hx601_0⟩ := Kd.at_string (Kd.R_reads' HO_8.out).2.2 x9_2 p601 q601; obtain rfl : ad597 = ad601 := (by injection e601); replace p601 := eq_true p601; replace q601 := eq_true q601)))
           go_roundg k2
           case measure => have := HJ5.out; have := HK2.out; omega
           case rel => exact ⟨(wrap64 (x9_2 + 1)), (by first | rfl | (simp; done) | (simp [*]; done)), H', ⟨by have := HJ5.out; have := HK2.out; omega⟩, ⟨by (with_reducible repeat (first | apply Kd.R_alloc | apply Kd.R_drewN | apply Kd.R_drew)); exact HO_7.out⟩, ⟨by (with_reducible repeat (first | apply Kd.R_alloc | apply Kd.R_drewN | apply Kd.R_drew)); exact HO_8.out⟩, ⟨hb_⟩⟩
          ·rw [if_neg c22] at H
           have c22b0 : (t595.toList == t598.toList) = false := beq_eq_false_iff_ne.mpr c22
           have c22b1 : (t595.toList != t598.toList) = true := bne_iff_ne.mpr c22
           obtain rfl := Option.some.inj H
           obtain ⟨Ao27, co27, eo27⟩ := Kd.R_slice HO_7.out
           subst eo27
           have p594 : 0 ≤ (x9_2 : Int) := of_decide_eq_true ma_
           have q594 : x9_2 < (t587.length : Int) := of_decide_eq_true ma_
           obtain ⟨ad594, e594, hx594_0⟩ := Kd.at_string (Kd.R_reads' HO_7.out).2.2 x9_2 p594 q594
           cases e594
           replace p594 := eq_true p594
           replace q594 := eq_true q594
           go_wp2_with (first | (go_at_call 44; (with_reducible refine (spec_ReadAt.calls k2 _ _ l0 a1 (rdOf ByteArray.empty t587 x9_2) t595 t596 _ ?side1 ?side2 A18.out).mono ?_); (case side1 => exact kC_ (Kd.C_below HR0.out HB.out)); (case side2 => exact HC0.out); rintro e w28 ⟨rfl, hb⟩; replace HO_7 := Aside0.mk (Kd.R_below (kR_ HO_7.out) hb); replace HO_8 := Aside0.mk (Kd.R_below (kR_ HO_8.out) hb); replace HB := Aside0.mk (below_step hb_ hb); (try clear hb); obtain ⟨Ao29, co29, eo29⟩ := Kd.R_slice HO_8.out; subst eo29; have p597 : 0 ≤ (x9_2 : Int) := of_decide_eq_true ma_; have q597 : x9_2 < (t590.length : Int) := of_decide_eq_true ma_; obtain ⟨ad597, e597, hx597_0⟩ := Kd.at_string (Kd.R_reads' HO_8.out).2.2 x9_2 p597 q597; cases e597; replace p597 := eq_true p597; replace q597 := eq_true q597) | (go_at_call 44; (with_reducible refine (spec_ReadAt.calls k2 _ _ l0 a2 (rdOf ByteArray.empty t590 x9_2) t598 t599 _ ?side1 ?side2 A20.out).mono ?_); (case side1 => exact kC_ (Kd.C_below HR0.out HB.out)); (case side2 => exact HC0.out); rintro e w30 ⟨rfl, hb⟩; replace HO_7 := Aside0.mk (Kd.R_below (kR_ HO_7.out) hb); replace HO_8 := Aside0.mk (Kd.R_below (kR_ HO_8.out) hb); replace HB := Aside0.mk (below_step hb_ hb); (try clear hb); have p600 : 0 ≤ (x9_2 : Int) := of_decide_eq_true ma_; have q600 : x9_2 < (t587.length : Int) := of_decide_eq_true ma_; obtain ⟨ad600, e600, hx600_0⟩ := Kd.at_string (Kd.R_reads' HO_7.out).2.2 x9_2 p600 q600; obtain rfl : ad594 = ad600 := (by injection e600); replace p600 := eq_true p600; replace q600 := eq_true q600; have p601 : 0 ≤ (x9_2 : Int) := of_decide_eq_true ma_; have q601 : x9_2 < (t590.length : Int) := of_decide_eq_true ma_; obtain ⟨ad601, e601, hx601_0⟩ := Kd.at_string (Kd.R_reads' HO_8.out).2.2 x9_2 p601 q601; obtain rfl : ad597 = ad601 := (by injection e601); replace p601 := eq_true p601; replace q601 := eq_true q601))
           repeat (go_quiet (first | (go_at_call 44; (with_reducible refine (spec_ReadAt.calls k2 _ _ l0 a1 (rdOf ByteArray.empty t587 x9_2) t595 t596 _ ?side1 ?side2 A18.out).mono ?_); (case side1 => exact kC_ (Kd.C_below HR0.out HB.out)); (case side2 => exact HC0.out); rintro e w28 ⟨rfl, hb⟩; replace HO_7 := Aside0.mk (Kd.R_below (kR_ HO_7.out) hb); replace HO_8 := Aside0.mk (Kd.R_below (kR_ HO_8.out) hb); replace HB := Aside0.mk (below_step hb_ hb); (try clear hb); obtain ⟨Ao29, co29, eo29⟩ := Kd.R_slice HO_8.out; subst eo29; have p597 : 0 ≤ (x9_2 : Int) := of_decide_eq_true ma_; have q597 : x9_2 < (t590.length : Int) := of_decide_eq_true ma_; obtain ⟨ad597, e597, hx597_0⟩ := Kd.at_string (Kd.R_reads' HO_8.out).2.2 x9_2 p597 q597; cases e597; replace p597 := eq_true p597; replace q597 := eq_true q597) | (go_at_call 44; (with_reducible refine (spec_ReadAt.calls k2 _ _ l0 a2 (rdOf ByteArray.empty t590 x9_2) t598 t599 _ ?side1 ?side2 A20.out).mono ?_); (case side1 => exact kC_ (Kd.C_below HR0.out HB.out)); (case side2 => exact HC0.out); rintro e w30 ⟨rfl, hb⟩; replace HO_7 := Aside0.mk (Kd.R_below (kR_ HO_7.out) hb); replace HO_8 := Aside0.mk (Kd.R_below (kR_ HO_8.out) hb); replace HB := Aside0.mk (below_step hb_ hb); (try clear hb); have p600 : 0 ≤ (x9_2 : Int) := of_decide_eq_true ma_; have q600 : x9_2 < (t587.length : Int) := of_decide_eq_true ma_; obtain ⟨ad600, e600, hx600_0⟩ := Kd.at_string (Kd.R_reads' HO_7.out).2.2 x9_2 p600 q600; obtain rfl : ad594 = ad600 := (by injection e600); replace p600 := eq_true p600; replace q600 := eq_true q600; have p601 : 0 ≤ (x9_2 : Int) := of_decide_eq_true ma_; have q601 : x9_2 < (t590.length : Int) := of_decide_eq_true ma_; obtain ⟨ad601, e601, hx601_0⟩ := Kd.at_string (Kd.R_reads' HO_8.out).2.2 x9_2 p601 q601; obtain rfl : ad597 = ad601 := (by injection e601); replace p601 := eq_true p601; replace q601 := eq_true q601)); try go_wp2_with (first | (go_at_call 44; (with_reducible refine (spec_ReadAt.calls k2 _ _ l0 a1 (rdOf ByteArray.empty t587 x9_2) t595 t596 _ ?side1 ?side2 A18.out).mono ?_); (case side1 => exact kC_ (Kd.C_below HR0.out HB.out)); (case side2 => exact HC0.out); rintro e w28 ⟨rfl, hb⟩; replace HO_7 := Aside0.mk (Kd.R_below (kR_ HO_7.out) hb); replace HO_8 := Aside0.mk (Kd.R_below (kR_ HO_8.out) hb); replace HB := Aside0.mk (below_step hb_ hb); (try clear hb); obtain ⟨Ao29, co29, eo29⟩ := Kd.R_slice HO_8.out; subst eo29; have p597 : 0 ≤ (x9_2 : Int) := of_decide_eq_true ma_; have q597 : x9_2 < (t590.length : Int) := of_decide_eq_true ma_; obtain ⟨ad597, e597, hx597_0⟩ := Kd.at_string (Kd.R_reads' HO_8.out).2.2 x9_2 p597 q597; cases e597; replace p597 := eq_true p597; replace q597 := eq_true q597) | (go_at_call 44; (with_reducible refine (spec_ReadAt.calls k2 _ _ l0 a2 (rdOf ByteArray.empty t590 x9_2) t598 t599 _ ?side1 ?side2 A20.out).mono ?_); (case side1 => exact kC_ (Kd.C_below HR0.out HB.out)); (case side2 => exact HC0.out); rintro e w30 ⟨rfl, hb⟩; replace HO_7 := Aside0.mk (Kd.R_below (kR_ HO_7.out) hb); replace HO_8 := Aside0.mk (Kd.R_below (kR_ HO_8.out) hb); replace HB := Aside0.mk (below_step hb_ hb); (try clear hb); have p600 : 0 ≤ (x9_2 : Int) := of_decide_eq_true ma_; have q600 : x9_2 < (t587.length : Int) := of_decide_eq_true ma_; obtain ⟨ad600, e600, hx600_0⟩ := Kd.at_string (Kd.R_reads' HO_7.out).2.2 x9_2 p600 q600; obtain rfl : ad594 = ad600 := (by injection e600); replace p600 := eq_true p600; replace q600 := eq_true q600; have p601 : 0 ≤ (x9_2 : Int) := of_decide_eq_true ma_; have q601 : x9_2 < (t590.length : Int) := of_decide_eq_true ma_; obtain ⟨ad601, e601, hx601_0⟩ := Kd.at_string (Kd.R_reads' HO_8.out).2.2 x9_2 p601 q601; obtain rfl : ad597 = ad601 := (by injection e601); replace p601 := eq_true p601; replace q601 := eq_true q601)))
           go_ret
           exact ⟨er_, hb_⟩
         ·rw [if_neg c21] at H
          have c21b0 : ((rdOf ByteArray.empty t587 x9_2).toList == (rdOf ByteArray.empty t590 x9_2).toList) = false := beq_eq_false_iff_ne.mpr c21
          have c21b1 : ((rdOf ByteArray.empty t587 x9_2).toList != (rdOf ByteArray.empty t590 x9_2).toList) = true := bne_iff_ne.mpr c21
          obtain rfl := Option.some.inj H
          obtain ⟨Ao31, co31, eo31⟩ := Kd.R_slice HO_7.out
          subst eo31
          have p594 : 0 ≤ (x9_2 : Int) := of_decide_eq_true ma_
          have q594 : x9_2 < (t587.length : Int) := of_decide_eq_true ma_
          obtain ⟨ad594, e594, hx594_0⟩ := Kd.at_string (Kd.R_reads' HO_7.out).2.2 x9_2 p594 q594
          cases e594
          replace p594 := eq_true p594
          replace q594 := eq_true q594
          go_wp2_with (first | (go_at_call 44; (with_reducible refine (spec_ReadAt.calls k2 _ _ l0 a1 (rdOf ByteArray.empty t587 x9_2) t595 t596 _ ?side1 ?side2 A18.out).mono ?_); (case side1 => exact kC_ (Kd.C_below HR0.out HB.out)); (case side2 => exact HC0.out); rintro e w32 ⟨rfl, hb⟩; replace HO_7 := Aside0.mk (Kd.R_below (kR_ HO_7.out) hb); replace HO_8 := Aside0.mk (Kd.R_below (kR_ HO_8.out) hb); replace HB := Aside0.mk (below_step hb_ hb); (try clear hb); obtain ⟨Ao33, co33, eo33⟩ := Kd.R_slice HO_8.out; subst eo33; have p597 : 0 ≤ (x9_2 : Int) := of_decide_eq_true ma_; have q597 : x9_2 < (t590.length : Int) := of_decide_eq_true ma_; obtain ⟨ad597, e597, hx597_0⟩ := Kd.at_string (Kd.R_reads' HO_8.out).2.2 x9_2 p597 q597; cases e597; replace p597 := eq_true p597; replace q597 := eq_true q597) | (go_at_call 44; (with_reducible refine (spec_ReadAt.calls k2 _ _ l0 a2 (rdOf ByteArray.empty t590 x9_2) t598 t599 _ ?side1 ?side2 A20.out).mono ?_); (case side1 => exact kC_ (Kd.C_below HR0.out HB.out)); (case side2 => exact HC0.out); rintro e w34 ⟨rfl, hb⟩; replace HO_7 := Aside0.mk (Kd.R_below (kR_ HO_7.out) hb); replace HO_8 := Aside0.mk (Kd.R_below (kR_ HO_8.out) hb); replace HB := Aside0.mk (below_step hb_ hb); (try clear hb); have p600 : 0 ≤ (x9_2 : Int) := of_decide_eq_true ma_; have q600 : x9_2 < (t587.length : Int) := of_decide_eq_true ma_; obtain ⟨ad600, e600, hx600_0⟩ := Kd.at_string (Kd.R_reads' HO_7.out).2.2 x9_2 p600 q600; obtain rfl : ad594 = ad600 := (by injection e600); replace p600 := eq_true p600; replace q600 := eq_true q600; have p601 : 0 ≤ (x9_2 : Int) := of_decide_eq_true ma_; have q601 : x9_2 < (t590.length : Int) := of_decide_eq_true ma_; obtain ⟨ad601, e601, hx601_0⟩ := Kd.at_string (Kd.R_reads' HO_8.out).2.2 x9_2 p601 q601; obtain rfl : ad597 = ad601 := (by injection e601); replace p601 := eq_true p601; replace q601 := eq_true q601))
          repeat (go_quiet (first | (go_at_call 44; (with_reducible refine (spec_ReadAt.calls k2 _ _ l0 a1 (rdOf ByteArray.empty t587 x9_2) t595 t596 _ ?side1 ?side2 A18.out).mono ?_); (case side1 => exact kC_ (Kd.C_below HR0.out HB.out)); (case side2 => exact HC0.out); rintro e w32 ⟨rfl, hb⟩; replace HO_7 := Aside0.mk (Kd.R_below (kR_ HO_7.out) hb); replace HO_8 := Aside0.mk (Kd.R_below (kR_ HO_8.out) hb); replace HB := Aside0.mk (below_step hb_ hb); (try clear hb); obtain ⟨Ao33, co33, eo33⟩ := Kd.R_slice HO_8.out; subst eo33; have p597 : 0 ≤ (x9_2 : Int) := of_decide_eq_true ma_; have q597 : x9_2 < (t590.length : Int) := of_decide_eq_true ma_; obtain ⟨ad597, e597, hx597_0⟩ := Kd.at_string (Kd.R_reads' HO_8.out).2.2 x9_2 p597 q597; cases e597; replace p597 := eq_true p597; replace q597 := eq_true q597) | (go_at_call 44; (with_reducible refine (spec_ReadAt.calls k2 _ _ l0 a2 (rdOf ByteArray.empty t590 x9_2) t598 t599 _ ?side1 ?side2 A20.out).mono ?_); (case side1 => exact kC_ (Kd.C_below HR0.out HB.out)); (case side2 => exact HC0.out); rintro e w34 ⟨rfl, hb⟩; replace HO_7 := Aside0.mk (Kd.R_below (kR_ HO_7.out) hb); replace HO_8 := Aside0.mk (Kd.R_below (kR_ HO_8.out) hb); replace HB := Aside0.mk (below_step hb_ hb); (try clear hb); have p600 : 0 ≤ (x9_2 : Int) := of_decide_eq_true ma_; have q600 : x9_2 < (t587.length : Int) := of_decide_eq_true ma_; obtain ⟨ad600, e600, hx600_0⟩ := Kd.at_string (Kd.R_reads' HO_7.out).2.2 x9_2 p600 q600; obtain rfl : ad594 = ad600 := (by injection e600); replace p600 := eq_true p600; replace q600 := eq_true q600; have p601 : 0 ≤ (x9_2 : Int) := of_decide_eq_true ma_; have q601 : x9_2 < (t590.length : Int) := of_decide_eq_true ma_; obtain ⟨ad601, e601, hx601_0⟩ := Kd.at_string (Kd.R_reads' HO_8.out).2.2 x9_2 p601 q601; obtain rfl : ad597 = ad601 := (by injection e601); replace p601 := eq_true p601; replace q601 := eq_true q601)); try go_wp2_with (first | (go_at_call 44; (with_reducible refine (spec_ReadAt.calls k2 _ _ l0 a1 (rdOf ByteArray.empty t587 x9_2) t595 t596 _ ?side1 ?side2 A18.out).mono ?_); (case side1 => exact kC_ (Kd.C_below HR0.out HB.out)); (case side2 => exact HC0.out); rintro e w32 ⟨rfl, hb⟩; replace HO_7 := Aside0.mk (Kd.R_below (kR_ HO_7.out) hb); replace HO_8 := Aside0.mk (Kd.R_below (kR_ HO_8.out) hb); replace HB := Aside0.mk (below_step hb_ hb); (try clear hb); obtain ⟨Ao33, co33, eo33⟩ := Kd.R_slice HO_8.out; subst eo33; have p597 : 0 ≤ (x9_2 : Int) := of_decide_eq_true ma_; have q597 : x9_2 < (t590.length : Int) := of_decide_eq_true ma_; obtain ⟨ad597, e597, hx597_0⟩ := Kd.at_string (Kd.R_reads' HO_8.out).2.2 x9_2 p597 q597; cases e597; replace p597 := eq_true p597; replace q597 := eq_true q597) | (go_at_call 44; (with_reducible refine (spec_ReadAt.calls k2 _ _ l0 a2 (rdOf ByteArray.empty t590 x9_2) t598 t599 _ ?side1 ?side2 A20.out).mono ?_); (case side1 => exact kC_ (Kd.C_below HR0.out HB.out)); (case side2 => exact HC0.out); rintro e w34 ⟨rfl, hb⟩; replace HO_7 := Aside0.mk (Kd.R_below (kR_ HO_7.out) hb); replace HO_8 := Aside0.mk (Kd.R_below (kR_ HO_8.out) hb); replace HB := Aside0.mk (below_step hb_ hb); (try clear hb); have p600 : 0 ≤ (x9_2 : Int) := of_decide_eq_true ma_; have q600 : x9_2 < (t587.length : Int) := of_decide_eq_true ma_; obtain ⟨ad600, e600, hx600_0⟩ := Kd.at_string (Kd.R_reads' HO_7.out).2.2 x9_2 p600 q600; obtain rfl : ad594 = ad600 := (by injection e600); replace p600 := eq_true p600; replace q600 := eq_true q600; have p601 : 0 ≤ (x9_2 : Int) := of_decide_eq_true ma_; have q601 : x9_2 < (t590.length : Int) := of_decide_eq_true ma_; obtain ⟨ad601, e601, hx601_0⟩ := Kd.at_string (Kd.R_reads' HO_8.out).2.2 x9_2 p601 q601; obtain rfl : ad597 = ad601 := (by injection e601); replace p601 := eq_true p601; replace q601 := eq_true q601)))
          go_ret
          exact ⟨er_, hb_⟩
        ·rw [if_neg c19] at H
         exact absurd H (by simp)
       ·rw [if_neg c17] at H
        exact absurd H (by simp)
      ·rw [if_neg c16] at H
       have c16b0 : decide (x9_2 < (t587.length : Int)) = false := decide_eq_false c16
       clear c16
       obtain rfl := Option.some.inj H
       obtain ⟨Ao35, co35, eo35⟩ := Kd.R_slice HO_7.out
       subst eo35
       go_wp2
       repeat (go_quiet (fail); try go_wp2)
       go_ret
       exact ⟨er_, hb_⟩
/-! ### slices_Equal_string_string: function 46 -/
def slices_Equal_string_string.l0 : Nat → List ByteArray → List ByteArray → Int → Int → Option (Bool)
 | 0, _, _, _, _ => none
 | k + 1, x0, x1, x12, x13 => if x13 < x12 then (if 0 ≤ x13 then (if x13 < (x0.length : Int) then (if x13 < (x1.length : Int) then (if (rdOf ByteArray.empty x0 x13).toList = (rdOf ByteArray.empty x1 x13).toList then (slices_Equal_string_string.l0 k x0 x1 x12 (wrap64 (x13 + 1))) else (some false)) else (none)) else (none)) else (none)) else (some true)
def slices_Equal_string_string.f (k : Nat) (l0 : List ByteArray) (l1 : List ByteArray) : Option (Bool) := if (l0.length : Int) = (l1.length : Int) then (slices_Equal_string_string.l0 k l0 l1 (l0.length : Int) 0) else (some false)
theorem slices_Equal_string_string.mono_l : ∀ k, (∀ y0 y1 y2 y3, LeO (slices_Equal_string_string.l0 k y0 y1 y2 y3) (slices_Equal_string_string.l0 (k + 1) y0 y1 y2 y3))
 | 0 => fun _ _ _ _ r h => by simp [slices_Equal_string_string.l0] at h
 | k + 1 => by
  have ih0 := slices_Equal_string_string.mono_l k
  ·intro y0 y1 y2 y3
   unfold slices_Equal_string_string.l0
   repeat' first
   | (with_reducible exact ih0 _ _ _ _)
   | (with_reducible exact LeO.refl _)
   | (with_reducible exact LeO.none _)
   | (with_reducible refine LeO.ite ?_ ?_)
   | (with_reducible refine LeO.bind ?_ (fun _ => ?_))
   | exact ih0 _ _ _ _
   | exact LeO.none _
   | refine LeO.ite ?_ ?_
   | refine LeO.bind ?_ (fun _ => ?_)
theorem slices_Equal_string_string.mono : ∀ a0 a1 k, LeO (slices_Equal_string_string.f k a0 a1) (slices_Equal_string_string.f (k + 1) a0 a1) := by
 intro a0 a1 k
 have ih0 := slices_Equal_string_string.mono_l k
 unfold slices_Equal_string_string.f
 repeat' first
   | (with_reducible exact ih0 _ _ _ _)
   | (with_reducible exact LeO.refl _)
   | (with_reducible exact LeO.none _)
   | (with_reducible refine LeO.ite ?_ ?_)
   | (with_reducible refine LeO.bind ?_ (fun _ => ?_))
   | exact ih0 _ _ _ _
   | exact LeO.none _
   | refine LeO.ite ?_ ?_
   | refine LeO.bind ?_ (fun _ => ?_)
set_option maxHeartbeats 8000000 in
set_option maxRecDepth 100000 in
theorem slices_Equal_string_string.calls (k : Nat) (A0 : Option Addr) (c0 : Nat) (l0 : List ByteArray) (A1 : Option Addr) (c1 : Nat) (l1 : List ByteArray) (r : Bool) (w : World) (hr0 : Kd.C Kd.string w A0 l0.length l0) (hc0 : l0.length ≤ c0) (hr1 : Kd.C Kd.string w A1 l1.length l1) (hc1 : l1.length ≤ c1) (h : slices_Equal_string_string.f k l0 l1 = some r) :
  Calls Tryz.prog 46 #[.slice A0 l0.length c0, .slice A1 l1.length c1] w fun e w' => e = .returned (.bool r) ∧ Drawn0 w w' := by
 have HR0 := Aside0.mk hr0
 have HC0 := Aside0.mk hc0
 clear hr0 hc0
 have HR1 := Aside0.mk hr1
 have HC1 := Aside0.mk hc1
 clear hr1 hc1
 have H : (if (l0.length : Int) = (l1.length : Int) then (slices_Equal_string_string.l0 k l0 l1 (l0.length : Int) 0) else (some false)) = some r := h
 clear h
 by_cases c3 : (l0.length : Int) = (l1.length : Int)
 ·rw [if_pos c3] at H
  have c3b0 : ((l0.length : Int) == (l1.length : Int)) = true := beq_iff_eq.mpr c3
  have c3b1 : ((l0.length : Int) != (l1.length : Int)) = false := bne_eq_false_iff_eq.mpr c3
  have c3b2 : (l0.length == l1.length) = true := by first | simpa using c3 | (simp at c3 ⊢; omega)
  clear c3
  have H' := Aside0.mk H
  clear H
  go_enter Tryz.func46, Tryz.ntmps46
  go_wp2
  repeat (go_quiet (fail); try go_wp2)
  go_loopg [13] k (fun kq v13 w' => ∃ (x13_1 : Int), v13 = .int .i64 x13_1 ∧ Aside0 (slices_Equal_string_string.l0 kq l0 l1 (l0.length : Int) x13_1 = some r) ∧ Aside0 (kq ≤ k) ∧ Drawn0 w w')
  case atStart => exact ⟨(0), (by first | rfl | (simp; done) | (simp [*]; done)), H', ⟨Nat.le_refl _⟩, by repeat (first | exact Drawn0.refl _ | apply Drawn0.step)⟩
  case round =>
   clear H'
   try clear c1
   try clear p2
   try clear c3
   try clear c3b0
   try clear c3b1
   try clear c3b2
   obtain ⟨x13_1, rfl, HA, HK1, ⟨m1, rfl⟩⟩ := hrel
   cases gk with
   | zero => exact absurd HA.out (by simp [slices_Equal_string_string.l0])
   | succ k1 =>
    have H := HA.out
    clear HA
    simp only [slices_Equal_string_string.l0] at H
    by_cases c4 : x13_1 < (l0.length : Int)
    ·rw [if_pos c4] at H
     have c4b0 : decide (x13_1 < (l0.length : Int)) = true := decide_eq_true c4
     clear c4
     by_cases c5 : 0 ≤ x13_1
     ·rw [if_pos c5] at H
      have c5b0 : decide (0 ≤ x13_1) = true := decide_eq_true c5
      clear c5
      by_cases c6 : x13_1 < (l0.length : Int)
      ·rw [if_pos c6] at H
       have c6b0 : decide (x13_1 < (l0.length : Int)) = true := decide_eq_true c6
       clear c6
       by_cases c7 : x13_1 < (l1.length : Int)
       ·rw [if_pos c7] at H
        have c7b0 : decide (x13_1 < (l1.length : Int)) = true := decide_eq_true c7
        clear c7
        by_cases c8 : (rdOf ByteArray.empty l0 x13_1).toList = (rdOf ByteArray.empty l1 x13_1).toList
        ·rw [if_pos c8] at H
         have c8b0 : ((rdOf ByteArray.empty l0 x13_1).toList == (rdOf ByteArray.empty l1 x13_1).toList) = true := beq_iff_eq.mpr c8
         have c8b1 : ((rdOf ByteArray.empty l0 x13_1).toList != (rdOf ByteArray.empty l1 x13_1).toList) = false := bne_eq_false_iff_eq.mpr c8
         clear c8
         have H' := Aside0.mk H
         clear H
         have p602 : 0 ≤ (x13_1 : Int) := of_decide_eq_true ma_
         have q602 : x13_1 < (l0.length : Int) := of_decide_eq_true ma_
         obtain ⟨ad602, e602, hx602_0⟩ := Kd.at_string HR0.out x13_1 p602 q602
         cases e602
         replace p602 := eq_true p602
         replace q602 := eq_true q602
         have p603 : 0 ≤ (x13_1 : Int) := of_decide_eq_true ma_
         have q603 : x13_1 < (l1.length : Int) := of_decide_eq_true ma_
         obtain ⟨ad603, e603, hx603_0⟩ := Kd.at_string HR1.out x13_1 p603 q603
         cases e603
         replace p603 := eq_true p603
         replace q603 := eq_true q603
         go_wp2
         repeat (go_quiet (fail); try go_wp2)
         go_roundg k1
         case measure => have := HK1.out; omega
         case rel => exact ⟨(wrap64 (x13_1 + 1)), (by first | rfl | (simp; done) | (simp [*]; done)), H', ⟨by have := HK1.out; omega⟩, by repeat (first | exact Drawn0.refl _ | apply Drawn0.step)⟩
        ·rw [if_neg c8] at H
         have c8b0 : ((rdOf ByteArray.empty l0 x13_1).toList == (rdOf ByteArray.empty l1 x13_1).toList) = false := beq_eq_false_iff_ne.mpr c8
         have c8b1 : ((rdOf ByteArray.empty l0 x13_1).toList != (rdOf ByteArray.empty l1 x13_1).toList) = true := bne_iff_ne.mpr c8
         obtain rfl := Option.some.inj H
         have p602 : 0 ≤ (x13_1 : Int) := of_decide_eq_true ma_
         have q602 : x13_1 < (l0.length : Int) := of_decide_eq_true ma_
         obtain ⟨ad602, e602, hx602_0⟩ := Kd.at_string HR0.out x13_1 p602 q602
         cases e602
         replace p602 := eq_true p602
         replace q602 := eq_true q602
         have p603 : 0 ≤ (x13_1 : Int) := of_decide_eq_true ma_
         have q603 : x13_1 < (l1.length : Int) := of_decide_eq_true ma_
         obtain ⟨ad603, e603, hx603_0⟩ := Kd.at_string HR1.out x13_1 p603 q603
         cases e603
         replace p603 := eq_true p603
         replace q603 := eq_true q603
         go_wp2
         repeat (go_quiet (fail); try go_wp2)
         go_ret
         exact ⟨by first | rfl | (simp; done) | (simp [*]; done), by repeat (first | exact Drawn0.refl _ | apply Drawn0.step)⟩
       ·rw [if_neg c7] at H
        exact absurd H (by simp)
      ·rw [if_neg c6] at H
       exact absurd H (by simp)
     ·rw [if_neg c5] at H
      exact absurd H (by simp)
    ·rw [if_neg c4] at H
     have c4b0 : decide (x13_1 < (l0.length : Int)) = false := decide_eq_false c4
     clear c4
     obtain rfl := Option.some.inj H
     go_wp2
     repeat (go_quiet (fail); try go_wp2)
     go_ret
     exact ⟨by first | rfl | (simp; done) | (simp [*]; done), by repeat (first | exact Drawn0.refl _ | apply Drawn0.step)⟩
 ·rw [if_neg c3] at H
  have c3b0 : ((l0.length : Int) == (l1.length : Int)) = false := beq_eq_false_iff_ne.mpr c3
  have c3b1 : ((l0.length : Int) != (l1.length : Int)) = true := bne_iff_ne.mpr c3
  have c3b2 : (l0.length == l1.length) = false := by first | simpa using c3 | (simp at c3 ⊢; omega)
  obtain rfl := Option.some.inj H
  go_enter Tryz.func46, Tryz.ntmps46
  go_wp2
  repeat (go_quiet (fail); try go_wp2)
  go_ret
  exact ⟨by first | rfl | (simp; done) | (simp [*]; done), by repeat (first | exact Drawn0.refl _ | apply Drawn0.step)⟩
/-! ### impl_SameFiles: function 22 -/
def impl_SameFiles.l0 : Nat → List (S46) → Int → Int → List ByteArray → Int → Int → Option (Bool)
 | 0, _, _, _, _, _, _ => none
 | k + 1, x0, x1, x2, x26, x27, x28 => if x28 < x27 then (if 0 ≤ x28 then (if x28 < (x26.length : Int) then ((impl_ReadAt.f k x0 x1 (rdOf ByteArray.empty x26 x28)).bind fun bt613 => ((impl_ReadAt.f k x0 x2 (rdOf ByteArray.empty x26 x28)).bind fun bt615 => (if bt613.1.toList = bt615.1.toList then (impl_SameFiles.l0 k x0 x1 x2 x26 x27 (wrap64 (x28 + 1))) else (some false)))) else (none)) else (none)) else (some true)
def impl_SameFiles.f (k : Nat) (l0 : List (S46)) (a1 : Int) (a2 : Int) : Option (Bool) := (impl_StoreValid.f k l0).bind fun t604 => (if t604 = true then ((impl_AllFiles.f k l0 a1).bind fun t605 => ((impl_AllFiles.f k l0 a2).bind fun t608 => ((slices_Equal_string_string.f k t605 t608).bind fun t611 => (if t611 = true then (impl_SameFiles.l0 k l0 a1 a2 t605 (t605.length : Int) 0) else (some false))))) else (some false))
theorem impl_SameFiles.mono_l : ∀ k, (∀ y0 y1 y2 y3 y4 y5, LeO (impl_SameFiles.l0 k y0 y1 y2 y3 y4 y5) (impl_SameFiles.l0 (k + 1) y0 y1 y2 y3 y4 y5))
 | 0 => fun _ _ _ _ _ _ r h => by simp [impl_SameFiles.l0] at h
 | k + 1 => by
  have ih0 := impl_SameFiles.mono_l k
  ·intro y0 y1 y2 y3 y4 y5
   unfold impl_SameFiles.l0
   repeat' first
   | (with_reducible exact ih0 _ _ _ _ _ _)
   | (with_reducible exact impl_AllFiles.mono _ _ _)
   | (with_reducible exact impl_ReadAt.mono _ _ _ _)
   | (with_reducible exact impl_StoreValid.mono _ _)
   | (with_reducible exact slices_Equal_string_string.mono _ _ _)
   | (with_reducible exact LeO.refl _)
   | (with_reducible exact LeO.none _)
   | (with_reducible refine LeO.ite ?_ ?_)
   | (with_reducible refine LeO.bind ?_ (fun _ => ?_))
   | exact ih0 _ _ _ _ _ _
   | exact impl_AllFiles.mono _ _ _
   | exact impl_ReadAt.mono _ _ _ _
   | exact impl_StoreValid.mono _ _
   | exact slices_Equal_string_string.mono _ _ _
   | exact LeO.none _
   | refine LeO.ite ?_ ?_
   | refine LeO.bind ?_ (fun _ => ?_)
theorem impl_SameFiles.mono : ∀ a0 a1 a2 k, LeO (impl_SameFiles.f k a0 a1 a2) (impl_SameFiles.f (k + 1) a0 a1 a2) := by
 intro a0 a1 a2 k
 have ih0 := impl_SameFiles.mono_l k
 unfold impl_SameFiles.f
 repeat' first
   | (with_reducible exact ih0 _ _ _ _ _ _)
   | (with_reducible exact impl_AllFiles.mono _ _ _)
   | (with_reducible exact impl_ReadAt.mono _ _ _ _)
   | (with_reducible exact impl_StoreValid.mono _ _)
   | (with_reducible exact slices_Equal_string_string.mono _ _ _)
   | (with_reducible exact LeO.refl _)
   | (with_reducible exact LeO.none _)
   | (with_reducible refine LeO.ite ?_ ?_)
   | (with_reducible refine LeO.bind ?_ (fun _ => ?_))
   | exact ih0 _ _ _ _ _ _
   | exact impl_AllFiles.mono _ _ _
   | exact impl_ReadAt.mono _ _ _ _
   | exact impl_StoreValid.mono _ _
   | exact slices_Equal_string_string.mono _ _ _
   | exact LeO.none _
   | refine LeO.ite ?_ ?_
   | refine LeO.bind ?_ (fun _ => ?_)
set_option maxHeartbeats 8000000 in
set_option maxRecDepth 100000 in
theorem impl_SameFiles.calls (k : Nat) (A0 : Option Addr) (c0 : Nat) (l0 : List (S46)) (a1 : Int) (a2 : Int) (r : Bool) (w : World) (hr0 : Kd.C k46 w A0 l0.length l0) (hc0 : l0.length ≤ c0) (hG : GT w) (h : impl_SameFiles.f k l0 a1 a2 = some r) :
  Calls Tryz.prog 22 #[.slice A0 l0.length c0, .int .i64 a1, .int .i64 a2] w fun e w' => e = .returned (.bool r) ∧ Below w.heap.size w w' := by
 have HR0 := Aside0.mk hr0
 have HC0 := Aside0.mk hc0
 clear hr0 hc0
 have HB := Aside0.mk (Below.refl w.heap.size w)
 have H : ((impl_StoreValid.f k l0).bind fun t604 => (if t604 = true then ((impl_AllFiles.f k l0 a1).bind fun t605 => ((impl_AllFiles.f k l0 a2).bind fun t608 => ((slices_Equal_string_string.f k t605 t608).bind fun t611 => (if t611 = true then (impl_SameFiles.l0 k l0 a1 a2 t605 (t605.length : Int) 0) else (some false))))) else (some false))) = some r := h
 clear h
 replace H := Option.bind_eq_some_iff.mp H
 obtain ⟨t604, A40, H⟩ := H
 replace H : (if t604 = true then ((impl_AllFiles.f k l0 a1).bind fun t605 => ((impl_AllFiles.f k l0 a2).bind fun t608 => ((slices_Equal_string_string.f k t605 t608).bind fun t611 => (if t611 = true then (impl_SameFiles.l0 k l0 a1 a2 t605 (t605.length : Int) 0) else (some false))))) else (some false)) = some r := H
 have A4 := Aside0.mk A40
 clear A40
 by_cases c5 : t604 = true
 ·subst c5
  have H1 : ((impl_AllFiles.f k l0 a1).bind fun t605 => ((impl_AllFiles.f k l0 a2).bind fun t608 => ((slices_Equal_string_string.f k t605 t608).bind fun t611 => (if t611 = true then (impl_SameFiles.l0 k l0 a1 a2 t605 (t605.length : Int) 0) else (some false))))) = some r := by rw [if_pos rfl] at H; exact H
  clear H
  have H := H1
  clear H1
  replace H := Option.bind_eq_some_iff.mp H
  obtain ⟨t605, A60, H⟩ := H
  replace H : ((impl_AllFiles.f k l0 a2).bind fun t608 => ((slices_Equal_string_string.f k t605 t608).bind fun t611 => (if t611 = true then (impl_SameFiles.l0 k l0 a1 a2 t605 (t605.length : Int) 0) else (some false)))) = some r := H
  have A6 := Aside0.mk A60
  clear A60
  replace H := Option.bind_eq_some_iff.mp H
  obtain ⟨t608, A70, H⟩ := H
  replace H : ((slices_Equal_string_string.f k t605 t608).bind fun t611 => (if t611 = true then (impl_SameFiles.l0 k l0 a1 a2 t605 (t605.length : Int) 0) else (some false))) = some r := H
  have A7 := Aside0.mk A70
  clear A70
  replace H := Option.bind_eq_some_iff.mp H
  obtain ⟨t611, A80, H⟩ := H
  replace H : (if t611 = true then (impl_SameFiles.l0 k l0 a1 a2 t605 (t605.length : Int) 0) else (some false)) = some r := H
  have A8 := Aside0.mk A80
  clear A80
  by_cases c9 : t611 = true
  ·subst c9
   have H1 : (impl_SameFiles.l0 k l0 a1 a2 t605 (t605.length : Int) 0) = some r := by rw [if_pos rfl] at H; exact H
   clear H
   have H := H1
   clear H1
   have H' := Aside0.mk H
   clear H
   go_enter Tryz.func22, Tryz.ntmps22
   go_wp2_with (first | ((with_reducible refine gate_callee (f := 40) rfl ?_); refine goesL_ (some 15) rfl rfl Tryz.func40 (by kernel_rfl) rfl #[.slice A0 l0.length c0] rfl sl_ ?_; (with_reducible refine (impl_StoreValid.calls k _ _ l0 true _ ?side1 ?side2 A4.out).mono ?_); (case side1 => exact kC_ HR0.out); (case side2 => exact HC0.out); rintro e w10 ⟨rfl, hb⟩; refine ⟨_, rfl, ?_⟩; replace HB := Aside0.mk (below_step hb_ hb); (try clear hb)) | ((with_reducible refine gate_callee (f := 32) rfl ?_); refine goesL_ (some 19) rfl rfl Tryz.func32 (by kernel_rfl) rfl #[.slice A0 l0.length c0, .int .i64 a1] rfl sl_ ?_; (with_reducible refine (impl_AllFiles.calls k _ _ l0 a1 t605 _ ?side1 ?side2 (GT_on hb_ hG) A6.out).mono ?_); (case side1 => exact kC_ (Kd.C_below HR0.out HB.out)); (case side2 => exact HC0.out); rintro e w11 ⟨v606, rfl, ho0, hb⟩; refine ⟨_, rfl, ?_⟩; have HO607 := Aside0.mk (Kd.R_lower ho0 (below_size hb_)); replace HB := Aside0.mk (below_step hb_ hb); (try clear hb); (try clear ho0)) | ((with_reducible refine gate_callee (f := 32) rfl ?_); refine goesL_ (some 23) rfl rfl Tryz.func32 (by kernel_rfl) rfl #[.slice A0 l0.length c0, .int .i64 a2] rfl sl_ ?_; (with_reducible refine (impl_AllFiles.calls k _ _ l0 a2 t608 _ ?side1 ?side2 (GT_on hb_ hG) A7.out).mono ?_); (case side1 => exact kC_ (Kd.C_below HR0.out HB.out)); (case side2 => exact HC0.out); rintro e w12 ⟨v609, rfl, ho0, hb⟩; refine ⟨_, rfl, ?_⟩; have HO610 := Aside0.mk (Kd.R_lower (Kd.R_new' ho0 (Kd.R_lt (kR_ HO607.out))) (below_size hb_)); replace HO607 := Aside0.mk (Kd.R_elder' (kR_ HO607.out) (Kd.R_base ho0) hb); replace HB := Aside0.mk (below_step hb_ hb); (try clear hb); (try clear ho0); obtain ⟨Ao13, co13, eo13⟩ := Kd.R_slice HO607.out; subst eo13; obtain ⟨Ao14, co14, eo14⟩ := Kd.R_slice HO610.out; subst eo14) | ((with_reducible refine gate_callee (f := 46) rfl ?_); refine goesL_ (some 24) rfl rfl Tryz.func46 (by kernel_rfl) rfl #[.slice Ao13 t605.length co13, .slice Ao14 t608.length co14] rfl sl_ ?_; (with_reducible refine (slices_Equal_string_string.calls k _ _ t605 _ _ t608 true _ ?side1 ?side2 ?side3 ?side4 A8.out).mono ?_); (case side1 => exact kC_ ((Kd.R_reads' HO607.out).2.2)); (case side2 => exact (Kd.R_reads' HO607.out).2.1); (case side3 => exact kC_ ((Kd.R_reads' HO610.out).2.2)); (case side4 => exact (Kd.R_reads' HO610.out).2.1); rintro e w' ⟨rfl, ⟨nd, rfl⟩⟩; refine ⟨_, rfl, ?_⟩))
   go_loopg [28] k (fun kq v28 w' => ∃ (x28_1 : Int), v28 = .int .i64 x28_1 ∧ Aside0 (impl_SameFiles.l0 kq l0 a1 a2 t605 (t605.length : Int) x28_1 = some r) ∧ Aside0 (kq ≤ k) ∧ Aside0 (Kd.R Kd.string 9 w' w.heap.size (fun _ => True) (.slice Ao13 t605.length co13) t605) ∧ Aside0 (Below w.heap.size w w'))
   case atStart => exact ⟨(0), (by first | rfl | (simp; done) | (simp [*]; done)), H', ⟨Nat.le_refl _⟩, ⟨by (with_reducible repeat (first | apply Kd.R_alloc | apply Kd.R_drewN | apply Kd.R_drew)); exact Kd.R_mono HO607.out (fun _ hk => trivial)⟩, ⟨hb_⟩⟩
   case round =>
    clear H'
    try clear c2
    try clear p2
    try clear c3
    try clear c4
    try clear c5
    try clear c9
    obtain ⟨x28_1, rfl, HA, HK1, HO_26, HB⟩ := hrel
    cases gk with
    | zero => exact absurd HA.out (by simp [impl_SameFiles.l0])
    | succ k1 =>
     have H := HA.out
     clear HA
     simp only [impl_SameFiles.l0] at H
     by_cases c15 : x28_1 < (t605.length : Int)
     ·rw [if_pos c15] at H
      have c15b0 : decide (x28_1 < (t605.length : Int)) = true := decide_eq_true c15
      clear c15
      by_cases c16 : 0 ≤ x28_1
      ·rw [if_pos c16] at H
       have c16b0 : decide (0 ≤ x28_1) = true := decide_eq_true c16
       clear c16
       by_cases c17 : x28_1 < (t605.length : Int)
       ·rw [if_pos c17] at H
        have c17b0 : decide (x28_1 < (t605.length : Int)) = true := decide_eq_true c17
        clear c17
        replace H := Option.bind_eq_some_iff.mp H
        obtain ⟨⟨t613, t614⟩, A180, H⟩ := H
        replace H : ((impl_ReadAt.f k1 l0 a2 (rdOf ByteArray.empty t605 x28_1)).bind fun bt615 => (if t613.toList = bt615.1.toList then (impl_SameFiles.l0 k1 l0 a1 a2 t605 (t605.length : Int) (wrap64 (x28_1 + 1))) else (some false))) = some r := H
        have A18 := Aside0.mk A180
        clear A180
        replace H := Option.bind_eq_some_iff.mp H
        obtain ⟨⟨t615, t616⟩, A190, H⟩ := H
        replace H : (if t613.toList = t615.toList then (impl_SameFiles.l0 k1 l0 a1 a2 t605 (t605.length : Int) (wrap64 (x28_1 + 1))) else (some false)) = some r := H
        have A19 := Aside0.mk A190
        clear A190
        by_cases c20 : t613.toList = t615.toList
        ·rw [if_pos c20] at H
         have c20b0 : (t613.toList == t615.toList) = true := beq_iff_eq.mpr c20
         have c20b1 : (t613.toList != t615.toList) = false := bne_eq_false_iff_eq.mpr c20
         clear c20
         have H' := Aside0.mk H
         clear H
         have p612 : 0 ≤ (x28_1 : Int) := of_decide_eq_true ma_
         have q612 : x28_1 < (t605.length : Int) := of_decide_eq_true ma_
         obtain ⟨ad612, e612, hx612_0⟩ := Kd.at_string (Kd.R_reads' HO_26.out).2.2 x28_1 p612 q612
         cases e612
         replace p612 := eq_true p612
         replace q612 := eq_true q612
         go_wp2_with (first | ((with_reducible refine gate_callee (f := 45) rfl ?_); refine goesL_ (some 36) rfl rfl Tryz.func45 (by kernel_rfl) rfl #[.slice A0 l0.length c0, .int .i64 a1, .string (rdOf ByteArray.empty t605 x28_1)] rfl sl_ ?_; (with_reducible refine (impl_ReadAt.calls k1 _ _ l0 a1 (rdOf ByteArray.empty t605 x28_1) t613 t614 _ ?side1 ?side2 (GT_on hb_ hG) A18.out).mono ?_); (case side1 => exact kC_ (Kd.C_below HR0.out HB.out)); (case side2 => exact HC0.out); rintro e w21 ⟨rfl, hb⟩; refine ⟨_, rfl, ?_⟩; replace HO_26 := Aside0.mk (Kd.R_below (kR_ HO_26.out) hb); replace HB := Aside0.mk (below_step hb_ hb); (try clear hb)) | ((with_reducible refine gate_callee (f := 45) rfl ?_); refine goesL_ (some 43) rfl rfl Tryz.func45 (by kernel_rfl) rfl #[.slice A0 l0.length c0, .int .i64 a2, .string (rdOf ByteArray.empty t605 x28_1)] rfl sl_ ?_; (with_reducible refine (impl_ReadAt.calls k1 _ _ l0 a2 (rdOf ByteArray.empty t605 x28_1) t615 t616 _ ?side1 ?side2 (GT_on hb_ hG) A19.out).mono ?_); (case side1 => exact kC_ (Kd.C_below HR0.out HB.out)); (case side2 => exact HC0.out); rintro e w22 ⟨rfl, hb⟩; refine ⟨_, rfl, ?_⟩; replace HO_26 := Aside0.mk (Kd.R_below (kR_ HO_26.out) hb); replace HB := Aside0.mk (below_step hb_ hb); (try clear hb)))
         go_roundg k1
         case measure => have := HK1.out; omega
         case rel => exact ⟨(wrap64 (x28_1 + 1)), (by first | rfl | (simp; done) | (simp [*]; done)), H', ⟨by have := HK1.out; omega⟩, ⟨by (with_reducible repeat (first | apply Kd.R_alloc | apply Kd.R_drewN | apply Kd.R_drew)); exact HO_26.out⟩, ⟨hb_⟩⟩
        ·rw [if_neg c20] at H
         have c20b0 : (t613.toList == t615.toList) = false := beq_eq_false_iff_ne.mpr c20
         have c20b1 : (t613.toList != t615.toList) = true := bne_iff_ne.mpr c20
         obtain rfl := Option.some.inj H
         have p612 : 0 ≤ (x28_1 : Int) := of_decide_eq_true ma_
         have q612 : x28_1 < (t605.length : Int) := of_decide_eq_true ma_
         obtain ⟨ad612, e612, hx612_0⟩ := Kd.at_string (Kd.R_reads' HO_26.out).2.2 x28_1 p612 q612
         cases e612
         replace p612 := eq_true p612
         replace q612 := eq_true q612
         go_wp2_with (first | ((with_reducible refine gate_callee (f := 45) rfl ?_); refine goesL_ (some 36) rfl rfl Tryz.func45 (by kernel_rfl) rfl #[.slice A0 l0.length c0, .int .i64 a1, .string (rdOf ByteArray.empty t605 x28_1)] rfl sl_ ?_; (with_reducible refine (impl_ReadAt.calls k1 _ _ l0 a1 (rdOf ByteArray.empty t605 x28_1) t613 t614 _ ?side1 ?side2 (GT_on hb_ hG) A18.out).mono ?_); (case side1 => exact kC_ (Kd.C_below HR0.out HB.out)); (case side2 => exact HC0.out); rintro e w23 ⟨rfl, hb⟩; refine ⟨_, rfl, ?_⟩; replace HO_26 := Aside0.mk (Kd.R_below (kR_ HO_26.out) hb); replace HB := Aside0.mk (below_step hb_ hb); (try clear hb)) | ((with_reducible refine gate_callee (f := 45) rfl ?_); refine goesL_ (some 43) rfl rfl Tryz.func45 (by kernel_rfl) rfl #[.slice A0 l0.length c0, .int .i64 a2, .string (rdOf ByteArray.empty t605 x28_1)] rfl sl_ ?_; (with_reducible refine (impl_ReadAt.calls k1 _ _ l0 a2 (rdOf ByteArray.empty t605 x28_1) t615 t616 _ ?side1 ?side2 (GT_on hb_ hG) A19.out).mono ?_); (case side1 => exact kC_ (Kd.C_below HR0.out HB.out)); (case side2 => exact HC0.out); rintro e w24 ⟨rfl, hb⟩; refine ⟨_, rfl, ?_⟩; replace HO_26 := Aside0.mk (Kd.R_below (kR_ HO_26.out) hb); replace HB := Aside0.mk (below_step hb_ hb); (try clear hb)))
         go_ret
         exact ⟨er_, hb_⟩
       ·rw [if_neg c17] at H
        exact absurd H (by simp)
      ·rw [if_neg c16] at H
       exact absurd H (by simp)
     ·rw [if_neg c15] at H
      have c15b0 : decide (x28_1 < (t605.length : Int)) = false := decide_eq_false c15
      clear c15
      obtain rfl := Option.some.inj H
      go_wp2
      go_ret
      exact ⟨er_, hb_⟩
  ·replace c9 := Bool.eq_false_iff.mpr c9
   subst c9
   have H1 : (some false) = some r := by rw [if_neg (show ¬ (false = true) by decide)] at H; exact H
   clear H
   have H := H1
   clear H1
   obtain rfl := Option.some.inj H
   go_enter Tryz.func22, Tryz.ntmps22
   go_wp2_with (first | ((with_reducible refine gate_callee (f := 40) rfl ?_); refine goesL_ (some 15) rfl rfl Tryz.func40 (by kernel_rfl) rfl #[.slice A0 l0.length c0] rfl sl_ ?_; (with_reducible refine (impl_StoreValid.calls k _ _ l0 true _ ?side1 ?side2 A4.out).mono ?_); (case side1 => exact kC_ HR0.out); (case side2 => exact HC0.out); rintro e w25 ⟨rfl, hb⟩; refine ⟨_, rfl, ?_⟩; replace HB := Aside0.mk (below_step hb_ hb); (try clear hb)) | ((with_reducible refine gate_callee (f := 32) rfl ?_); refine goesL_ (some 19) rfl rfl Tryz.func32 (by kernel_rfl) rfl #[.slice A0 l0.length c0, .int .i64 a1] rfl sl_ ?_; (with_reducible refine (impl_AllFiles.calls k _ _ l0 a1 t605 _ ?side1 ?side2 (GT_on hb_ hG) A6.out).mono ?_); (case side1 => exact kC_ (Kd.C_below HR0.out HB.out)); (case side2 => exact HC0.out); rintro e w26 ⟨v606, rfl, ho0, hb⟩; refine ⟨_, rfl, ?_⟩; have HO607 := Aside0.mk (Kd.R_lower ho0 (below_size hb_)); replace HB := Aside0.mk (below_step hb_ hb); (try clear hb); (try clear ho0)) | ((with_reducible refine gate_callee (f := 32) rfl ?_); refine goesL_ (some 23) rfl rfl Tryz.func32 (by kernel_rfl) rfl #[.slice A0 l0.length c0, .int .i64 a2] rfl sl_ ?_; (with_reducible refine (impl_AllFiles.calls k _ _ l0 a2 t608 _ ?side1 ?side2 (GT_on hb_ hG) A7.out).mono ?_); (case side1 => exact kC_ (Kd.C_below HR0.out HB.out)); (case side2 => exact HC0.out); rintro e w27 ⟨v609, rfl, ho0, hb⟩; refine ⟨_, rfl, ?_⟩; have HO610 := Aside0.mk (Kd.R_lower (Kd.R_new' ho0 (Kd.R_lt (kR_ HO607.out))) (below_size hb_)); replace HO607 := Aside0.mk (Kd.R_elder' (kR_ HO607.out) (Kd.R_base ho0) hb); replace HB := Aside0.mk (below_step hb_ hb); (try clear hb); (try clear ho0); obtain ⟨Ao28, co28, eo28⟩ := Kd.R_slice HO607.out; subst eo28; obtain ⟨Ao29, co29, eo29⟩ := Kd.R_slice HO610.out; subst eo29) | ((with_reducible refine gate_callee (f := 46) rfl ?_); refine goesL_ (some 24) rfl rfl Tryz.func46 (by kernel_rfl) rfl #[.slice Ao28 t605.length co28, .slice Ao29 t608.length co29] rfl sl_ ?_; (with_reducible refine (slices_Equal_string_string.calls k _ _ t605 _ _ t608 false _ ?side1 ?side2 ?side3 ?side4 A8.out).mono ?_); (case side1 => exact kC_ ((Kd.R_reads' HO607.out).2.2)); (case side2 => exact (Kd.R_reads' HO607.out).2.1); (case side3 => exact kC_ ((Kd.R_reads' HO610.out).2.2)); (case side4 => exact (Kd.R_reads' HO610.out).2.1); rintro e w' ⟨rfl, ⟨nd, rfl⟩⟩; refine ⟨_, rfl, ?_⟩))
   go_ret
   exact ⟨er_, hb_⟩
 ·replace c5 := Bool.eq_false_iff.mpr c5
  subst c5
  have H1 : (some false) = some r := by rw [if_neg (show ¬ (false = true) by decide)] at H; exact H
  clear H
  have H := H1
  clear H1
  obtain rfl := Option.some.inj H
  go_enter Tryz.func22, Tryz.ntmps22
  go_wp2_with (first | ((with_reducible refine gate_callee (f := 40) rfl ?_); refine goesL_ (some 15) rfl rfl Tryz.func40 (by kernel_rfl) rfl #[.slice A0 l0.length c0] rfl sl_ ?_; (with_reducible refine (impl_StoreValid.calls k _ _ l0 false _ ?side1 ?side2 A4.out).mono ?_); (case side1 => exact kC_ HR0.out); (case side2 => exact HC0.out); rintro e w30 ⟨rfl, hb⟩; refine ⟨_, rfl, ?_⟩; replace HB := Aside0.mk (below_step hb_ hb); (try clear hb)))
  go_ret
  exact ⟨er_, hb_⟩
/-! ### laws_FnExactSameFiles: function 6 -/
def laws_FnExactSameFiles.f (k : Nat) (l0 : List (S42)) (a1 : Int) (a2 : Int) : Option (Bool) := (laws_szPieceS.f k l0 1048576).bind fun t617 => (if t617 < 0 then (some true) else ((laws_toPieceS.f k l0).bind fun t618 => ((spec_SameFiles.f k t618 a1 a2).bind fun t621 => ((laws_toPieceS.f k l0).bind fun t622 => ((impl_SameFiles.f k t622 a1 a2).bind fun t625 => (if (t625 != t621) = true then (some false) else ((laws_toPieceS.f k l0).bind fun t626 => ((laws_eqPieceS.f k t622 t626).bind fun t629 => (if t629 = true then (some true) else (some false))))))))))
theorem laws_FnExactSameFiles.mono : ∀ a0 a1 a2 k, LeO (laws_FnExactSameFiles.f k a0 a1 a2) (laws_FnExactSameFiles.f (k + 1) a0 a1 a2) := by
 intro a0 a1 a2 k
 unfold laws_FnExactSameFiles.f
 repeat' first
   | (with_reducible exact impl_SameFiles.mono _ _ _ _)
   | (with_reducible exact laws_eqPieceS.mono _ _ _)
   | (with_reducible exact laws_szPieceS.mono _ _ _)
   | (with_reducible exact laws_toPieceS.mono _ _)
   | (with_reducible exact spec_SameFiles.mono _ _ _ _)
   | (with_reducible exact LeO.refl _)
   | (with_reducible exact LeO.none _)
   | (with_reducible refine LeO.ite ?_ ?_)
   | (with_reducible refine LeO.bind ?_ (fun _ => ?_))
   | exact impl_SameFiles.mono _ _ _ _
   | exact laws_eqPieceS.mono _ _ _
   | exact laws_szPieceS.mono _ _ _
   | exact laws_toPieceS.mono _ _
   | exact spec_SameFiles.mono _ _ _ _
   | exact LeO.none _
   | refine LeO.ite ?_ ?_
   | refine LeO.bind ?_ (fun _ => ?_)
set_option maxHeartbeats 8000000 in
set_option maxRecDepth 100000 in
theorem laws_FnExactSameFiles.calls (k : Nat) (A0 : Option Addr) (c0 : Nat) (l0 : List (S42)) (a1 : Int) (a2 : Int) (r : Bool) (w : World) (hr0 : Kd.C k42 w A0 l0.length l0) (hc0 : l0.length ≤ c0) (hG : GT w) (h : laws_FnExactSameFiles.f k l0 a1 a2 = some r) (hrt : r = true) :
  Calls Tryz.prog 6 #[.slice A0 l0.length c0, .int .i64 a1, .int .i64 a2] w fun e w' => e = .returned (.bool r) ∧ Below w.heap.size w w' := by
 have HR0 := Aside0.mk hr0
 have HC0 := Aside0.mk hc0
 clear hr0 hc0
 have HB := Aside0.mk (Below.refl w.heap.size w)
 have H : ((laws_szPieceS.f k l0 1048576).bind fun t617 => (if t617 < 0 then (some true) else ((laws_toPieceS.f k l0).bind fun t618 => ((spec_SameFiles.f k t618 a1 a2).bind fun t621 => ((laws_toPieceS.f k l0).bind fun t622 => ((impl_SameFiles.f k t622 a1 a2).bind fun t625 => (if (t625 != t621) = true then (some false) else ((laws_toPieceS.f k l0).bind fun t626 => ((laws_eqPieceS.f k t622 t626).bind fun t629 => (if t629 = true then (some true) else (some false))))))))))) = some r := h
 clear h
 replace H := Option.bind_eq_some_iff.mp H
 obtain ⟨t617, A40, H⟩ := H
 replace H : (if t617 < 0 then (some true) else ((laws_toPieceS.f k l0).bind fun t618 => ((spec_SameFiles.f k t618 a1 a2).bind fun t621 => ((laws_toPieceS.f k l0).bind fun t622 => ((impl_SameFiles.f k t622 a1 a2).bind fun t625 => (if (t625 != t621) = true then (some false) else ((laws_toPieceS.f k l0).bind fun t626 => ((laws_eqPieceS.f k t622 t626).bind fun t629 => (if t629 = true then (some true) else (some false)))))))))) = some r := H
 have A4 := Aside0.mk A40
 clear A40
 by_cases c5 : t617 < 0
 ·rw [if_pos c5] at H
  have c5b0 : decide (t617 < 0) = true := decide_eq_true c5
  clear c5
  obtain rfl := Option.some.inj H
  go_enter Tryz.func6, Tryz.ntmps6
  go_wp2_with (first | ((with_reducible refine gate_callee (f := 8) rfl ?_); refine goesL_ (some 13) rfl rfl Tryz.func8 (by kernel_rfl) rfl #[.slice A0 l0.length c0, .int .i64 1048576] rfl sl_ ?_; (with_reducible refine (laws_szPieceS.calls k _ _ l0 1048576 t617 _ ?side1 ?side2 A4.out).mono ?_); (case side1 => exact kC_ HR0.out); (case side2 => exact HC0.out); rintro e w6 ⟨rfl, hb⟩; refine ⟨_, rfl, ?_⟩; replace HB := Aside0.mk (below_step hb_ hb); (try clear hb)))
  go_ret
  exact ⟨er_, hb_⟩
 ·rw [if_neg c5] at H
  have c5b0 : decide (t617 < 0) = false := decide_eq_false c5
  clear c5
  replace H := Option.bind_eq_some_iff.mp H
  obtain ⟨t618, A70, H⟩ := H
  replace H : ((spec_SameFiles.f k t618 a1 a2).bind fun t621 => ((laws_toPieceS.f k l0).bind fun t622 => ((impl_SameFiles.f k t622 a1 a2).bind fun t625 => (if (t625 != t621) = true then (some false) else ((laws_toPieceS.f k l0).bind fun t626 => ((laws_eqPieceS.f k t622 t626).bind fun t629 => (if t629 = true then (some true) else (some false)))))))) = some r := H
  have A7 := Aside0.mk A70
  clear A70
  replace H := Option.bind_eq_some_iff.mp H
  obtain ⟨t621, A80, H⟩ := H
  replace H : ((laws_toPieceS.f k l0).bind fun t622 => ((impl_SameFiles.f k t622 a1 a2).bind fun t625 => (if (t625 != t621) = true then (some false) else ((laws_toPieceS.f k l0).bind fun t626 => ((laws_eqPieceS.f k t622 t626).bind fun t629 => (if t629 = true then (some true) else (some false))))))) = some r := H
  have A8 := Aside0.mk A80
  clear A80
  replace H := Option.bind_eq_some_iff.mp H
  obtain ⟨t622, A90, H⟩ := H
  replace H : ((impl_SameFiles.f k t622 a1 a2).bind fun t625 => (if (t625 != t621) = true then (some false) else ((laws_toPieceS.f k l0).bind fun t626 => ((laws_eqPieceS.f k t622 t626).bind fun t629 => (if t629 = true then (some true) else (some false)))))) = some r := H
  have A9 := Aside0.mk A90
  clear A90
  replace H := Option.bind_eq_some_iff.mp H
  obtain ⟨t625, A100, H⟩ := H
  replace H : (if (t625 != t621) = true then (some false) else ((laws_toPieceS.f k l0).bind fun t626 => ((laws_eqPieceS.f k t622 t626).bind fun t629 => (if t629 = true then (some true) else (some false))))) = some r := H
  have A10 := Aside0.mk A100
  clear A100
  by_cases c11 : (t625 != t621) = true
  ·rw [if_pos c11] at H
   have c11b0 : (t625 != t621) = true := c11
   (try (have c11b1 : decide (t625 = t621) = false := by simpa using c11))
   (try (have c11b2 : (t625 == t621) = false := by simpa using c11))
   (try (have c11b3 : ¬ (t625 = t621) := by simpa using c11))
   clear c11
   exact absurd H (by subst hrt; decide)
  ·rw [if_neg c11] at H
   have c11b0 : (t625 != t621) = false := by simpa using c11
   (try (have c11b1 : decide (t625 = t621) = true := by simpa using c11))
   (try (have c11b2 : (t625 == t621) = true := by simpa using c11))
   clear c11
   replace H := Option.bind_eq_some_iff.mp H
   obtain ⟨t626, A190, H⟩ := H
   replace H : ((laws_eqPieceS.f k t622 t626).bind fun t629 => (if t629 = true then (some true) else (some false))) = some r := H
   have A19 := Aside0.mk A190
   clear A190
   replace H := Option.bind_eq_some_iff.mp H
   obtain ⟨t629, A200, H⟩ := H
   replace H : (if t629 = true then (some true) else (some false)) = some r := H
   have A20 := Aside0.mk A200
   clear A200
   by_cases c21 : t629 = true
   ·subst c21
    have H1 : (some true) = some r := by rw [if_pos rfl] at H; exact H
    clear H
    have H := H1
    clear H1
    obtain rfl := Option.some.inj H
    go_enter Tryz.func6, Tryz.ntmps6
    go_wp2_with (first | ((with_reducible refine gate_callee (f := 8) rfl ?_); refine goesL_ (some 13) rfl rfl Tryz.func8 (by kernel_rfl) rfl #[.slice A0 l0.length c0, .int .i64 1048576] rfl sl_ ?_; (with_reducible refine (laws_szPieceS.calls k _ _ l0 1048576 t617 _ ?side1 ?side2 A4.out).mono ?_); (case side1 => exact kC_ HR0.out); (case side2 => exact HC0.out); rintro e w22 ⟨rfl, hb⟩; refine ⟨_, rfl, ?_⟩; replace HB := Aside0.mk (below_step hb_ hb); (try clear hb)) | ((with_reducible refine gate_callee (f := 10) rfl ?_); refine goesL_ (some 17) rfl rfl Tryz.func10 (by kernel_rfl) rfl #[.slice A0 l0.length c0] rfl sl_ ?_; (with_reducible refine (laws_toPieceS.calls k _ _ l0 t618 _ ?side1 ?side2 A7.out).mono ?_); (case side1 => exact kC_ (Kd.C_below HR0.out HB.out)); (case side2 => exact HC0.out); rintro e w23 ⟨v619, rfl, ho0, hb⟩; refine ⟨_, rfl, ?_⟩; have HO620 := Aside0.mk (Kd.R_lower ho0 (below_size hb_)); replace HB := Aside0.mk (below_step hb_ hb); (try clear hb); (try clear ho0); obtain ⟨Ao24, co24, eo24⟩ := Kd.R_slice HO620.out; subst eo24) | ((with_reducible refine gate_callee (f := 21) rfl ?_); refine goesL_ (some 20) rfl rfl Tryz.func21 (by kernel_rfl) rfl #[.slice Ao24 t618.length co24, .int .i64 a1, .int .i64 a2] rfl sl_ ?_; (with_reducible refine (spec_SameFiles.calls k _ _ t618 a1 a2 t621 _ ?side1 ?side2 A8.out).mono ?_); (case side1 => exact kC_ ((Kd.R_reads' HO620.out).2.2)); (case side2 => exact (Kd.R_reads' HO620.out).2.1); rintro e w25 ⟨rfl, hb⟩; refine ⟨_, rfl, ?_⟩; replace HO620 := Aside0.mk (Kd.R_below (kR_ HO620.out) hb); replace HB := Aside0.mk (below_step hb_ hb); (try clear hb)) | ((with_reducible refine gate_callee (f := 10) rfl ?_); refine goesL_ (some 22) rfl rfl Tryz.func10 (by kernel_rfl) rfl #[.slice A0 l0.length c0] rfl sl_ ?_; (with_reducible refine (laws_toPieceS.calls k _ _ l0 t622 _ ?side1 ?side2 A9.out).mono ?_); (case side1 => exact kC_ (Kd.C_below HR0.out HB.out)); (case side2 => exact HC0.out); rintro e w26 ⟨v623, rfl, ho0, hb⟩; refine ⟨_, rfl, ?_⟩; have HO624 := Aside0.mk (Kd.R_lower (Kd.R_new' ho0 (Kd.R_lt (kR_ HO620.out))) (below_size hb_)); replace HO620 := Aside0.mk (Kd.R_elder' (kR_ HO620.out) (Kd.R_base ho0) hb); replace HB := Aside0.mk (below_step hb_ hb); (try clear hb); (try clear ho0); obtain ⟨Ao27, co27, eo27⟩ := Kd.R_slice HO624.out; subst eo27) | ((with_reducible refine gate_callee (f := 22) rfl ?_); refine goesL_ (some 26) rfl rfl Tryz.func22 (by kernel_rfl) rfl #[.slice Ao27 t622.length co27, .int .i64 a1, .int .i64 a2] rfl sl_ ?_; (with_reducible refine (impl_SameFiles.calls k _ _ t622 a1 a2 t625 _ ?side1 ?side2 (GT_on hb_ hG) A10.out).mono ?_); (case side1 => exact kC_ ((Kd.R_reads' HO624.out).2.2)); (case side2 => exact (Kd.R_reads' HO624.out).2.1); rintro e w28 ⟨rfl, hb⟩; refine ⟨_, rfl, ?_⟩; replace HO620 := Aside0.mk (Kd.R_below (kR_ HO620.out) hb); replace HO624 := Aside0.mk (Kd.R_below (kR_ HO624.out) hb); replace HB := Aside0.mk (below_step hb_ hb); (try clear hb)) | ((with_reducible refine gate_callee (f := 10) rfl ?_); refine goesL_ (some 32) rfl rfl Tryz.func10 (by kernel_rfl) rfl #[.slice A0 l0.length c0] rfl sl_ ?_; (with_reducible refine (laws_toPieceS.calls k _ _ l0 t626 _ ?side1 ?side2 A19.out).mono ?_); (case side1 => exact kC_ (Kd.C_below HR0.out HB.out)); (case side2 => exact HC0.out); rintro e w29 ⟨v627, rfl, ho0, hb⟩; refine ⟨_, rfl, ?_⟩; have HO628 := Aside0.mk (Kd.R_lower (Kd.R_new' (Kd.R_new' ho0 (Kd.R_lt (kR_ HO620.out))) (Kd.R_lt (kR_ HO624.out))) (below_size hb_)); replace HO620 := Aside0.mk (Kd.R_elder' (kR_ HO620.out) (Kd.R_base ho0) hb); replace HO624 := Aside0.mk (Kd.R_elder' (kR_ HO624.out) (Kd.R_base ho0) hb); replace HB := Aside0.mk (below_step hb_ hb); (try clear hb); (try clear ho0); obtain ⟨Ao30, co30, eo30⟩ := Kd.R_slice HO628.out; subst eo30) | ((with_reducible refine gate_callee (f := 13) rfl ?_); refine goesL_ (some 33) rfl rfl Tryz.func13 (by kernel_rfl) rfl #[.slice Ao27 t622.length co27, .slice Ao30 t626.length co30] rfl sl_ ?_; (with_reducible refine (laws_eqPieceS.calls k _ _ t622 _ _ t626 true _ ?side1 ?side2 ?side3 ?side4 A20.out).mono ?_); (case side1 => exact kC_ ((Kd.R_reads' HO624.out).2.2)); (case side2 => exact (Kd.R_reads' HO624.out).2.1); (case side3 => exact kC_ ((Kd.R_reads' HO628.out).2.2)); (case side4 => exact (Kd.R_reads' HO628.out).2.1); rintro e w31 ⟨rfl, hb⟩; refine ⟨_, rfl, ?_⟩; replace HO620 := Aside0.mk (Kd.R_below (kR_ HO620.out) hb); replace HO624 := Aside0.mk (Kd.R_below (kR_ HO624.out) hb); replace HO628 := Aside0.mk (Kd.R_below (kR_ HO628.out) hb); replace HB := Aside0.mk (below_step hb_ hb); (try clear hb)))
    go_ret
    exact ⟨er_, hb_⟩
   ·replace c21 := Bool.eq_false_iff.mpr c21
    subst c21
    have H1 : (some false) = some r := by rw [if_neg (show ¬ (false = true) by decide)] at H; exact H
    clear H
    have H := H1
    clear H1
    exact absurd H (by subst hrt; decide)
end Go.Proofs.YtjgbidklkhohfaaGreatDoor.P
