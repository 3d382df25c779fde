-- The functions of the seat as plain Lean functions, made by the kit's print.py for all laws at once. Not trusted: Lean checks it.
import Derived.Test.YtjgbidklkhohfaaGreatDoorPx0
import Derived.Test.YtjgbidklkhohfaaGreatDoorPx3
import Derived.Test.YtjgbidklkhohfaaGreatDoorPx4
import Derived.Test.YtjgbidklkhohfaaGreatDoorPx5
import Derived.Test.YtjgbidklkhohfaaGreatDoorPx6
import Derived.Test.YtjgbidklkhohfaaGreatDoorPx9
import Derived.Test.YtjgbidklkhohfaaGreatDoorPx11
import Derived.Test.YtjgbidklkhohfaaGreatDoorPx12
namespace Go.Proofs.YtjgbidklkhohfaaGreatDoor.P
open Go.RowKit Go.Proofs.YtjgbidklkhohfaaGreatDoorW.PrintWords Go.Proofs.YtjgbidklkhohfaaGreatDoorW.PrintLast Go.Proofs.YtjgbidklkhohfaaGreatDoorW.PrintMore
attribute [local go_sem] max2_int min2_int max_two min_two max_three min_three max_four min_four   -- for this text's walks alone
set_option linter.unusedVariables false
set_option linter.unusedSimpArgs false
/-! ### impl_AbsenceProof: function 18 -/
mutual
def impl_AbsenceProof.j0 : Nat → List (S46) → Int → List ByteArray → Bool → Option (List ByteArray)
 | 0, _, _, _, _ => none
 | k + 1, x0, x1, x7, x28 => if x28 = true then (some ([] : List ByteArray)) else (impl_AbsenceProof.l0 k x0 ([] : List ByteArray) x1 x7 (x7.length : Int) 0)
def impl_AbsenceProof.l0 : Nat → List (S46) → List ByteArray → Int → List ByteArray → Int → Int → Option (List ByteArray)
 | 0, _, _, _, _, _, _ => none
 | k + 1, x0, x9, x10, x30, x31, x32 => if x32 < x31 then (if 0 ≤ x32 then (if x32 < (x30.length : Int) then ((impl_textOf.f k x0 x10).bind fun bt492 => (if bt492.2 = true then ((impl_ReadFolder.f k bt492.1).bind fun bt494 => (if bt494.2 = true then (if x9.length < 8796093022208 then ((some (x9 ++ [bt492.1] : List ByteArray)).bind fun y498 => ((impl_printNamed.f k bt494.1 (rdOf ByteArray.empty x30 x32)).bind fun bt501 => (if bt501.2 = true then (impl_AbsenceProof.l0 k x0 y498 bt501.1 x30 x31 (wrap64 (x32 + 1))) else (some y498)))) else (none)) else (some ([] : List ByteArray)))) else (some ([] : List ByteArray)))) else (none)) else (none)) else (some ([] : List ByteArray))
end
def impl_AbsenceProof.f (k : Nat) (l0 : List (S46)) (a1 : Int) (a2 : ByteArray) : Option (List ByteArray) := (impl_PathParts.f k a2).bind fun bt486 => (if bt486.2 = true then ((impl_StoreValid.f k l0).bind fun t490 => (impl_AbsenceProof.j0 k l0 a1 bt486.1 (!t490))) else (impl_AbsenceProof.j0 k l0 a1 bt486.1 true))
theorem impl_AbsenceProof.mono_l : ∀ k, (∀ y0 y1 y2 y3, LeO (impl_AbsenceProof.j0 k y0 y1 y2 y3) (impl_AbsenceProof.j0 (k + 1) y0 y1 y2 y3)) ∧ (∀ y0 y1 y2 y3 y4 y5, LeO (impl_AbsenceProof.l0 k y0 y1 y2 y3 y4 y5) (impl_AbsenceProof.l0 (k + 1) y0 y1 y2 y3 y4 y5))
 | 0 => ⟨fun _ _ _ _ r h => by simp [impl_AbsenceProof.j0] at h, fun _ _ _ _ _ _ r h => by simp [impl_AbsenceProof.l0] at h⟩
 | k + 1 => by
  obtain ⟨ih0, ih1⟩ := impl_AbsenceProof.mono_l k
  refine ⟨?_, ?_⟩
  ·intro y0 y1 y2 y3
   unfold impl_AbsenceProof.j0
   repeat' first
   | (with_reducible exact ih0 _ _ _ _)
   | (with_reducible exact ih1 _ _ _ _ _ _)
   | (with_reducible exact impl_PathParts.mono _ _)
   | (with_reducible exact impl_ReadFolder.mono _ _)
   | (with_reducible exact impl_StoreValid.mono _ _)
   | (with_reducible exact impl_printNamed.mono _ _ _)
   | (with_reducible exact impl_textOf.mono _ _ _)
   | (with_reducible exact LeO.refl _)
   | (with_reducible exact LeO.none _)
   | (with_reducible refine LeO.ite ?_ ?_)
   | (with_reducible refine LeO.bind ?_ (fun _ => ?_))
   | exact ih0 _ _ _ _
   | exact ih1 _ _ _ _ _ _
   | exact impl_PathParts.mono _ _
   | exact impl_ReadFolder.mono _ _
   | exact impl_StoreValid.mono _ _
   | exact impl_printNamed.mono _ _ _
   | exact impl_textOf.mono _ _ _
   | exact LeO.none _
   | refine LeO.ite ?_ ?_
   | refine LeO.bind ?_ (fun _ => ?_)
  ·intro y0 y1 y2 y3 y4 y5
   unfold impl_AbsenceProof.l0
   repeat' first
   | (with_reducible exact ih0 _ _ _ _)
   | (with_reducible exact ih1 _ _ _ _ _ _)
   | (with_reducible exact impl_PathParts.mono _ _)
   | (with_reducible exact impl_ReadFolder.mono _ _)
   | (with_reducible exact impl_StoreValid.mono _ _)
   | (with_reducible exact impl_printNamed.mono _ _ _)
   | (with_reducible exact impl_textOf.mono _ _ _)
   | (with_reducible exact LeO.refl _)
   | (with_reducible exact LeO.none _)
   | (with_reducible refine LeO.ite ?_ ?_)
   | (with_reducible refine LeO.bind ?_ (fun _ => ?_))
   | exact ih0 _ _ _ _
   | exact ih1 _ _ _ _ _ _
   | exact impl_PathParts.mono _ _
   | exact impl_ReadFolder.mono _ _
   | exact impl_StoreValid.mono _ _
   | exact impl_printNamed.mono _ _ _
   | exact impl_textOf.mono _ _ _
   | exact LeO.none _
   | refine LeO.ite ?_ ?_
   | refine LeO.bind ?_ (fun _ => ?_)
theorem impl_AbsenceProof.mono : ∀ a0 a1 a2 k, LeO (impl_AbsenceProof.f k a0 a1 a2) (impl_AbsenceProof.f (k + 1) a0 a1 a2) := by
 intro a0 a1 a2 k
 obtain ⟨ih0, ih1⟩ := impl_AbsenceProof.mono_l k
 unfold impl_AbsenceProof.f
 repeat' first
   | (with_reducible exact ih0 _ _ _ _)
   | (with_reducible exact ih1 _ _ _ _ _ _)
   | (with_reducible exact impl_PathParts.mono _ _)
   | (with_reducible exact impl_ReadFolder.mono _ _)
   | (with_reducible exact impl_StoreValid.mono _ _)
   | (with_reducible exact impl_printNamed.mono _ _ _)
   | (with_reducible exact impl_textOf.mono _ _ _)
   | (with_reducible exact LeO.refl _)
   | (with_reducible exact LeO.none _)
   | (with_reducible refine LeO.ite ?_ ?_)
   | (with_reducible refine LeO.bind ?_ (fun _ => ?_))
   | exact ih0 _ _ _ _
   | exact ih1 _ _ _ _ _ _
   | exact impl_PathParts.mono _ _
   | exact impl_ReadFolder.mono _ _
   | exact impl_StoreValid.mono _ _
   | exact impl_printNamed.mono _ _ _
   | exact impl_textOf.mono _ _ _
   | exact LeO.none _
   | refine LeO.ite ?_ ?_
   | refine LeO.bind ?_ (fun _ => ?_)
set_option maxHeartbeats 8000000 in
set_option maxRecDepth 100000 in
theorem impl_AbsenceProof.calls (k : Nat) (A0 : Option Addr) (c0 : Nat) (l0 : List (S46)) (a1 : Int) (a2 : ByteArray) (r : List ByteArray) (w : World) (hr0 : Kd.C k46 w A0 l0.length l0) (hc0 : l0.length ≤ c0) (hG : GT w) (h : impl_AbsenceProof.f k l0 a1 a2 = some r) :
  Calls Tryz.prog 18 #[.slice A0 l0.length c0, .int .i64 a1, .string a2] w fun e w' => ∃ v0_ : Value, e = .returned (v0_) ∧ Kd.R Kd.string 9 w' w.heap.size (fun _ => True) v0_ r ∧ Below w.heap.size w w' := by
 have HR0 := Aside0.mk hr0
 have HC0 := Aside0.mk hc0
 clear hr0 hc0
 have HB := Aside0.mk (Below.refl w.heap.size w)
 have H : ((impl_PathParts.f k a2).bind fun bt486 => (if bt486.2 = true then ((impl_StoreValid.f k l0).bind fun t490 => (impl_AbsenceProof.j0 k l0 a1 bt486.1 (!t490))) else (impl_AbsenceProof.j0 k l0 a1 bt486.1 true))) = some r := h
 clear h
 replace H := Option.bind_eq_some_iff.mp H
 obtain ⟨⟨t486, t487⟩, A40, H⟩ := H
 replace H : (if t487 = true then ((impl_StoreValid.f k l0).bind fun t490 => (impl_AbsenceProof.j0 k l0 a1 t486 (!t490))) else (impl_AbsenceProof.j0 k l0 a1 t486 true)) = some r := H
 have A4 := Aside0.mk A40
 clear A40
 have HC5 := Aside0.mk H
 clear H
 go_enter Tryz.func18, Tryz.ntmps18
 go_upto_region 2 with (first | ((with_reducible refine gate_callee (f := 33) rfl ?_); refine goesL_ (some 19) rfl rfl Tryz.func33 (by kernel_rfl) rfl #[.string a2] rfl sl_ ?_; (with_reducible refine (impl_PathParts.calls k a2 t486 t487 _ A4.out).mono ?_); rintro e w6 ⟨v488, rfl, ho0, hb⟩; refine ⟨_, rfl, ?_⟩; have HO489 := Aside0.mk (Kd.R_lower ho0 (below_size hb_)); replace HB := Aside0.mk (below_step hb_ hb); (try clear hb); (try clear ho0)))
 (try simp only [Act.put, List.setIfInBounds_toArray, List.set_cons_zero, List.set_cons_succ])
 go_cut [28] (fun v28 wc => ∃ (kq : Nat) (x28_4 : Bool), v28 = .bool x28_4 ∧ Aside0 (impl_AbsenceProof.j0 kq l0 a1 t486 x28_4 = some r) ∧ Aside0 (kq ≤ k) ∧ Aside0 (Kd.R Kd.string 9 wc w.heap.size (fun _ => True) v488 t486) ∧ Aside0 (Below w.heap.size w wc))
 case first =>
  have H := HC5.out
  clear HC5
  by_cases c7 : t487 = true
  ·subst c7
   have H1 : ((impl_StoreValid.f k l0).bind fun t490 => (impl_AbsenceProof.j0 k l0 a1 t486 (!t490))) = some r := by rw [if_pos rfl] at H; exact H
   clear H
   have H := H1
   clear H1
   replace H := Option.bind_eq_some_iff.mp H
   obtain ⟨t490, A80, H⟩ := H
   replace H : (impl_AbsenceProof.j0 k l0 a1 t486 (!t490)) = some r := H
   have A8 := Aside0.mk A80
   clear A80
   have H' := Aside0.mk H
   clear H
   go_wp2_with (first | (go_at_call 40; (with_reducible refine (impl_StoreValid.calls k _ _ l0 t490 _ ?side1 ?side2 A8.out).mono ?_); (case side1 => exact kC_ (Kd.C_below HR0.out HB.out)); (case side2 => exact HC0.out); rintro e w9 ⟨rfl, hb⟩; replace HO489 := Aside0.mk (Kd.R_below (kR_ HO489.out) hb); replace HB := Aside0.mk (below_step hb_ hb); (try clear hb)))
   go_meet
   case rel => exact ⟨_, (!t490), (by first | rfl | (simp; done) | (simp [*]; done)), H', ⟨by first | omega | exact Nat.le_refl _⟩, ⟨by (with_reducible repeat (first | apply Kd.R_alloc | apply Kd.R_drewN | apply Kd.R_drew)); exact HO489.out⟩, ⟨hb_⟩⟩
  ·replace c7 := Bool.eq_false_iff.mpr c7
   subst c7
   have H1 : (impl_AbsenceProof.j0 k l0 a1 t486 true) = some r := by rw [if_neg (show ¬ (false = true) by decide)] at H; exact H
   clear H
   have H := H1
   clear H1
   have H' := Aside0.mk H
   clear H
   go_wp2
   go_meet
   case rel => exact ⟨_, (true), (by first | rfl | (simp; done) | (simp [*]; done)), H', ⟨by first | omega | exact Nat.le_refl _⟩, ⟨by (with_reducible repeat (first | apply Kd.R_alloc | apply Kd.R_drewN | apply Kd.R_drew)); exact HO489.out⟩, ⟨hb_⟩⟩
 case rest =>
  clear HC5
  try clear c1
  try clear p2
  try clear c3
  try clear c7
  obtain ⟨kq, x28_4, rfl, HA, HJ4, HO_7, HB⟩ := hcut
  cases kq with
  | zero => exact absurd HA.out (by simp [impl_AbsenceProof.j0])
  | succ kj4 =>
   have H := HA.out
   clear HA
   simp only [impl_AbsenceProof.j0] at H
   by_cases c10 : x28_4 = true
   ·subst c10
    have H1 : (some ([] : List ByteArray)) = some r := by rw [if_pos rfl] at H; exact H
    clear H
    have H := H1
    clear H1
    obtain rfl := Option.some.inj H
    go_wp2
    go_ret
    exact ⟨_, er_, by first | exact Kd.R_nil _ _ _ _ _ | exact Kd.N_nil _ _ _ _ _ | exact Kd.V_nil _ _ _ _ _ | exact Kd.Q_nil _ _ _ _ _ | exact Kd.S_nil _ _ _ _ _, hb_⟩
   ·replace c10 := Bool.eq_false_iff.mpr c10
    subst c10
    have H1 : (impl_AbsenceProof.l0 kj4 l0 ([] : List ByteArray) a1 t486 (t486.length : Int) 0) = some r := by rw [if_neg (show ¬ (false = true) by decide)] at H; exact H
    clear H
    have H := H1
    clear H1
    have H' := Aside0.mk H
    clear H
    obtain ⟨Ao11, co11, eo11⟩ := Kd.R_slice HO_7.out
    subst eo11
    go_wp2
    go_loopg [9, 10, 32] kj4 (fun kq v9 v10 v32 w' => ∃ (x9_2 : List ByteArray) (x10_2 : Int) (x32_2 : Int), v10 = .int .i64 x10_2 ∧ v32 = .int .i64 x32_2 ∧ Aside0 (impl_AbsenceProof.l0 kq l0 x9_2 x10_2 t486 (t486.length : Int) x32_2 = some r) ∧ Aside0 (kq ≤ kj4) ∧ Aside0 (Kd.R Kd.string 9 w' w.heap.size (fun k_ => some k_ ≠ ((.slice Ao11 t486.length co11) : Value).ownBlock) v9 x9_2) ∧ Aside0 (Kd.R Kd.string 9 w' w.heap.size (fun k_ => some k_ ≠ (v9 : Value).ownBlock) (.slice Ao11 t486.length co11) t486) ∧ Aside0 (Below w.heap.size w w'))
    case atStart => exact ⟨(([] : List ByteArray)), (a1), (0), (by first | rfl | (simp; done) | (simp [*]; done)), (by first | rfl | (simp; done) | (simp [*]; done)), H', ⟨Nat.le_refl _⟩, ⟨by first | exact Kd.R_nil _ _ _ _ _ | exact Kd.N_nil _ _ _ _ _ | exact Kd.V_nil _ _ _ _ _ | exact Kd.Q_nil _ _ _ _ _ | exact Kd.S_nil _ _ _ _ _⟩, ⟨by (with_reducible repeat (first | apply Kd.R_alloc | apply Kd.R_drewN | apply Kd.R_drew)); exact Kd.R_mono HO_7.out (fun _ hk => (by simp [Value.ownBlock]))⟩, ⟨hb_⟩⟩
    case round =>
     clear H'
     try clear c1
     try clear p2
     try clear c3
     try clear c7
     try clear c10
     try clear p2
     obtain ⟨x9_2, x10_2, x32_2, rfl, rfl, HA, HK2, HO_9, HO_30, HB⟩ := hrel
     cases gk with
     | zero => exact absurd HA.out (by simp [impl_AbsenceProof.l0])
     | succ k2 =>
      have H := HA.out
      clear HA
      simp only [impl_AbsenceProof.l0] at H
      by_cases c12 : x32_2 < (t486.length : Int)
      ·rw [if_pos c12] at H
       have c12b0 : decide (x32_2 < (t486.length : Int)) = true := decide_eq_true c12
       clear c12
       by_cases c13 : 0 ≤ x32_2
       ·rw [if_pos c13] at H
        have c13b0 : decide (0 ≤ x32_2) = true := decide_eq_true c13
        clear c13
        by_cases c14 : x32_2 < (t486.length : Int)
        ·rw [if_pos c14] at H
         have c14b0 : decide (x32_2 < (t486.length : Int)) = true := decide_eq_true c14
         clear c14
         replace H := Option.bind_eq_some_iff.mp H
         obtain ⟨⟨t492, t493⟩, A150, H⟩ := H
         replace H : (if t493 = true then ((impl_ReadFolder.f k2 t492).bind fun bt494 => (if bt494.2 = true then (if x9_2.length < 8796093022208 then ((some (x9_2 ++ [t492] : List ByteArray)).bind fun y498 => ((impl_printNamed.f k2 bt494.1 (rdOf ByteArray.empty t486 x32_2)).bind fun bt501 => (if bt501.2 = true then (impl_AbsenceProof.l0 k2 l0 y498 bt501.1 t486 (t486.length : Int) (wrap64 (x32_2 + 1))) else (some y498)))) else (none)) else (some ([] : List ByteArray)))) else (some ([] : List ByteArray))) = some r := H
         have A15 := Aside0.mk A150
         clear A150
         by_cases c16 : t493 = true
         ·subst c16
          have H1 : ((impl_ReadFolder.f k2 t492).bind fun bt494 => (if bt494.2 = true then (if x9_2.length < 8796093022208 then ((some (x9_2 ++ [t492] : List ByteArray)).bind fun y498 => ((impl_printNamed.f k2 bt494.1 (rdOf ByteArray.empty t486 x32_2)).bind fun bt501 => (if bt501.2 = true then (impl_AbsenceProof.l0 k2 l0 y498 bt501.1 t486 (t486.length : Int) (wrap64 (x32_2 + 1))) else (some y498)))) else (none)) else (some ([] : List ByteArray)))) = some r := by rw [if_pos rfl] at H; exact H
          clear H
          have H := H1
          clear H1
          replace H := Option.bind_eq_some_iff.mp H
          obtain ⟨⟨t494, t495⟩, A170, H⟩ := H
          replace H : (if t495 = true then (if x9_2.length < 8796093022208 then ((some (x9_2 ++ [t492] : List ByteArray)).bind fun y498 => ((impl_printNamed.f k2 t494 (rdOf ByteArray.empty t486 x32_2)).bind fun bt501 => (if bt501.2 = true then (impl_AbsenceProof.l0 k2 l0 y498 bt501.1 t486 (t486.length : Int) (wrap64 (x32_2 + 1))) else (some y498)))) else (none)) else (some ([] : List ByteArray))) = some r := H
          have A17 := Aside0.mk A170
          clear A170
          by_cases c18 : t495 = true
          ·subst c18
           have H1 : (if x9_2.length < 8796093022208 then ((some (x9_2 ++ [t492] : List ByteArray)).bind fun y498 => ((impl_printNamed.f k2 t494 (rdOf ByteArray.empty t486 x32_2)).bind fun bt501 => (if bt501.2 = true then (impl_AbsenceProof.l0 k2 l0 y498 bt501.1 t486 (t486.length : Int) (wrap64 (x32_2 + 1))) else (some y498)))) else (none)) = some r := by rw [if_pos rfl] at H; exact H
           clear H
           have H := H1
           clear H1
           by_cases c19 : x9_2.length < 8796093022208
           ·rw [if_pos c19] at H
            have LMc19 := Aside0.mk c19
            clear c19
            obtain ⟨y498, hy498⟩ : ∃ y_ : List ByteArray, y_ = (x9_2 ++ [t492]) := ⟨_, rfl⟩
            replace H : ((impl_printNamed.f k2 t494 (rdOf ByteArray.empty t486 x32_2)).bind fun bt501 => (if bt501.2 = true then (impl_AbsenceProof.l0 k2 l0 y498 bt501.1 t486 (t486.length : Int) (wrap64 (x32_2 + 1))) else (some y498))) = some r := by first | (rw [hy498]; with_reducible exact H) | (have H2_ := (Option.bind_some _ _).symm.trans H; rw [hy498]; with_reducible exact H2_) | (have H2_ := (Option.bind_some _ _).symm.trans H; with_reducible exact H2_) | with_reducible exact H | (rw [hy498]; exact H) | exact H
            have Ny498 := Aside0.mk hy498
            clear hy498
            replace H := Option.bind_eq_some_iff.mp H
            obtain ⟨⟨t501, t502⟩, A200, H⟩ := H
            replace H : (if t502 = true then (impl_AbsenceProof.l0 k2 l0 y498 t501 t486 (t486.length : Int) (wrap64 (x32_2 + 1))) else (some y498)) = some r := H
            have A20 := Aside0.mk A200
            clear A200
            by_cases c21 : t502 = true
            ·subst c21
             have H1 : (impl_AbsenceProof.l0 k2 l0 y498 t501 t486 (t486.length : Int) (wrap64 (x32_2 + 1))) = some r := by rw [if_pos rfl] at H; exact H
             clear H
             have H := H1
             clear H1
             have H' := Aside0.mk H
             clear H
             have p491 : 0 ≤ (x32_2 : Int) := of_decide_eq_true ma_
             have q491 : x32_2 < (t486.length : Int) := of_decide_eq_true ma_
             obtain ⟨ad491, e491, hx491_0⟩ := Kd.at_string (Kd.R_reads' HO_30.out).2.2 x32_2 p491 q491
             cases e491
             replace p491 := eq_true p491
             replace q491 := eq_true q491
             go_wp2_with (first | ((with_reducible refine gate_callee (f := 41) rfl ?_); refine goesL_ (some 39) rfl rfl Tryz.func41 (by kernel_rfl) rfl #[.slice A0 l0.length c0, .int .i64 x10_2] rfl sl_ ?_; (with_reducible refine (impl_textOf.calls k2 _ _ l0 x10_2 t492 true _ ?side1 ?side2 A15.out).mono ?_); (case side1 => exact kC_ (Kd.C_below HR0.out HB.out)); (case side2 => exact HC0.out); rintro e w22 ⟨rfl, hb⟩; refine ⟨_, rfl, ?_⟩; replace HO_9 := Aside0.mk (Kd.R_below (kR_ HO_9.out) hb); replace HO_30 := Aside0.mk (Kd.R_below (kR_ HO_30.out) hb); replace HB := Aside0.mk (below_step hb_ hb); (try clear hb); (try clear hk)) | ((with_reducible refine gate_callee (f := 42) rfl ?_); refine goesL_ (some 46) rfl rfl Tryz.func42 (by kernel_rfl) rfl #[.string t492] rfl sl_ ?_; (with_reducible refine (impl_ReadFolder.calls k2 t492 t494 true _ (GT_on hb_ hG) A17.out).mono ?_); rintro e w23 ⟨v496, rfl, ho0, hb⟩; refine ⟨_, rfl, ?_⟩; replace HO_9 := Aside0.mk (Kd.R_below (kR_ HO_9.out) hb); replace HO_30 := Aside0.mk (Kd.R_below (kR_ HO_30.out) hb); have HO497 := Aside0.mk (Kd.R_lower ho0 (below_size hb_)); replace HB := Aside0.mk (below_step hb_ hb); (try clear hb); (try clear hk); (try clear ho0)) | ((with_reducible refine gate_builtin (b := .append) (xs := #[.tmp 51, .tmp 53]) rfl ?_); at_builtin; refine Kd.R_append Kd.string (w0 := w) w.heap.size rfl (.tmp 51) (.tmp 53) 24 9 (.string ⟨#[]⟩) 16 rfl Tryz.underlying24 info9 rfl (by decide) (by omega) u9 x9_2 t492 [.string t492] (fun k_ => some k_ ≠ (.slice (some ad491) t486.length co11 : Value).ownBlock) (fun _ => False) rfl rfl ?aP (fun _ hk => hk.elim) ?aF ?aO ?aB ?aS ?aL ?_; (case aP => exact rfl); (case aB => exact hb_); (case aF => exact (fun k_ hk => Kd.fresh' (Kd.R_lt (kR_ HO_30.out)) k_ hk)); (case aO => exact (kR_ HO_9.out)); (case aS => exact (below_size hb_)); (case aL => have := LMc19.out; omega); intro v499 w24 ho hb hg hat; rw [← Ny498.out] at ho; have n0_ := Aside0.mk (Kd.R_after (ok := (fun _ => True)) (by (with_reducible repeat (first | apply Kd.R_alloc | apply Kd.R_drewN | apply Kd.R_drew)); exact Kd.R_mono HO_30.out (fun _ hk => ⟨trivial, hk⟩)) hg hat); have n1_ := Aside0.mk (Kd.R_over' (kR_ HO497.out) (Kd.R_typed (kR_ HO_9.out)) (by decide) hg); have n2_ := Aside0.mk (hb); have n3_ := Aside0.mk (ho); clear HO_30; clear HO497; clear HB; clear HO_9; have HO_30 := n0_; have HO497 := n1_; have HB := n2_; have HO500 := n3_; clear n0_ n1_ n2_ n3_; clear ho hb hg hat; obtain ⟨Ao25, co25, eo25⟩ := Kd.R_slice HO497.out; subst eo25) | ((with_reducible refine gate_callee (f := 43) rfl ?_); refine goesL_ (some 58) rfl rfl Tryz.func43 (by kernel_rfl) rfl #[.slice Ao25 t494.length co25, .string (rdOf ByteArray.empty t486 x32_2)] rfl sl_ ?_; (with_reducible refine (impl_printNamed.calls k2 _ _ t494 (rdOf ByteArray.empty t486 x32_2) t501 true _ ?side1 ?side2 A20.out).mono ?_); (case side1 => exact kC_ ((Kd.R_reads' HO497.out).2.2)); (case side2 => exact (Kd.R_reads' HO497.out).2.1); rintro e w26 ⟨rfl, hb⟩; refine ⟨_, rfl, ?_⟩; replace HO_30 := Aside0.mk (Kd.R_below (kR_ HO_30.out) hb); replace HO497 := Aside0.mk (Kd.R_below (kR_ HO497.out) hb); replace HO500 := Aside0.mk (Kd.R_below (kR_ HO500.out) hb); replace HB := Aside0.mk (below_step hb_ hb); (try clear hb); (try clear hk)))
             go_roundg k2
             case measure => have := HJ4.out; have := HK2.out; omega
             case rel => exact ⟨(y498), (t501), (wrap64 (x32_2 + 1)), (by first | rfl | (simp; done) | (simp [*]; done)), (by first | rfl | (simp; done) | (simp [*]; done)), H', ⟨by have := HJ4.out; have := HK2.out; omega⟩, ⟨by (with_reducible repeat (first | apply Kd.R_alloc | apply Kd.R_drewN | apply Kd.R_drew)); exact HO500.out⟩, ⟨by (with_reducible repeat (first | apply Kd.R_alloc | apply Kd.R_drewN | apply Kd.R_drew)); exact Kd.R_mono HO_30.out (fun _ hk => hk.2)⟩, ⟨hb_⟩⟩
            ·replace c21 := Bool.eq_false_iff.mpr c21
             subst c21
             have H1 : (some y498) = some r := by rw [if_neg (show ¬ (false = true) by decide)] at H; exact H
             clear H
             have H := H1
             clear H1
             obtain rfl := Option.some.inj H
             have p491 : 0 ≤ (x32_2 : Int) := of_decide_eq_true ma_
             have q491 : x32_2 < (t486.length : Int) := of_decide_eq_true ma_
             obtain ⟨ad491, e491, hx491_0⟩ := Kd.at_string (Kd.R_reads' HO_30.out).2.2 x32_2 p491 q491
             cases e491
             replace p491 := eq_true p491
             replace q491 := eq_true q491
             go_wp2_with (first | ((with_reducible refine gate_callee (f := 41) rfl ?_); refine goesL_ (some 39) rfl rfl Tryz.func41 (by kernel_rfl) rfl #[.slice A0 l0.length c0, .int .i64 x10_2] rfl sl_ ?_; (with_reducible refine (impl_textOf.calls k2 _ _ l0 x10_2 t492 true _ ?side1 ?side2 A15.out).mono ?_); (case side1 => exact kC_ (Kd.C_below HR0.out HB.out)); (case side2 => exact HC0.out); rintro e w27 ⟨rfl, hb⟩; refine ⟨_, rfl, ?_⟩; replace HO_9 := Aside0.mk (Kd.R_below (kR_ HO_9.out) hb); replace HO_30 := Aside0.mk (Kd.R_below (kR_ HO_30.out) hb); replace HB := Aside0.mk (below_step hb_ hb); (try clear hb); (try clear hk)) | ((with_reducible refine gate_callee (f := 42) rfl ?_); refine goesL_ (some 46) rfl rfl Tryz.func42 (by kernel_rfl) rfl #[.string t492] rfl sl_ ?_; (with_reducible refine (impl_ReadFolder.calls k2 t492 t494 true _ (GT_on hb_ hG) A17.out).mono ?_); rintro e w28 ⟨v496, rfl, ho0, hb⟩; refine ⟨_, rfl, ?_⟩; replace HO_9 := Aside0.mk (Kd.R_below (kR_ HO_9.out) hb); replace HO_30 := Aside0.mk (Kd.R_below (kR_ HO_30.out) hb); have HO497 := Aside0.mk (Kd.R_lower ho0 (below_size hb_)); replace HB := Aside0.mk (below_step hb_ hb); (try clear hb); (try clear hk); (try clear ho0)) | ((with_reducible refine gate_builtin (b := .append) (xs := #[.tmp 51, .tmp 53]) rfl ?_); at_builtin; refine Kd.R_append Kd.string (w0 := w) w.heap.size rfl (.tmp 51) (.tmp 53) 24 9 (.string ⟨#[]⟩) 16 rfl Tryz.underlying24 info9 rfl (by decide) (by omega) u9 x9_2 t492 [.string t492] (fun k_ => some k_ ≠ (.slice (some ad491) t486.length co11 : Value).ownBlock) (fun _ => False) rfl rfl ?aP (fun _ hk => hk.elim) ?aF ?aO ?aB ?aS ?aL ?_; (case aP => exact rfl); (case aB => exact hb_); (case aF => exact (fun k_ hk => Kd.fresh' (Kd.R_lt (kR_ HO_30.out)) k_ hk)); (case aO => exact (kR_ HO_9.out)); (case aS => exact (below_size hb_)); (case aL => have := LMc19.out; omega); intro v499 w29 ho hb hg hat; rw [← Ny498.out] at ho; have n0_ := Aside0.mk (Kd.R_after (ok := (fun _ => True)) (by (with_reducible repeat (first | apply Kd.R_alloc | apply Kd.R_drewN | apply Kd.R_drew)); exact Kd.R_mono HO_30.out (fun _ hk => ⟨trivial, hk⟩)) hg hat); have n1_ := Aside0.mk (Kd.R_over' (kR_ HO497.out) (Kd.R_typed (kR_ HO_9.out)) (by decide) hg); have n2_ := Aside0.mk (hb); have n3_ := Aside0.mk (ho); clear HO_30; clear HO497; clear HB; clear HO_9; have HO_30 := n0_; have HO497 := n1_; have HB := n2_; have HO500 := n3_; clear n0_ n1_ n2_ n3_; clear ho hb hg hat; obtain ⟨Ao30, co30, eo30⟩ := Kd.R_slice HO497.out; subst eo30) | ((with_reducible refine gate_callee (f := 43) rfl ?_); refine goesL_ (some 58) rfl rfl Tryz.func43 (by kernel_rfl) rfl #[.slice Ao30 t494.length co30, .string (rdOf ByteArray.empty t486 x32_2)] rfl sl_ ?_; (with_reducible refine (impl_printNamed.calls k2 _ _ t494 (rdOf ByteArray.empty t486 x32_2) t501 false _ ?side1 ?side2 A20.out).mono ?_); (case side1 => exact kC_ ((Kd.R_reads' HO497.out).2.2)); (case side2 => exact (Kd.R_reads' HO497.out).2.1); rintro e w31 ⟨rfl, hb⟩; refine ⟨_, rfl, ?_⟩; replace HO_30 := Aside0.mk (Kd.R_below (kR_ HO_30.out) hb); replace HO497 := Aside0.mk (Kd.R_below (kR_ HO497.out) hb); replace HO500 := Aside0.mk (Kd.R_below (kR_ HO500.out) hb); replace HB := Aside0.mk (below_step hb_ hb); (try clear hb); (try clear hk)))
             go_ret
             exact ⟨_, er_, by (with_reducible repeat (first | apply Kd.R_alloc | apply Kd.R_drewN | apply Kd.R_drew)); exact Kd.R_mono HO500.out (fun _ hk => trivial), hb_⟩
           ·rw [if_neg c19] at H
            exact absurd H (by simp)
          ·replace c18 := Bool.eq_false_iff.mpr c18
           subst c18
           have H1 : (some ([] : List ByteArray)) = some r := by rw [if_neg (show ¬ (false = true) by decide)] at H; exact H
           clear H
           have H := H1
           clear H1
           obtain rfl := Option.some.inj H
           have p491 : 0 ≤ (x32_2 : Int) := of_decide_eq_true ma_
           have q491 : x32_2 < (t486.length : Int) := of_decide_eq_true ma_
           obtain ⟨ad491, e491, hx491_0⟩ := Kd.at_string (Kd.R_reads' HO_30.out).2.2 x32_2 p491 q491
           cases e491
           replace p491 := eq_true p491
           replace q491 := eq_true q491
           go_wp2_with (first | ((with_reducible refine gate_callee (f := 41) rfl ?_); refine goesL_ (some 39) rfl rfl Tryz.func41 (by kernel_rfl) rfl #[.slice A0 l0.length c0, .int .i64 x10_2] rfl sl_ ?_; (with_reducible refine (impl_textOf.calls k2 _ _ l0 x10_2 t492 true _ ?side1 ?side2 A15.out).mono ?_); (case side1 => exact kC_ (Kd.C_below HR0.out HB.out)); (case side2 => exact HC0.out); rintro e w32 ⟨rfl, hb⟩; refine ⟨_, rfl, ?_⟩; replace HO_9 := Aside0.mk (Kd.R_below (kR_ HO_9.out) hb); replace HO_30 := Aside0.mk (Kd.R_below (kR_ HO_30.out) hb); replace HB := Aside0.mk (below_step hb_ hb); (try clear hb)) | ((with_reducible refine gate_callee (f := 42) rfl ?_); refine goesL_ (some 46) rfl rfl Tryz.func42 (by kernel_rfl) rfl #[.string t492] rfl sl_ ?_; (with_reducible refine (impl_ReadFolder.calls k2 t492 t494 false _ (GT_on hb_ hG) A17.out).mono ?_); rintro e w33 ⟨v496, rfl, ho0, hb⟩; refine ⟨_, rfl, ?_⟩; replace HO_9 := Aside0.mk (Kd.R_below (kR_ HO_9.out) hb); replace HO_30 := Aside0.mk (Kd.R_below (kR_ HO_30.out) hb); have HO497 := Aside0.mk (Kd.R_lower ho0 (below_size hb_)); replace HB := Aside0.mk (below_step hb_ hb); (try clear hb); (try clear ho0)))
           go_ret
           exact ⟨_, er_, by first | exact Kd.R_nil _ _ _ _ _ | exact Kd.N_nil _ _ _ _ _ | exact Kd.V_nil _ _ _ _ _ | exact Kd.Q_nil _ _ _ _ _ | exact Kd.S_nil _ _ _ _ _, hb_⟩
         ·replace c16 := Bool.eq_false_iff.mpr c16
          subst c16
          have H1 : (some ([] : List ByteArray)) = some r := by rw [if_neg (show ¬ (false = true) by decide)] at H; exact H
          clear H
          have H := H1
          clear H1
          obtain rfl := Option.some.inj H
          have p491 : 0 ≤ (x32_2 : Int) := of_decide_eq_true ma_
          have q491 : x32_2 < (t486.length : Int) := of_decide_eq_true ma_
          obtain ⟨ad491, e491, hx491_0⟩ := Kd.at_string (Kd.R_reads' HO_30.out).2.2 x32_2 p491 q491
          cases e491
          replace p491 := eq_true p491
          replace q491 := eq_true q491
          go_wp2_with (first | ((with_reducible refine gate_callee (f := 41) rfl ?_); refine goesL_ (some 39) rfl rfl Tryz.func41 (by kernel_rfl) rfl #[.slice A0 l0.length c0, .int .i64 x10_2] rfl sl_ ?_; (with_reducible refine (impl_textOf.calls k2 _ _ l0 x10_2 t492 false _ ?side1 ?side2 A15.out).mono ?_); (case side1 => exact kC_ (Kd.C_below HR0.out HB.out)); (case side2 => exact HC0.out); rintro e w34 ⟨rfl, hb⟩; refine ⟨_, rfl, ?_⟩; replace HO_9 := Aside0.mk (Kd.R_below (kR_ HO_9.out) hb); replace HO_30 := Aside0.mk (Kd.R_below (kR_ HO_30.out) hb); replace HB := Aside0.mk (below_step hb_ hb); (try clear hb)))
          go_ret
          exact ⟨_, er_, by first | exact Kd.R_nil _ _ _ _ _ | exact Kd.N_nil _ _ _ _ _ | exact Kd.V_nil _ _ _ _ _ | exact Kd.Q_nil _ _ _ _ _ | exact Kd.S_nil _ _ _ _ _, hb_⟩
        ·rw [if_neg c14] at H
         exact absurd H (by simp)
       ·rw [if_neg c13] at H
        exact absurd H (by simp)
      ·rw [if_neg c12] at H
       have c12b0 : decide (x32_2 < (t486.length : Int)) = false := decide_eq_false c12
       clear c12
       obtain rfl := Option.some.inj H
       go_wp2
       go_ret
       exact ⟨_, er_, by first | exact Kd.R_nil _ _ _ _ _ | exact Kd.N_nil _ _ _ _ _ | exact Kd.V_nil _ _ _ _ _ | exact Kd.Q_nil _ _ _ _ _ | exact Kd.S_nil _ _ _ _ _, hb_⟩
/-! ### laws_FnExactAbsenceProof: function 4 -/
def laws_FnExactAbsenceProof.j0 : Nat → List (S42) → Int → ByteArray → List ByteArray → List ByteArray → Bool → Option (Bool)
 | 0, _, _, _, _, _, _ => none
 | k + 1, x0, x1, x2, x8, x10, x53 => if x53 = true then (some false) else ((laws_markStringS.f k x10 1).bind fun bt524 => ((laws_heldStringS.f k bt524.2 1).bind fun t526 => (if t526 < 0 then (some false) else (if t526 = bt524.1 then ((laws_toPieceS.f k x0).bind fun t527 => ((impl_AbsenceProof.f k t527 x1 x2).bind fun t530 => ((laws_eqStringS.f k t530 x8).bind fun t533 => (if t533 = true then ((laws_heldStringS.f k bt524.2 1).bind fun t534 => (if t534 < 0 then (some false) else (if t534 = bt524.1 then (some true) else (some false)))) else (some false))))) else (some false)))))
def laws_FnExactAbsenceProof.f (k : Nat) (l0 : List (S42)) (a1 : Int) (a2 : ByteArray) : Option (Bool) := if (a2.size : Int) > 1048576 then (some true) else ((laws_szPieceS.f k l0 1048576).bind fun t503 => (if t503 < 0 then (some true) else ((laws_toPieceS.f k l0).bind fun t504 => ((spec_AbsenceProof.f k t504 a1 a2).bind fun t507 => ((laws_toPieceS.f k l0).bind fun t510 => ((impl_AbsenceProof.f k t510 a1 a2).bind fun t513 => ((laws_eqStringS.f k t513 t507).bind fun t516 => (if t516 = true then ((laws_toPieceS.f k l0).bind fun t517 => ((laws_eqPieceS.f k t510 t517).bind fun t520 => (if t520 = true then ((laws_markPieceS.f k t510 1).bind fun bt521 => (if bt521.1 < 0 then (laws_FnExactAbsenceProof.j0 k l0 a1 a2 t507 t513 true) else ((laws_eqStringS.f k t513 t507).bind fun t523 => (laws_FnExactAbsenceProof.j0 k l0 a1 a2 t507 t513 (!t523))))) else (some false)))) else (some false)))))))))
theorem laws_FnExactAbsenceProof.mono_l : ∀ k, (∀ y0 y1 y2 y3 y4 y5, LeO (laws_FnExactAbsenceProof.j0 k y0 y1 y2 y3 y4 y5) (laws_FnExactAbsenceProof.j0 (k + 1) y0 y1 y2 y3 y4 y5))
 | 0 => fun _ _ _ _ _ _ r h => by simp [laws_FnExactAbsenceProof.j0] at h
 | k + 1 => by
  have ih0 := laws_FnExactAbsenceProof.mono_l k
  ·intro y0 y1 y2 y3 y4 y5
   unfold laws_FnExactAbsenceProof.j0
   repeat' first
   | (with_reducible exact ih0 _ _ _ _ _ _)
   | (with_reducible exact impl_AbsenceProof.mono _ _ _ _)
   | (with_reducible exact laws_eqPieceS.mono _ _ _)
   | (with_reducible exact laws_eqStringS.mono _ _ _)
   | (with_reducible exact laws_heldStringS.mono _ _ _)
   | (with_reducible exact laws_markPieceS.mono _ _ _)
   | (with_reducible exact laws_markStringS.mono _ _ _)
   | (with_reducible exact laws_szPieceS.mono _ _ _)
   | (with_reducible exact laws_toPieceS.mono _ _)
   | (with_reducible exact spec_AbsenceProof.mono _ _ _ _)
   | (with_reducible exact LeO.refl _)
   | (with_reducible exact LeO.none _)
   | (with_reducible refine LeO.ite ?_ ?_)
   | (with_reducible refine LeO.bind ?_ (fun _ => ?_))
   | exact ih0 _ _ _ _ _ _
   | exact impl_AbsenceProof.mono _ _ _ _
   | exact laws_eqPieceS.mono _ _ _
   | exact laws_eqStringS.mono _ _ _
   | exact laws_heldStringS.mono _ _ _
   | exact laws_markPieceS.mono _ _ _
   | exact laws_markStringS.mono _ _ _
   | exact laws_szPieceS.mono _ _ _
   | exact laws_toPieceS.mono _ _
   | exact spec_AbsenceProof.mono _ _ _ _
   | exact LeO.none _
   | refine LeO.ite ?_ ?_
   | refine LeO.bind ?_ (fun _ => ?_)
theorem laws_FnExactAbsenceProof.mono : ∀ a0 a1 a2 k, LeO (laws_FnExactAbsenceProof.f k a0 a1 a2) (laws_FnExactAbsenceProof.f (k + 1) a0 a1 a2) := by
 intro a0 a1 a2 k
 have ih0 := laws_FnExactAbsenceProof.mono_l k
 unfold laws_FnExactAbsenceProof.f
 repeat' first
   | (with_reducible exact ih0 _ _ _ _ _ _)
   | (with_reducible exact impl_AbsenceProof.mono _ _ _ _)
   | (with_reducible exact laws_eqPieceS.mono _ _ _)
   | (with_reducible exact laws_eqStringS.mono _ _ _)
   | (with_reducible exact laws_heldStringS.mono _ _ _)
   | (with_reducible exact laws_markPieceS.mono _ _ _)
   | (with_reducible exact laws_markStringS.mono _ _ _)
   | (with_reducible exact laws_szPieceS.mono _ _ _)
   | (with_reducible exact laws_toPieceS.mono _ _)
   | (with_reducible exact spec_AbsenceProof.mono _ _ _ _)
   | (with_reducible exact LeO.refl _)
   | (with_reducible exact LeO.none _)
   | (with_reducible refine LeO.ite ?_ ?_)
   | (with_reducible refine LeO.bind ?_ (fun _ => ?_))
   | exact ih0 _ _ _ _ _ _
   | exact impl_AbsenceProof.mono _ _ _ _
   | exact laws_eqPieceS.mono _ _ _
   | exact laws_eqStringS.mono _ _ _
   | exact laws_heldStringS.mono _ _ _
   | exact laws_markPieceS.mono _ _ _
   | exact laws_markStringS.mono _ _ _
   | exact laws_szPieceS.mono _ _ _
   | exact laws_toPieceS.mono _ _
   | exact spec_AbsenceProof.mono _ _ _ _
   | exact LeO.none _
   | refine LeO.ite ?_ ?_
   | refine LeO.bind ?_ (fun _ => ?_)
set_option maxHeartbeats 8000000 in
set_option maxRecDepth 100000 in
theorem laws_FnExactAbsenceProof.calls (k : Nat) (A0 : Option Addr) (c0 : Nat) (l0 : List (S42)) (a1 : Int) (a2 : ByteArray) (r : Bool) (w : World) (hr0 : Kd.C k42 w A0 l0.length l0) (hc0 : l0.length ≤ c0) (hG : GT w) (h : laws_FnExactAbsenceProof.f k l0 a1 a2 = some r) (hrt : r = true) :
  Calls Tryz.prog 4 #[.slice A0 l0.length c0, .int .i64 a1, .string a2] w fun e w' => e = .returned (.bool r) ∧ Below w.heap.size w w' := by
 have HR0 := Aside0.mk hr0
 have HC0 := Aside0.mk hc0
 clear hr0 hc0
 have HB := Aside0.mk (Below.refl w.heap.size w)
 have H : (if (a2.size : Int) > 1048576 then (some true) else ((laws_szPieceS.f k l0 1048576).bind fun t503 => (if t503 < 0 then (some true) else ((laws_toPieceS.f k l0).bind fun t504 => ((spec_AbsenceProof.f k t504 a1 a2).bind fun t507 => ((laws_toPieceS.f k l0).bind fun t510 => ((impl_AbsenceProof.f k t510 a1 a2).bind fun t513 => ((laws_eqStringS.f k t513 t507).bind fun t516 => (if t516 = true then ((laws_toPieceS.f k l0).bind fun t517 => ((laws_eqPieceS.f k t510 t517).bind fun t520 => (if t520 = true then ((laws_markPieceS.f k t510 1).bind fun bt521 => (if bt521.1 < 0 then (laws_FnExactAbsenceProof.j0 k l0 a1 a2 t507 t513 true) else ((laws_eqStringS.f k t513 t507).bind fun t523 => (laws_FnExactAbsenceProof.j0 k l0 a1 a2 t507 t513 (!t523))))) else (some false)))) else (some false)))))))))) = some r := h
 clear h
 by_cases c4 : (a2.size : Int) > 1048576
 ·rw [if_pos c4] at H
  have c4b0 : decide (1048576 < (a2.size : Int)) = true := decide_eq_true c4
  have c4b1 : decide (1048576 < a2.size) = true := decide_eq_true (by omega)
  clear c4
  obtain rfl := Option.some.inj H
  go_enter Tryz.func4, Tryz.ntmps4
  go_wp2
  go_ret
  exact ⟨er_, hb_⟩
 ·rw [if_neg c4] at H
  have c4b0 : decide (1048576 < (a2.size : Int)) = false := decide_eq_false c4
  have c4b1 : decide (1048576 < a2.size) = false := decide_eq_false (by omega)
  clear c4
  replace H := Option.bind_eq_some_iff.mp H
  obtain ⟨t503, A50, H⟩ := H
  replace H : (if t503 < 0 then (some true) else ((laws_toPieceS.f k l0).bind fun t504 => ((spec_AbsenceProof.f k t504 a1 a2).bind fun t507 => ((laws_toPieceS.f k l0).bind fun t510 => ((impl_AbsenceProof.f k t510 a1 a2).bind fun t513 => ((laws_eqStringS.f k t513 t507).bind fun t516 => (if t516 = true then ((laws_toPieceS.f k l0).bind fun t517 => ((laws_eqPieceS.f k t510 t517).bind fun t520 => (if t520 = true then ((laws_markPieceS.f k t510 1).bind fun bt521 => (if bt521.1 < 0 then (laws_FnExactAbsenceProof.j0 k l0 a1 a2 t507 t513 true) else ((laws_eqStringS.f k t513 t507).bind fun t523 => (laws_FnExactAbsenceProof.j0 k l0 a1 a2 t507 t513 (!t523))))) else (some false)))) else (some false)))))))) = some r := H
  have A5 := Aside0.mk A50
  clear A50
  by_cases c6 : t503 < 0
  ·rw [if_pos c6] at H
   have c6b0 : decide (t503 < 0) = true := decide_eq_true c6
   clear c6
   obtain rfl := Option.some.inj H
   go_enter Tryz.func4, Tryz.ntmps4
   go_wp2_with (first | ((with_reducible refine gate_callee (f := 8) rfl ?_); refine goesL_ (some 20) rfl rfl Tryz.func8 (by kernel_rfl) rfl #[.slice A0 l0.length c0, .int .i64 1048576] rfl sl_ ?_; (with_reducible refine (laws_szPieceS.calls k _ _ l0 1048576 t503 _ ?side1 ?side2 A5.out).mono ?_); (case side1 => exact kC_ HR0.out); (case side2 => exact HC0.out); rintro e w7 ⟨rfl, hb⟩; refine ⟨_, rfl, ?_⟩; replace HB := Aside0.mk (below_step hb_ hb); (try clear hb)))
   go_ret
   exact ⟨er_, hb_⟩
  ·rw [if_neg c6] at H
   have c6b0 : decide (t503 < 0) = false := decide_eq_false c6
   clear c6
   replace H := Option.bind_eq_some_iff.mp H
   obtain ⟨t504, A80, H⟩ := H
   replace H : ((spec_AbsenceProof.f k t504 a1 a2).bind fun t507 => ((laws_toPieceS.f k l0).bind fun t510 => ((impl_AbsenceProof.f k t510 a1 a2).bind fun t513 => ((laws_eqStringS.f k t513 t507).bind fun t516 => (if t516 = true then ((laws_toPieceS.f k l0).bind fun t517 => ((laws_eqPieceS.f k t510 t517).bind fun t520 => (if t520 = true then ((laws_markPieceS.f k t510 1).bind fun bt521 => (if bt521.1 < 0 then (laws_FnExactAbsenceProof.j0 k l0 a1 a2 t507 t513 true) else ((laws_eqStringS.f k t513 t507).bind fun t523 => (laws_FnExactAbsenceProof.j0 k l0 a1 a2 t507 t513 (!t523))))) else (some false)))) else (some false)))))) = some r := H
   have A8 := Aside0.mk A80
   clear A80
   replace H := Option.bind_eq_some_iff.mp H
   obtain ⟨t507, A90, H⟩ := H
   replace H : ((laws_toPieceS.f k l0).bind fun t510 => ((impl_AbsenceProof.f k t510 a1 a2).bind fun t513 => ((laws_eqStringS.f k t513 t507).bind fun t516 => (if t516 = true then ((laws_toPieceS.f k l0).bind fun t517 => ((laws_eqPieceS.f k t510 t517).bind fun t520 => (if t520 = true then ((laws_markPieceS.f k t510 1).bind fun bt521 => (if bt521.1 < 0 then (laws_FnExactAbsenceProof.j0 k l0 a1 a2 t507 t513 true) else ((laws_eqStringS.f k t513 t507).bind fun t523 => (laws_FnExactAbsenceProof.j0 k l0 a1 a2 t507 t513 (!t523))))) else (some false)))) else (some false))))) = some r := H
   have A9 := Aside0.mk A90
   clear A90
   replace H := Option.bind_eq_some_iff.mp H
   obtain ⟨t510, A100, H⟩ := H
   replace H : ((impl_AbsenceProof.f k t510 a1 a2).bind fun t513 => ((laws_eqStringS.f k t513 t507).bind fun t516 => (if t516 = true then ((laws_toPieceS.f k l0).bind fun t517 => ((laws_eqPieceS.f k t510 t517).bind fun t520 => (if t520 = true then ((laws_markPieceS.f k t510 1).bind fun bt521 => (if bt521.1 < 0 then (laws_FnExactAbsenceProof.j0 k l0 a1 a2 t507 t513 true) else ((laws_eqStringS.f k t513 t507).bind fun t523 => (laws_FnExactAbsenceProof.j0 k l0 a1 a2 t507 t513 (!t523))))) else (some false)))) else (some false)))) = some r := H
   have A10 := Aside0.mk A100
   clear A100
   replace H := Option.bind_eq_some_iff.mp H
   obtain ⟨t513, A110, H⟩ := H
   replace H : ((laws_eqStringS.f k t513 t507).bind fun t516 => (if t516 = true then ((laws_toPieceS.f k l0).bind fun t517 => ((laws_eqPieceS.f k t510 t517).bind fun t520 => (if t520 = true then ((laws_markPieceS.f k t510 1).bind fun bt521 => (if bt521.1 < 0 then (laws_FnExactAbsenceProof.j0 k l0 a1 a2 t507 t513 true) else ((laws_eqStringS.f k t513 t507).bind fun t523 => (laws_FnExactAbsenceProof.j0 k l0 a1 a2 t507 t513 (!t523))))) else (some false)))) else (some false))) = some r := H
   have A11 := Aside0.mk A110
   clear A110
   replace H := Option.bind_eq_some_iff.mp H
   obtain ⟨t516, A120, H⟩ := H
   replace H : (if t516 = true then ((laws_toPieceS.f k l0).bind fun t517 => ((laws_eqPieceS.f k t510 t517).bind fun t520 => (if t520 = true then ((laws_markPieceS.f k t510 1).bind fun bt521 => (if bt521.1 < 0 then (laws_FnExactAbsenceProof.j0 k l0 a1 a2 t507 t513 true) else ((laws_eqStringS.f k t513 t507).bind fun t523 => (laws_FnExactAbsenceProof.j0 k l0 a1 a2 t507 t513 (!t523))))) else (some false)))) else (some false)) = some r := H
   have A12 := Aside0.mk A120
   clear A120
   by_cases c13 : t516 = true
   ·subst c13
    have H1 : ((laws_toPieceS.f k l0).bind fun t517 => ((laws_eqPieceS.f k t510 t517).bind fun t520 => (if t520 = true then ((laws_markPieceS.f k t510 1).bind fun bt521 => (if bt521.1 < 0 then (laws_FnExactAbsenceProof.j0 k l0 a1 a2 t507 t513 true) else ((laws_eqStringS.f k t513 t507).bind fun t523 => (laws_FnExactAbsenceProof.j0 k l0 a1 a2 t507 t513 (!t523))))) else (some false)))) = some r := by rw [if_pos rfl] at H; exact H
    clear H
    have H := H1
    clear H1
    replace H := Option.bind_eq_some_iff.mp H
    obtain ⟨t517, A140, H⟩ := H
    replace H : ((laws_eqPieceS.f k t510 t517).bind fun t520 => (if t520 = true then ((laws_markPieceS.f k t510 1).bind fun bt521 => (if bt521.1 < 0 then (laws_FnExactAbsenceProof.j0 k l0 a1 a2 t507 t513 true) else ((laws_eqStringS.f k t513 t507).bind fun t523 => (laws_FnExactAbsenceProof.j0 k l0 a1 a2 t507 t513 (!t523))))) else (some false))) = some r := H
    have A14 := Aside0.mk A140
    clear A140
    replace H := Option.bind_eq_some_iff.mp H
    obtain ⟨t520, A150, H⟩ := H
    replace H : (if t520 = true then ((laws_markPieceS.f k t510 1).bind fun bt521 => (if bt521.1 < 0 then (laws_FnExactAbsenceProof.j0 k l0 a1 a2 t507 t513 true) else ((laws_eqStringS.f k t513 t507).bind fun t523 => (laws_FnExactAbsenceProof.j0 k l0 a1 a2 t507 t513 (!t523))))) else (some false)) = some r := H
    have A15 := Aside0.mk A150
    clear A150
    by_cases c16 : t520 = true
    ·subst c16
     have H1 : ((laws_markPieceS.f k t510 1).bind fun bt521 => (if bt521.1 < 0 then (laws_FnExactAbsenceProof.j0 k l0 a1 a2 t507 t513 true) else ((laws_eqStringS.f k t513 t507).bind fun t523 => (laws_FnExactAbsenceProof.j0 k l0 a1 a2 t507 t513 (!t523))))) = some r := by rw [if_pos rfl] at H; exact H
     clear H
     have H := H1
     clear H1
     replace H := Option.bind_eq_some_iff.mp H
     obtain ⟨⟨t521, t522⟩, A170, H⟩ := H
     replace H : (if t521 < 0 then (laws_FnExactAbsenceProof.j0 k l0 a1 a2 t507 t513 true) else ((laws_eqStringS.f k t513 t507).bind fun t523 => (laws_FnExactAbsenceProof.j0 k l0 a1 a2 t507 t513 (!t523)))) = some r := H
     have A17 := Aside0.mk A170
     clear A170
     have HC18 := Aside0.mk H
     clear H
     go_enter Tryz.func4, Tryz.ntmps4
     go_upto_region 16 with (first | ((with_reducible refine gate_callee (f := 8) rfl ?_); refine goesL_ (some 20) rfl rfl Tryz.func8 (by kernel_rfl) rfl #[.slice A0 l0.length c0, .int .i64 1048576] rfl sl_ ?_; (with_reducible refine (laws_szPieceS.calls k _ _ l0 1048576 t503 _ ?side1 ?side2 A5.out).mono ?_); (case side1 => exact kC_ HR0.out); (case side2 => exact HC0.out); rintro e w19 ⟨rfl, hb⟩; refine ⟨_, rfl, ?_⟩; replace HB := Aside0.mk (below_step hb_ hb); (try clear hb)) | ((with_reducible refine gate_callee (f := 10) rfl ?_); refine goesL_ (some 24) rfl rfl Tryz.func10 (by kernel_rfl) rfl #[.slice A0 l0.length c0] rfl sl_ ?_; (with_reducible refine (laws_toPieceS.calls k _ _ l0 t504 _ ?side1 ?side2 A8.out).mono ?_); (case side1 => exact kC_ (Kd.C_below HR0.out HB.out)); (case side2 => exact HC0.out); rintro e w20 ⟨v505, rfl, ho0, hb⟩; refine ⟨_, rfl, ?_⟩; have HO506 := Aside0.mk (Kd.R_lower ho0 (below_size hb_)); replace HB := Aside0.mk (below_step hb_ hb); (try clear hb); (try clear ho0); obtain ⟨Ao21, co21, eo21⟩ := Kd.R_slice HO506.out; subst eo21) | ((with_reducible refine gate_callee (f := 17) rfl ?_); refine goesL_ (some 27) rfl rfl Tryz.func17 (by kernel_rfl) rfl #[.slice Ao21 t504.length co21, .int .i64 a1, .string a2] rfl sl_ ?_; (with_reducible refine (spec_AbsenceProof.calls k _ _ t504 a1 a2 t507 _ ?side1 ?side2 A9.out).mono ?_); (case side1 => exact kC_ ((Kd.R_reads' HO506.out).2.2)); (case side2 => exact (Kd.R_reads' HO506.out).2.1); rintro e w22 ⟨v508, rfl, ho0, hb⟩; refine ⟨_, rfl, ?_⟩; replace HO506 := Aside0.mk (Kd.R_below (kR_ HO506.out) hb); have HO509 := Aside0.mk (Kd.R_lower ho0 (below_size hb_)); replace HB := Aside0.mk (below_step hb_ hb); (try clear hb); (try clear ho0)) | ((with_reducible refine gate_callee (f := 10) rfl ?_); refine goesL_ (some 29) rfl rfl Tryz.func10 (by kernel_rfl) rfl #[.slice A0 l0.length c0] rfl sl_ ?_; (with_reducible refine (laws_toPieceS.calls k _ _ l0 t510 _ ?side1 ?side2 A10.out).mono ?_); (case side1 => exact kC_ (Kd.C_below HR0.out HB.out)); (case side2 => exact HC0.out); rintro e w23 ⟨v511, rfl, ho0, hb⟩; refine ⟨_, rfl, ?_⟩; replace HO509 := Aside0.mk (Kd.R_below (kR_ HO509.out) hb); have HO512 := Aside0.mk (Kd.R_lower (Kd.R_new' ho0 (Kd.R_lt (kR_ HO506.out))) (below_size hb_)); replace HO506 := Aside0.mk (Kd.R_elder' (kR_ HO506.out) (Kd.R_base ho0) hb); replace HB := Aside0.mk (below_step hb_ hb); (try clear hb); (try clear ho0); obtain ⟨Ao24, co24, eo24⟩ := Kd.R_slice HO512.out; subst eo24) | ((with_reducible refine gate_callee (f := 18) rfl ?_); refine goesL_ (some 33) rfl rfl Tryz.func18 (by kernel_rfl) rfl #[.slice Ao24 t510.length co24, .int .i64 a1, .string a2] rfl sl_ ?_; (with_reducible refine (impl_AbsenceProof.calls k _ _ t510 a1 a2 t513 _ ?side1 ?side2 (GT_on hb_ hG) A11.out).mono ?_); (case side1 => exact kC_ ((Kd.R_reads' HO512.out).2.2)); (case side2 => exact (Kd.R_reads' HO512.out).2.1); rintro e w25 ⟨v514, rfl, ho0, hb⟩; refine ⟨_, rfl, ?_⟩; replace HO506 := Aside0.mk (Kd.R_below (kR_ HO506.out) hb); replace HO512 := Aside0.mk (Kd.R_below (kR_ HO512.out) hb); have HO515 := Aside0.mk (Kd.R_lower (Kd.R_new' ho0 (Kd.R_lt (kR_ HO509.out))) (below_size hb_)); replace HO509 := Aside0.mk (Kd.R_elder' (kR_ HO509.out) (Kd.R_base ho0) hb); replace HB := Aside0.mk (below_step hb_ hb); (try clear hb); (try clear ho0); obtain ⟨Ao26, co26, eo26⟩ := Kd.R_slice HO515.out; subst eo26; obtain ⟨Ao27, co27, eo27⟩ := Kd.R_slice HO509.out; subst eo27) | ((with_reducible refine gate_callee (f := 12) rfl ?_); refine goesL_ (some 36) rfl rfl Tryz.func12 (by kernel_rfl) rfl #[.slice Ao26 t513.length co26, .slice Ao27 t507.length co27] rfl sl_ ?_; (with_reducible refine (laws_eqStringS.calls k _ _ t513 _ _ t507 true _ ?side1 ?side2 ?side3 ?side4 A12.out).mono ?_); (case side1 => exact kC_ ((Kd.R_reads' HO515.out).2.2)); (case side2 => exact (Kd.R_reads' HO515.out).2.1); (case side3 => exact kC_ ((Kd.R_reads' HO509.out).2.2)); (case side4 => exact (Kd.R_reads' HO509.out).2.1); rintro e w' ⟨rfl, ⟨nd, rfl⟩⟩; refine ⟨_, rfl, ?_⟩) | ((with_reducible refine gate_callee (f := 10) rfl ?_); refine goesL_ (some 40) rfl rfl Tryz.func10 (by kernel_rfl) rfl #[.slice A0 l0.length c0] rfl sl_ ?_; (with_reducible refine (laws_toPieceS.calls k _ _ l0 t517 _ ?side1 ?side2 A14.out).mono ?_); (case side1 => exact kC_ (Kd.C_below HR0.out hb_)); (case side2 => exact HC0.out); rintro e w28 ⟨v518, rfl, ho0, hb⟩; refine ⟨_, rfl, ?_⟩; replace HO509 := Aside0.mk (Kd.R_below (kR_ HO509.out) hb); replace HO515 := Aside0.mk (Kd.R_below (kR_ HO515.out) hb); have HO519 := Aside0.mk (Kd.R_lower (Kd.R_new' (Kd.R_new' ho0 (Kd.R_lt (kR_ HO506.out))) (Kd.R_lt (kR_ HO512.out))) (below_size hb_)); replace HO506 := Aside0.mk (Kd.R_elder' (kR_ HO506.out) (Kd.R_base ho0) hb); replace HO512 := Aside0.mk (Kd.R_elder' (kR_ HO512.out) (Kd.R_base ho0) hb); replace HB := Aside0.mk (below_step hb_ hb); (try clear hb); (try clear ho0); obtain ⟨Ao29, co29, eo29⟩ := Kd.R_slice HO519.out; subst eo29) | ((with_reducible refine gate_callee (f := 13) rfl ?_); refine goesL_ (some 41) rfl rfl Tryz.func13 (by kernel_rfl) rfl #[.slice Ao24 t510.length co24, .slice Ao29 t517.length co29] rfl sl_ ?_; (with_reducible refine (laws_eqPieceS.calls k _ _ t510 _ _ t517 true _ ?side1 ?side2 ?side3 ?side4 A15.out).mono ?_); (case side1 => exact kC_ ((Kd.R_reads' HO512.out).2.2)); (case side2 => exact (Kd.R_reads' HO512.out).2.1); (case side3 => exact kC_ ((Kd.R_reads' HO519.out).2.2)); (case side4 => exact (Kd.R_reads' HO519.out).2.1); rintro e w30 ⟨rfl, hb⟩; refine ⟨_, rfl, ?_⟩; replace HO506 := Aside0.mk (Kd.R_below (kR_ HO506.out) hb); replace HO509 := Aside0.mk (Kd.R_below (kR_ HO509.out) hb); replace HO512 := Aside0.mk (Kd.R_below (kR_ HO512.out) hb); replace HO515 := Aside0.mk (Kd.R_below (kR_ HO515.out) hb); replace HO519 := Aside0.mk (Kd.R_below (kR_ HO519.out) hb); replace HB := Aside0.mk (below_step hb_ hb); (try clear hb)) | ((with_reducible refine gate_callee (f := 14) rfl ?_); refine goesL_ (some 45) rfl rfl Tryz.func14 (by kernel_rfl) rfl #[.slice Ao24 t510.length co24, .int .i64 1] rfl sl_ ?_; (with_reducible refine (laws_markPieceS.calls k (fun k_ => some k_ = (.slice Ao24 t510.length co24 : Value).ownBlock) (.slice Ao24 t510.length co24) t510 1 t521 t522 w _ ?side1 ?side2 A17.out).mono ?_); (case side1 => repeat (first | (with_reducible first | exact HB.out | apply below_alloc | apply pw_below_drewN | apply below_drew1) | exact HB.out)); (case side2 => exact Kd.R_tight rfl HO512.out); rintro e w31 ⟨rfl, hy0, hb, hkp⟩; refine ⟨_, rfl, ?_⟩; replace HO506 := Aside0.mk (Kd.R_mono (ok' := fun k_ => some k_ ≠ (.slice Ao24 t510.length co24 : Value).ownBlock ∧ some k_ ≠ (.slice Ao29 t517.length co29 : Value).ownBlock) (Kd.R_keptB (HO506.out) hkp (fun k_ hk_ hs_ => (hk_.1.2) hs_)) (fun k_ hk_ => ⟨hk_.1.1.2, hk_.1.2⟩)); replace HO509 := Aside0.mk (Kd.R_mono (ok' := fun k_ => some k_ ≠ (.slice Ao26 t513.length co26 : Value).ownBlock) (Kd.R_keptB ((Kd.R_apart' HO509.out (Kd.R_typed HO512.out) (by decide))) hkp (fun k_ hk_ hs_ => (hk_.2) hs_)) (fun k_ hk_ => hk_.1.1.2)); replace HO515 := Aside0.mk (Kd.R_mono (ok' := fun k_ => some k_ ≠ (.slice Ao27 t507.length co27 : Value).ownBlock) (Kd.R_keptB ((Kd.R_apart' HO515.out (Kd.R_typed HO512.out) (by decide))) hkp (fun k_ hk_ hs_ => (hk_.2) hs_)) (fun k_ hk_ => hk_.1.1.2)); replace HO512 := Aside0.mk (Kd.R_reok rfl hy0 (fun k_ e_ => HO512.out.1 k_ e_)); replace HO519 := Aside0.mk (Kd.R_mono (ok' := fun k_ => some k_ ≠ (.slice Ao21 t504.length co21 : Value).ownBlock ∧ some k_ ≠ (.slice Ao24 t510.length co24 : Value).ownBlock) (Kd.R_keptB (HO519.out) hkp (fun k_ hk_ hs_ => (hk_.2) hs_)) (fun k_ hk_ => ⟨hk_.1.1.2, hk_.1.2⟩)); replace HB := Aside0.mk (hb); (try clear hb); (try clear hkp); (try clear hy0)))
     (try simp only [Act.put, List.setIfInBounds_toArray, List.set_cons_zero, List.set_cons_succ])
     go_cut [53] (fun v53 wc => ∃ (kq : Nat) (x53_17 : Bool), v53 = .bool x53_17 ∧ Aside0 (laws_FnExactAbsenceProof.j0 kq l0 a1 a2 t507 t513 x53_17 = some r) ∧ Aside0 (kq ≤ k) ∧ Aside0 (Kd.R Kd.string 9 wc w.heap.size (fun k_ => some k_ ≠ ((.slice Ao26 t513.length co26) : Value).ownBlock) (.slice Ao27 t507.length co27) t507) ∧ Aside0 (Kd.R Kd.string 9 wc w.heap.size (fun k_ => some k_ ≠ ((.slice Ao27 t507.length co27) : Value).ownBlock) (.slice Ao26 t513.length co26) t513) ∧ Aside0 (Below w.heap.size w wc))
     case first =>
      have H := HC18.out
      clear HC18
      by_cases c32 : t521 < 0
      ·rw [if_pos c32] at H
       have c32b0 : decide (t521 < 0) = true := decide_eq_true c32
       clear c32
       (first | rw [c32b0] | (simp only [i64_w, i32_w]; rw [c32b0]) | skip)
       have H' := Aside0.mk H
       clear H
       go_wp2
       go_meet
       case rel => exact ⟨_, (true), (by first | rfl | (simp; done) | (simp [*]; done)), H', ⟨by first | omega | exact Nat.le_refl _⟩, ⟨by (with_reducible repeat (first | apply Kd.R_alloc | apply Kd.R_drewN | apply Kd.R_drew)); exact HO509.out⟩, ⟨by (with_reducible repeat (first | apply Kd.R_alloc | apply Kd.R_drewN | apply Kd.R_drew)); exact HO515.out⟩, ⟨hb_⟩⟩
      ·rw [if_neg c32] at H
       have c32b0 : decide (t521 < 0) = false := decide_eq_false c32
       clear c32
       (first | rw [c32b0] | (simp only [i64_w, i32_w]; rw [c32b0]) | skip)
       replace H := Option.bind_eq_some_iff.mp H
       obtain ⟨t523, A330, H⟩ := H
       replace H : (laws_FnExactAbsenceProof.j0 k l0 a1 a2 t507 t513 (!t523)) = some r := H
       have A33 := Aside0.mk A330
       clear A330
       have H' := Aside0.mk H
       clear H
       go_wp2_with (first | (go_at_call 12; (with_reducible refine (laws_eqStringS.calls k _ _ t513 _ _ t507 t523 _ ?side1 ?side2 ?side3 ?side4 A33.out).mono ?_); (case side1 => exact kC_ ((Kd.R_reads' HO515.out).2.2)); (case side2 => exact (Kd.R_reads' HO515.out).2.1); (case side3 => exact kC_ ((Kd.R_reads' HO509.out).2.2)); (case side4 => exact (Kd.R_reads' HO509.out).2.1); rintro e w' ⟨rfl, ⟨nd, rfl⟩⟩))
       go_meet
       case rel => exact ⟨_, (!t523), (by first | rfl | (simp; done) | (simp [*]; done)), H', ⟨by first | omega | exact Nat.le_refl _⟩, ⟨by (with_reducible repeat (first | apply Kd.R_alloc | apply Kd.R_drewN | apply Kd.R_drew)); exact HO509.out⟩, ⟨by (with_reducible repeat (first | apply Kd.R_alloc | apply Kd.R_drewN | apply Kd.R_drew)); exact HO515.out⟩, ⟨hb_⟩⟩
     case rest =>
      clear HC18
      try clear c1
      try clear p2
      try clear c3
      try clear c4
      try clear c4b0
      try clear c4b1
      try clear c6
      try clear c6b0
      try clear c8
      try clear c10
      try clear c12
      try clear c13
      try clear c14
      try clear c16
      try clear c17
      try clear c18
      try clear c32
      try clear c32b0
      obtain ⟨kq, x53_17, rfl, HA, HJ17, HO_8, HO_10, HB⟩ := hcut
      cases kq with
      | zero => exact absurd HA.out (by simp [laws_FnExactAbsenceProof.j0])
      | succ kj17 =>
       have H := HA.out
       clear HA
       simp only [laws_FnExactAbsenceProof.j0] at H
       by_cases c34 : x53_17 = true
       ·subst c34
        have H1 : (some false) = some r := by rw [if_pos rfl] at H; exact H
        clear H
        have H := H1
        clear H1
        exact absurd H (by subst hrt; decide)
       ·replace c34 := Bool.eq_false_iff.mpr c34
        subst c34
        have H1 : ((laws_markStringS.f kj17 t513 1).bind fun bt524 => ((laws_heldStringS.f kj17 bt524.2 1).bind fun t526 => (if t526 < 0 then (some false) else (if t526 = bt524.1 then ((laws_toPieceS.f kj17 l0).bind fun t527 => ((impl_AbsenceProof.f kj17 t527 a1 a2).bind fun t530 => ((laws_eqStringS.f kj17 t530 t507).bind fun t533 => (if t533 = true then ((laws_heldStringS.f kj17 bt524.2 1).bind fun t534 => (if t534 < 0 then (some false) else (if t534 = bt524.1 then (some true) else (some false)))) else (some false))))) else (some false))))) = some r := by rw [if_neg (show ¬ (false = true) by decide)] at H; exact H
        clear H
        have H := H1
        clear H1
        replace H := Option.bind_eq_some_iff.mp H
        obtain ⟨⟨t524, t525⟩, A350, H⟩ := H
        replace H : ((laws_heldStringS.f kj17 t525 1).bind fun t526 => (if t526 < 0 then (some false) else (if t526 = t524 then ((laws_toPieceS.f kj17 l0).bind fun t527 => ((impl_AbsenceProof.f kj17 t527 a1 a2).bind fun t530 => ((laws_eqStringS.f kj17 t530 t507).bind fun t533 => (if t533 = true then ((laws_heldStringS.f kj17 t525 1).bind fun t534 => (if t534 < 0 then (some false) else (if t534 = t524 then (some true) else (some false)))) else (some false))))) else (some false)))) = some r := H
        have A35 := Aside0.mk A350
        clear A350
        replace H := Option.bind_eq_some_iff.mp H
        obtain ⟨t526, A360, H⟩ := H
        replace H : (if t526 < 0 then (some false) else (if t526 = t524 then ((laws_toPieceS.f kj17 l0).bind fun t527 => ((impl_AbsenceProof.f kj17 t527 a1 a2).bind fun t530 => ((laws_eqStringS.f kj17 t530 t507).bind fun t533 => (if t533 = true then ((laws_heldStringS.f kj17 t525 1).bind fun t534 => (if t534 < 0 then (some false) else (if t534 = t524 then (some true) else (some false)))) else (some false))))) else (some false))) = some r := H
        have A36 := Aside0.mk A360
        clear A360
        by_cases c37 : t526 < 0
        ·rw [if_pos c37] at H
         have c37b0 : decide (t526 < 0) = true := decide_eq_true c37
         clear c37
         exact absurd H (by subst hrt; decide)
        ·rw [if_neg c37] at H
         have c37b0 : decide (t526 < 0) = false := decide_eq_false c37
         clear c37
         by_cases c40 : t526 = t524
         ·rw [if_pos c40] at H
          have c40b0 : (t526 == t524) = true := beq_iff_eq.mpr c40
          have c40b1 : (t526 != t524) = false := bne_eq_false_iff_eq.mpr c40
          clear c40
          replace H := Option.bind_eq_some_iff.mp H
          obtain ⟨t527, A410, H⟩ := H
          replace H : ((impl_AbsenceProof.f kj17 t527 a1 a2).bind fun t530 => ((laws_eqStringS.f kj17 t530 t507).bind fun t533 => (if t533 = true then ((laws_heldStringS.f kj17 t525 1).bind fun t534 => (if t534 < 0 then (some false) else (if t534 = t524 then (some true) else (some false)))) else (some false)))) = some r := H
          have A41 := Aside0.mk A410
          clear A410
          replace H := Option.bind_eq_some_iff.mp H
          obtain ⟨t530, A420, H⟩ := H
          replace H : ((laws_eqStringS.f kj17 t530 t507).bind fun t533 => (if t533 = true then ((laws_heldStringS.f kj17 t525 1).bind fun t534 => (if t534 < 0 then (some false) else (if t534 = t524 then (some true) else (some false)))) else (some false))) = some r := H
          have A42 := Aside0.mk A420
          clear A420
          replace H := Option.bind_eq_some_iff.mp H
          obtain ⟨t533, A430, H⟩ := H
          replace H : (if t533 = true then ((laws_heldStringS.f kj17 t525 1).bind fun t534 => (if t534 < 0 then (some false) else (if t534 = t524 then (some true) else (some false)))) else (some false)) = some r := H
          have A43 := Aside0.mk A430
          clear A430
          by_cases c44 : t533 = true
          ·subst c44
           have H1 : ((laws_heldStringS.f kj17 t525 1).bind fun t534 => (if t534 < 0 then (some false) else (if t534 = t524 then (some true) else (some false)))) = some r := by rw [if_pos rfl] at H; exact H
           clear H
           have H := H1
           clear H1
           replace H := Option.bind_eq_some_iff.mp H
           obtain ⟨t534, A450, H⟩ := H
           replace H : (if t534 < 0 then (some false) else (if t534 = t524 then (some true) else (some false))) = some r := H
           have A45 := Aside0.mk A450
           clear A450
           by_cases c46 : t534 < 0
           ·rw [if_pos c46] at H
            have c46b0 : decide (t534 < 0) = true := decide_eq_true c46
            clear c46
            exact absurd H (by subst hrt; decide)
           ·rw [if_neg c46] at H
            have c46b0 : decide (t534 < 0) = false := decide_eq_false c46
            clear c46
            by_cases c54 : t534 = t524
            ·rw [if_pos c54] at H
             have c54b0 : (t534 == t524) = true := beq_iff_eq.mpr c54
             have c54b1 : (t534 != t524) = false := bne_eq_false_iff_eq.mpr c54
             clear c54
             obtain rfl := Option.some.inj H
             go_wp2_with (first | ((with_reducible refine gate_callee (f := 15) rfl ?_); refine goesL_ (some 56) rfl rfl Tryz.func15 (by kernel_rfl) rfl #[.slice Ao26 t513.length co26, .int .i64 1] rfl sl_ ?_; (with_reducible refine (laws_markStringS.calls kj17 (fun k_ => some k_ = (.slice Ao26 t513.length co26 : Value).ownBlock) (.slice Ao26 t513.length co26) t513 1 t524 t525 w _ ?side1 ?side2 A35.out).mono ?_); (case side1 => repeat (first | (with_reducible first | exact HB.out | apply below_alloc | apply pw_below_drewN | apply below_drew1) | exact HB.out)); (case side2 => exact Kd.R_tight rfl HO_10.out); rintro e w55 ⟨rfl, hy0, hb, hkp⟩; refine ⟨_, rfl, ?_⟩; replace HO_8 := Aside0.mk (Kd.R_mono (ok' := fun k_ => some k_ ≠ (.slice Ao26 t513.length co26 : Value).ownBlock) (Kd.R_keptB (HO_8.out) hkp (fun k_ hk_ hs_ => (hk_) hs_)) (fun k_ hk_ => hk_.1)); replace HO_10 := Aside0.mk (Kd.R_reok rfl hy0 (fun k_ e_ => HO_10.out.1 k_ e_)); replace HB := Aside0.mk (hb); (try clear hb); (try clear hkp); (try clear hy0)) | ((with_reducible refine gate_callee (f := 16) rfl ?_); refine goesL_ (some 59) rfl rfl Tryz.func16 (by kernel_rfl) rfl #[.slice Ao26 t525.length co26, .int .i64 1] rfl (by (try simp only [List.map_toArray, List.map_cons, List.map_nil]); first | done | (rw [show t525.length = t513.length from (Kd.R_reads' HO_10.out).1.symm] <;> rfl) | rfl | (simp only [List.length_drop, List.length_take]; rfl)) ?_; (with_reducible refine (laws_heldStringS.calls kj17 _ _ t525 1 t526 _ ?side1 ?side2 A36.out).mono ?_); (case side1 => exact kC_ ((Kd.R_reads' HO_10.out).2.2)); (case side2 => rw [show t525.length = t513.length from (Kd.R_reads' HO_10.out).1.symm]; exact (Kd.R_reads' HO_10.out).2.1); rintro e w56 ⟨rfl, hb⟩; refine ⟨_, rfl, ?_⟩; replace HO_8 := Aside0.mk (Kd.R_below (kR_ HO_8.out) hb); replace HO_10 := Aside0.mk (Kd.R_below (kR_ HO_10.out) hb); replace HB := Aside0.mk (below_step hb_ hb); (try clear hb)) | ((with_reducible refine gate_callee (f := 10) rfl ?_); refine goesL_ (some 66) rfl rfl Tryz.func10 (by kernel_rfl) rfl #[.slice A0 l0.length c0] rfl sl_ ?_; (with_reducible refine (laws_toPieceS.calls kj17 _ _ l0 t527 _ ?side1 ?side2 A41.out).mono ?_); (case side1 => exact kC_ (Kd.C_below HR0.out HB.out)); (case side2 => exact HC0.out); rintro e w57 ⟨v528, rfl, ho0, hb⟩; refine ⟨_, rfl, ?_⟩; replace HO_8 := Aside0.mk (Kd.R_below (kR_ HO_8.out) hb); replace HO_10 := Aside0.mk (Kd.R_below (kR_ HO_10.out) hb); have HO529 := Aside0.mk (Kd.R_lower ho0 (below_size hb_)); replace HB := Aside0.mk (below_step hb_ hb); (try clear hb); (try clear ho0); obtain ⟨Ao58, co58, eo58⟩ := Kd.R_slice HO529.out; subst eo58) | ((with_reducible refine gate_callee (f := 18) rfl ?_); refine goesL_ (some 69) rfl rfl Tryz.func18 (by kernel_rfl) rfl #[.slice Ao58 t527.length co58, .int .i64 a1, .string a2] rfl sl_ ?_; (with_reducible refine (impl_AbsenceProof.calls kj17 _ _ t527 a1 a2 t530 _ ?side1 ?side2 (GT_on hb_ hG) A42.out).mono ?_); (case side1 => exact kC_ ((Kd.R_reads' HO529.out).2.2)); (case side2 => exact (Kd.R_reads' HO529.out).2.1); rintro e w59 ⟨v531, rfl, ho0, hb⟩; refine ⟨_, rfl, ?_⟩; replace HO529 := Aside0.mk (Kd.R_below (kR_ HO529.out) hb); have HO532 := Aside0.mk (Kd.R_lower (Kd.R_new' (Kd.R_new' ho0 (Kd.R_lt (kR_ HO_8.out))) (Kd.R_lt (kR_ HO_10.out))) (below_size hb_)); replace HO_8 := Aside0.mk (Kd.R_elder' (kR_ HO_8.out) (Kd.R_base ho0) hb); replace HO_10 := Aside0.mk (Kd.R_elder' (kR_ HO_10.out) (Kd.R_base ho0) hb); replace HB := Aside0.mk (below_step hb_ hb); (try clear hb); (try clear ho0); obtain ⟨Ao60, co60, eo60⟩ := Kd.R_slice HO532.out; subst eo60) | ((with_reducible refine gate_callee (f := 12) rfl ?_); refine goesL_ (some 72) rfl rfl Tryz.func12 (by kernel_rfl) rfl #[.slice Ao60 t530.length co60, .slice Ao27 t507.length co27] rfl sl_ ?_; (with_reducible refine (laws_eqStringS.calls kj17 _ _ t530 _ _ t507 true _ ?side1 ?side2 ?side3 ?side4 A43.out).mono ?_); (case side1 => exact kC_ ((Kd.R_reads' HO532.out).2.2)); (case side2 => exact (Kd.R_reads' HO532.out).2.1); (case side3 => exact kC_ ((Kd.R_reads' HO_8.out).2.2)); (case side4 => exact (Kd.R_reads' HO_8.out).2.1); rintro e w' ⟨rfl, ⟨nd, rfl⟩⟩; refine ⟨_, rfl, ?_⟩) | ((with_reducible refine gate_callee (f := 16) rfl ?_); refine goesL_ (some 76) rfl rfl Tryz.func16 (by kernel_rfl) rfl #[.slice Ao26 t525.length co26, .int .i64 1] rfl (by (try simp only [List.map_toArray, List.map_cons, List.map_nil]); first | done | (rw [show t525.length = t513.length from (Kd.R_reads' HO_10.out).1.symm] <;> rfl) | rfl | (simp only [List.length_drop, List.length_take]; rfl)) ?_; (with_reducible refine (laws_heldStringS.calls kj17 _ _ t525 1 t534 _ ?side1 ?side2 A45.out).mono ?_); (case side1 => exact kC_ ((Kd.R_reads' HO_10.out).2.2)); (case side2 => rw [show t525.length = t513.length from (Kd.R_reads' HO_10.out).1.symm]; exact (Kd.R_reads' HO_10.out).2.1); rintro e w61 ⟨rfl, hb⟩; refine ⟨_, rfl, ?_⟩; replace HO_8 := Aside0.mk (Kd.R_below (kR_ HO_8.out) hb); replace HO_10 := Aside0.mk (Kd.R_below (kR_ HO_10.out) hb); replace HO529 := Aside0.mk (Kd.R_below (kR_ HO529.out) hb); replace HO532 := Aside0.mk (Kd.R_below (kR_ HO532.out) hb); replace HB := Aside0.mk (below_step hb_ hb); (try clear hb)))
             go_ret
             exact ⟨er_, hb_⟩
            ·rw [if_neg c54] at H
             have c54b0 : (t534 == t524) = false := beq_eq_false_iff_ne.mpr c54
             have c54b1 : (t534 != t524) = true := bne_iff_ne.mpr c54
             obtain rfl := Option.some.inj H
             go_wp2_with (first | ((with_reducible refine gate_callee (f := 15) rfl ?_); refine goesL_ (some 56) rfl rfl Tryz.func15 (by kernel_rfl) rfl #[.slice Ao26 t513.length co26, .int .i64 1] rfl sl_ ?_; (with_reducible refine (laws_markStringS.calls kj17 (fun k_ => some k_ = (.slice Ao26 t513.length co26 : Value).ownBlock) (.slice Ao26 t513.length co26) t513 1 t524 t525 w _ ?side1 ?side2 A35.out).mono ?_); (case side1 => repeat (first | (with_reducible first | exact HB.out | apply below_alloc | apply pw_below_drewN | apply below_drew1) | exact HB.out)); (case side2 => exact Kd.R_tight rfl HO_10.out); rintro e w62 ⟨rfl, hy0, hb, hkp⟩; refine ⟨_, rfl, ?_⟩; replace HO_8 := Aside0.mk (Kd.R_mono (ok' := fun k_ => some k_ ≠ (.slice Ao26 t513.length co26 : Value).ownBlock) (Kd.R_keptB (HO_8.out) hkp (fun k_ hk_ hs_ => (hk_) hs_)) (fun k_ hk_ => hk_.1)); replace HO_10 := Aside0.mk (Kd.R_reok rfl hy0 (fun k_ e_ => HO_10.out.1 k_ e_)); replace HB := Aside0.mk (hb); (try clear hb); (try clear hkp); (try clear hy0)) | ((with_reducible refine gate_callee (f := 16) rfl ?_); refine goesL_ (some 59) rfl rfl Tryz.func16 (by kernel_rfl) rfl #[.slice Ao26 t525.length co26, .int .i64 1] rfl (by (try simp only [List.map_toArray, List.map_cons, List.map_nil]); first | done | (rw [show t525.length = t513.length from (Kd.R_reads' HO_10.out).1.symm] <;> rfl) | rfl | (simp only [List.length_drop, List.length_take]; rfl)) ?_; (with_reducible refine (laws_heldStringS.calls kj17 _ _ t525 1 t526 _ ?side1 ?side2 A36.out).mono ?_); (case side1 => exact kC_ ((Kd.R_reads' HO_10.out).2.2)); (case side2 => rw [show t525.length = t513.length from (Kd.R_reads' HO_10.out).1.symm]; exact (Kd.R_reads' HO_10.out).2.1); rintro e w63 ⟨rfl, hb⟩; refine ⟨_, rfl, ?_⟩; replace HO_8 := Aside0.mk (Kd.R_below (kR_ HO_8.out) hb); replace HO_10 := Aside0.mk (Kd.R_below (kR_ HO_10.out) hb); replace HB := Aside0.mk (below_step hb_ hb); (try clear hb)) | ((with_reducible refine gate_callee (f := 10) rfl ?_); refine goesL_ (some 66) rfl rfl Tryz.func10 (by kernel_rfl) rfl #[.slice A0 l0.length c0] rfl sl_ ?_; (with_reducible refine (laws_toPieceS.calls kj17 _ _ l0 t527 _ ?side1 ?side2 A41.out).mono ?_); (case side1 => exact kC_ (Kd.C_below HR0.out HB.out)); (case side2 => exact HC0.out); rintro e w64 ⟨v528, rfl, ho0, hb⟩; refine ⟨_, rfl, ?_⟩; replace HO_8 := Aside0.mk (Kd.R_below (kR_ HO_8.out) hb); replace HO_10 := Aside0.mk (Kd.R_below (kR_ HO_10.out) hb); have HO529 := Aside0.mk (Kd.R_lower ho0 (below_size hb_)); replace HB := Aside0.mk (below_step hb_ hb); (try clear hb); (try clear ho0); obtain ⟨Ao65, co65, eo65⟩ := Kd.R_slice HO529.out; subst eo65) | ((with_reducible refine gate_callee (f := 18) rfl ?_); refine goesL_ (some 69) rfl rfl Tryz.func18 (by kernel_rfl) rfl #[.slice Ao65 t527.length co65, .int .i64 a1, .string a2] rfl sl_ ?_; (with_reducible refine (impl_AbsenceProof.calls kj17 _ _ t527 a1 a2 t530 _ ?side1 ?side2 (GT_on hb_ hG) A42.out).mono ?_); (case side1 => exact kC_ ((Kd.R_reads' HO529.out).2.2)); (case side2 => exact (Kd.R_reads' HO529.out).2.1); rintro e w66 ⟨v531, rfl, ho0, hb⟩; refine ⟨_, rfl, ?_⟩; replace HO529 := Aside0.mk (Kd.R_below (kR_ HO529.out) hb); have HO532 := Aside0.mk (Kd.R_lower (Kd.R_new' (Kd.R_new' ho0 (Kd.R_lt (kR_ HO_8.out))) (Kd.R_lt (kR_ HO_10.out))) (below_size hb_)); replace HO_8 := Aside0.mk (Kd.R_elder' (kR_ HO_8.out) (Kd.R_base ho0) hb); replace HO_10 := Aside0.mk (Kd.R_elder' (kR_ HO_10.out) (Kd.R_base ho0) hb); replace HB := Aside0.mk (below_step hb_ hb); (try clear hb); (try clear ho0); obtain ⟨Ao67, co67, eo67⟩ := Kd.R_slice HO532.out; subst eo67) | ((with_reducible refine gate_callee (f := 12) rfl ?_); refine goesL_ (some 72) rfl rfl Tryz.func12 (by kernel_rfl) rfl #[.slice Ao67 t530.length co67, .slice Ao27 t507.length co27] rfl sl_ ?_; (with_reducible refine (laws_eqStringS.calls kj17 _ _ t530 _ _ t507 true _ ?side1 ?side2 ?side3 ?side4 A43.out).mono ?_); (case side1 => exact kC_ ((Kd.R_reads' HO532.out).2.2)); (case side2 => exact (Kd.R_reads' HO532.out).2.1); (case side3 => exact kC_ ((Kd.R_reads' HO_8.out).2.2)); (case side4 => exact (Kd.R_reads' HO_8.out).2.1); rintro e w' ⟨rfl, ⟨nd, rfl⟩⟩; refine ⟨_, rfl, ?_⟩) | ((with_reducible refine gate_callee (f := 16) rfl ?_); refine goesL_ (some 76) rfl rfl Tryz.func16 (by kernel_rfl) rfl #[.slice Ao26 t525.length co26, .int .i64 1] rfl (by (try simp only [List.map_toArray, List.map_cons, List.map_nil]); first | done | (rw [show t525.length = t513.length from (Kd.R_reads' HO_10.out).1.symm] <;> rfl) | rfl | (simp only [List.length_drop, List.length_take]; rfl)) ?_; (with_reducible refine (laws_heldStringS.calls kj17 _ _ t525 1 t534 _ ?side1 ?side2 A45.out).mono ?_); (case side1 => exact kC_ ((Kd.R_reads' HO_10.out).2.2)); (case side2 => rw [show t525.length = t513.length from (Kd.R_reads' HO_10.out).1.symm]; exact (Kd.R_reads' HO_10.out).2.1); rintro e w68 ⟨rfl, hb⟩; refine ⟨_, rfl, ?_⟩; replace HO_8 := Aside0.mk (Kd.R_below (kR_ HO_8.out) hb); replace HO_10 := Aside0.mk (Kd.R_below (kR_ HO_10.out) hb); replace HO529 := Aside0.mk (Kd.R_below (kR_ HO529.out) hb); replace HO532 := Aside0.mk (Kd.R_below (kR_ HO532.out) hb); replace HB := Aside0.mk (below_step hb_ hb); (try clear hb)))
             go_ret
             exact ⟨er_, hb_⟩
          ·replace c44 := Bool.eq_false_iff.mpr c44
           subst c44
           have H1 : (some false) = some r := by rw [if_neg (show ¬ (false = true) by decide)] at H; exact H
           clear H
           have H := H1
           clear H1
           exact absurd H (by subst hrt; decide)
         ·rw [if_neg c40] at H
          have c40b0 : (t526 == t524) = false := beq_eq_false_iff_ne.mpr c40
          have c40b1 : (t526 != t524) = true := bne_iff_ne.mpr c40
          exact absurd H (by subst hrt; decide)
    ·replace c16 := Bool.eq_false_iff.mpr c16
     subst c16
     have H1 : (some false) = some r := by rw [if_neg (show ¬ (false = true) by decide)] at H; exact H
     clear H
     have H := H1
     clear H1
     exact absurd H (by subst hrt; decide)
   ·replace c13 := Bool.eq_false_iff.mpr c13
    subst c13
    have H1 : (some false) = some r := by rw [if_neg (show ¬ (false = true) by decide)] at H; exact H
    clear H
    have H := H1
    clear H1
    exact absurd H (by subst hrt; decide)
end Go.Proofs.YtjgbidklkhohfaaGreatDoor.P
