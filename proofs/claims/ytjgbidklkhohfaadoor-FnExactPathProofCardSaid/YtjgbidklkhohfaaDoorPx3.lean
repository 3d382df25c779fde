-- The functions of the seat as plain Lean functions, made by the kit's print.py for all laws at once. Not trusted: Lean checks it.
import Derived.Test.YtjgbidklkhohfaaDoorPx0
import Derived.Test.YtjgbidklkhohfaaDoorPx2
namespace Go.Proofs.YtjgbidklkhohfaaDoor.P
open Go.RowKit Go.Proofs.YtjgbidklkhohfaaDoorW.PrintWords Go.Proofs.YtjgbidklkhohfaaDoorW.PrintLast Go.Proofs.YtjgbidklkhohfaaDoorW.PrintMore
attribute [local go_sem] max2_int min2_int max_two min_two max_three min_three max_four min_four   -- for this text's walks alone
set_option linter.unusedVariables false
set_option linter.unusedSimpArgs false
/-! ### impl_ReadFolder: function 68 -/
mutual
def impl_ReadFolder.l0 : Nat → ByteArray → ByteArray → List (S63) → Option ((List (S63)) × Bool)
 | 0, _, _, _ => none
 | k + 1, x0, x4, x6 => if x4.toList = ([] : List UInt8) then ((impl_FolderText.f k x6).bind fun t221 => (if t221.toList = x0.toList then (some (x6, true)) else (some (([] : List (S63)), false)))) else ((strings_Cut.f x4 (⟨#[59]⟩ : ByteArray)).bind fun bt211 => ((strings_Cut.f bt211.1 (⟨#[61]⟩ : ByteArray)).bind fun bt214 => (if bt211.2.2 = true then (if bt214.2.2 = true then (impl_ReadFolder.j1 k x0 x6 bt211.2.1 bt214.1 bt214.2.1 ((x6.length : Int) == 3)) else (impl_ReadFolder.j1 k x0 x6 bt211.2.1 bt214.1 bt214.2.1 true)) else (impl_ReadFolder.j1 k x0 x6 bt211.2.1 bt214.1 bt214.2.1 true))))
def impl_ReadFolder.j1 : Nat → ByteArray → List (S63) → ByteArray → ByteArray → ByteArray → Bool → Option ((List (S63)) × Bool)
 | 0, _, _, _, _, _, _ => none
 | k + 1, x0, x6, x8, x10, x11, x44 => if x44 = true then (some (([] : List (S63)), false)) else ((impl_ReadHex.f k x11).bind fun t217 => (if x6.length < 5864062014805 then (impl_ReadFolder.l0 k x0 x8 (x6 ++ [(⟨x10, t217⟩ : S63)])) else (none)))
end
def impl_ReadFolder.f (k : Nat) (a0 : ByteArray) : Option ((List (S63)) × Bool) := (strings_CutPrefix.f a0 (⟨#[100]⟩ : ByteArray)).bind fun bt209 => (if bt209.2 = true then (impl_ReadFolder.l0 k a0 bt209.1 ([] : List (S63))) else (some (([] : List (S63)), false)))
theorem impl_ReadFolder.mono_l : ∀ k, (∀ y0 y1 y2, LeO (impl_ReadFolder.l0 k y0 y1 y2) (impl_ReadFolder.l0 (k + 1) y0 y1 y2)) ∧ (∀ y0 y1 y2 y3 y4 y5, LeO (impl_ReadFolder.j1 k y0 y1 y2 y3 y4 y5) (impl_ReadFolder.j1 (k + 1) y0 y1 y2 y3 y4 y5))
 | 0 => ⟨fun _ _ _ r h => by simp [impl_ReadFolder.l0] at h, fun _ _ _ _ _ _ r h => by simp [impl_ReadFolder.j1] at h⟩
 | k + 1 => by
  obtain ⟨ih0, ih1⟩ := impl_ReadFolder.mono_l k
  refine ⟨?_, ?_⟩
  ·intro y0 y1 y2
   unfold impl_ReadFolder.l0
   repeat' first
   | (with_reducible exact ih0 _ _ _)
   | (with_reducible exact ih1 _ _ _ _ _ _)
   | (with_reducible exact impl_FolderText.mono _ _)
   | (with_reducible exact impl_ReadHex.mono _ _)
   | (with_reducible exact LeO.refl _)
   | (with_reducible exact LeO.none _)
   | (with_reducible refine LeO.ite ?_ ?_)
   | (with_reducible refine LeO.bind ?_ (fun _ => ?_))
   | exact ih0 _ _ _
   | exact ih1 _ _ _ _ _ _
   | exact impl_FolderText.mono _ _
   | exact impl_ReadHex.mono _ _
   | exact LeO.none _
   | refine LeO.ite ?_ ?_
   | refine LeO.bind ?_ (fun _ => ?_)
  ·intro y0 y1 y2 y3 y4 y5
   unfold impl_ReadFolder.j1
   repeat' first
   | (with_reducible exact ih0 _ _ _)
   | (with_reducible exact ih1 _ _ _ _ _ _)
   | (with_reducible exact impl_FolderText.mono _ _)
   | (with_reducible exact impl_ReadHex.mono _ _)
   | (with_reducible exact LeO.refl _)
   | (with_reducible exact LeO.none _)
   | (with_reducible refine LeO.ite ?_ ?_)
   | (with_reducible refine LeO.bind ?_ (fun _ => ?_))
   | exact ih0 _ _ _
   | exact ih1 _ _ _ _ _ _
   | exact impl_FolderText.mono _ _
   | exact impl_ReadHex.mono _ _
   | exact LeO.none _
   | refine LeO.ite ?_ ?_
   | refine LeO.bind ?_ (fun _ => ?_)
theorem impl_ReadFolder.mono : ∀ a0 k, LeO (impl_ReadFolder.f k a0) (impl_ReadFolder.f (k + 1) a0) := by
 intro a0 k
 obtain ⟨ih0, ih1⟩ := impl_ReadFolder.mono_l k
 unfold impl_ReadFolder.f
 repeat' first
   | (with_reducible exact ih0 _ _ _)
   | (with_reducible exact ih1 _ _ _ _ _ _)
   | (with_reducible exact impl_FolderText.mono _ _)
   | (with_reducible exact impl_ReadHex.mono _ _)
   | (with_reducible exact LeO.refl _)
   | (with_reducible exact LeO.none _)
   | (with_reducible refine LeO.ite ?_ ?_)
   | (with_reducible refine LeO.bind ?_ (fun _ => ?_))
   | exact ih0 _ _ _
   | exact ih1 _ _ _ _ _ _
   | exact impl_FolderText.mono _ _
   | exact impl_ReadHex.mono _ _
   | exact LeO.none _
   | refine LeO.ite ?_ ?_
   | refine LeO.bind ?_ (fun _ => ?_)
set_option maxHeartbeats 8000000 in
set_option maxRecDepth 100000 in
theorem impl_ReadFolder.calls (k : Nat) (a0 : ByteArray) (r1 : List (S63)) (r2 : Bool) (w : World) (hG : GT w) (h : impl_ReadFolder.f k a0 = some (r1, r2)) :
  Calls Tryd.prog 68 #[.string a0] w fun e w' => ∃ v0_ : Value, e = .returned (.tuple #[v0_, .bool r2]) ∧ Kd.R k63 63 w' w.heap.size (fun _ => True) v0_ r1 ∧ Below w.heap.size w w' := by
 have hu63 := Tryd.underlying63
 have HB := Aside0.mk (Below.refl w.heap.size w)
 have H : ((strings_CutPrefix.f a0 (⟨#[100]⟩ : ByteArray)).bind fun bt209 => (if bt209.2 = true then (impl_ReadFolder.l0 k a0 bt209.1 ([] : List (S63))) else (some (([] : List (S63)), false)))) = some (r1, r2) := h
 clear h
 replace H := Option.bind_eq_some_iff.mp H
 obtain ⟨⟨t209, t210⟩, A20, H⟩ := H
 replace H : (if t210 = true then (impl_ReadFolder.l0 k a0 t209 ([] : List (S63))) else (some (([] : List (S63)), false))) = some (r1, r2) := H
 have A2 := Aside0.mk A20
 clear A20
 by_cases c3 : t210 = true
 ·subst c3
  have H1 : (impl_ReadFolder.l0 k a0 t209 ([] : List (S63))) = some (r1, r2) := by rw [if_pos rfl] at H; exact H
  clear H
  have H := H1
  clear H1
  have H' := Aside0.mk H
  clear H
  go_enter Tryd.func68, Tryd.ntmps68
  go_wp2_with (first | ((with_reducible refine gate_callee (f := 93) rfl ?_); refine goesL_ (some 15) rfl rfl Tryd.func93 (by kernel_rfl) rfl #[.string a0, .string (⟨#[100]⟩ : ByteArray)] rfl sl_ ?_; (with_reducible refine (strings_CutPrefix.calls a0 (⟨#[100]⟩ : ByteArray) t209 true _ A2.out).mono ?_); rintro e w' ⟨rfl, ⟨nd, rfl⟩⟩; refine ⟨_, rfl, ?_⟩))
  go_loopg [4, 6] k (fun kq v4 v6 w' => ∃ (x4_1 : ByteArray) (x6_1 : List (S63)), v4 = .string x4_1 ∧ Aside0 (impl_ReadFolder.l0 kq a0 x4_1 x6_1 = some (r1, r2)) ∧ Aside0 (kq ≤ k) ∧ Aside0 (Kd.R k63 63 w' w.heap.size (fun _ => True) v6 x6_1) ∧ Aside0 (Below w.heap.size w w'))
  case atStart => exact ⟨(t209), (([] : List (S63))), (by first | rfl | (simp; done) | (simp [*]; done)), H', ⟨Nat.le_refl _⟩, ⟨by first | exact Kd.R_nil _ _ _ _ _ | exact Kd.N_nil _ _ _ _ _ | exact Kd.V_nil _ _ _ _ _ | exact Kd.Q_nil _ _ _ _ _ | exact Kd.S_nil _ _ _ _ _⟩, ⟨hb_⟩⟩
  case round =>
   clear H'
   try clear p2
   try clear c3
   obtain ⟨x4_1, x6_1, rfl, HA, HK1, HO_6, HB⟩ := hrel
   cases gk with
   | zero => exact absurd HA.out (by simp [impl_ReadFolder.l0])
   | succ k1 =>
    have H := HA.out
    clear HA
    simp only [impl_ReadFolder.l0] at H
    by_cases c4 : x4_1.toList = ([] : List UInt8)
    ·rw [if_pos c4] at H
     have c4b0 : (x4_1.toList == ([] : List UInt8)) = true := beq_iff_eq.mpr c4
     have c4b1 : (x4_1.toList != ([] : List UInt8)) = false := bne_eq_false_iff_eq.mpr c4
     clear c4
     replace H := Option.bind_eq_some_iff.mp H
     obtain ⟨t221, A50, H⟩ := H
     replace H : (if t221.toList = a0.toList then (some (x6_1, true)) else (some (([] : List (S63)), false))) = some (r1, r2) := H
     have A5 := Aside0.mk A50
     clear A50
     by_cases c6 : t221.toList = a0.toList
     ·rw [if_pos c6] at H
      have c6b0 : (t221.toList == a0.toList) = true := beq_iff_eq.mpr c6
      have c6b1 : (t221.toList != a0.toList) = false := bne_eq_false_iff_eq.mpr c6
      clear c6
      simp only [Option.some.injEq, Prod.mk.injEq] at H
      obtain ⟨rfl, rfl⟩ := H
      obtain ⟨Ao7, co7, eo7⟩ := Kd.R_slice HO_6.out
      subst eo7
      go_wp2_with (first | ((with_reducible refine gate_callee (f := 97) rfl ?_); refine goesL_ (some 54) rfl rfl Tryd.func97 (by kernel_rfl) rfl #[.slice Ao7 x6_1.length co7] rfl sl_ ?_; (with_reducible refine (impl_FolderText.calls k1 _ _ x6_1 t221 _ ?side1 ?side2 (GT_on hb_ hG) A5.out).mono ?_); (case side1 => exact kC_ ((Kd.R_reads' HO_6.out).2.2)); (case side2 => exact (Kd.R_reads' HO_6.out).2.1); rintro e w8 ⟨rfl, hb⟩; refine ⟨_, rfl, ?_⟩; replace HO_6 := Aside0.mk (Kd.R_below (kR_ HO_6.out) hb); replace HB := Aside0.mk (below_step hb_ hb); (try clear hb)))
      go_ret2
      exact ⟨_, er_, by (with_reducible repeat (first | apply Kd.R_alloc | apply Kd.R_drewN | apply Kd.R_drew)); exact HO_6.out, hb_⟩
     ·rw [if_neg c6] at H
      have c6b0 : (t221.toList == a0.toList) = false := beq_eq_false_iff_ne.mpr c6
      have c6b1 : (t221.toList != a0.toList) = true := bne_iff_ne.mpr c6
      simp only [Option.some.injEq, Prod.mk.injEq] at H
      obtain ⟨rfl, rfl⟩ := H
      obtain ⟨Ao9, co9, eo9⟩ := Kd.R_slice HO_6.out
      subst eo9
      go_wp2_with (first | ((with_reducible refine gate_callee (f := 97) rfl ?_); refine goesL_ (some 54) rfl rfl Tryd.func97 (by kernel_rfl) rfl #[.slice Ao9 x6_1.length co9] rfl sl_ ?_; (with_reducible refine (impl_FolderText.calls k1 _ _ x6_1 t221 _ ?side1 ?side2 (GT_on hb_ hG) A5.out).mono ?_); (case side1 => exact kC_ ((Kd.R_reads' HO_6.out).2.2)); (case side2 => exact (Kd.R_reads' HO_6.out).2.1); rintro e w10 ⟨rfl, hb⟩; refine ⟨_, rfl, ?_⟩; replace HO_6 := Aside0.mk (Kd.R_below (kR_ HO_6.out) hb); replace HB := Aside0.mk (below_step hb_ hb); (try clear hb)))
      go_ret2
      exact ⟨_, er_, by first | exact Kd.R_nil _ _ _ _ _ | exact Kd.N_nil _ _ _ _ _ | exact Kd.V_nil _ _ _ _ _ | exact Kd.Q_nil _ _ _ _ _ | exact Kd.S_nil _ _ _ _ _, hb_⟩
    ·rw [if_neg c4] at H
     have c4b0 : (x4_1.toList == ([] : List UInt8)) = false := beq_eq_false_iff_ne.mpr c4
     have c4b1 : (x4_1.toList != ([] : List UInt8)) = true := bne_iff_ne.mpr c4
     replace H := Option.bind_eq_some_iff.mp H
     obtain ⟨⟨t211, t212, t213⟩, A110, H⟩ := H
     replace H : ((strings_Cut.f t211 (⟨#[61]⟩ : ByteArray)).bind fun bt214 => (if t213 = true then (if bt214.2.2 = true then (impl_ReadFolder.j1 k1 a0 x6_1 t212 bt214.1 bt214.2.1 ((x6_1.length : Int) == 3)) else (impl_ReadFolder.j1 k1 a0 x6_1 t212 bt214.1 bt214.2.1 true)) else (impl_ReadFolder.j1 k1 a0 x6_1 t212 bt214.1 bt214.2.1 true))) = some (r1, r2) := H
     have A11 := Aside0.mk A110
     clear A110
     replace H := Option.bind_eq_some_iff.mp H
     obtain ⟨⟨t214, t215, t216⟩, A120, H⟩ := H
     replace H : (if t213 = true then (if t216 = true then (impl_ReadFolder.j1 k1 a0 x6_1 t212 t214 t215 ((x6_1.length : Int) == 3)) else (impl_ReadFolder.j1 k1 a0 x6_1 t212 t214 t215 true)) else (impl_ReadFolder.j1 k1 a0 x6_1 t212 t214 t215 true)) = some (r1, r2) := H
     have A12 := Aside0.mk A120
     clear A120
     have HC13 := Aside0.mk H
     clear H
     go_upto_region 8 with (first | ((with_reducible refine gate_callee (f := 95) rfl ?_); refine goesL_ (some 24) rfl rfl Tryd.func95 (by kernel_rfl) rfl #[.string x4_1, .string (⟨#[59]⟩ : ByteArray)] rfl sl_ ?_; (with_reducible refine (strings_Cut.calls x4_1 (⟨#[59]⟩ : ByteArray) t211 t212 t213 _ A11.out).mono ?_); rintro e w14 ⟨rfl, hb⟩; refine ⟨_, rfl, ?_⟩; replace HO_6 := Aside0.mk (Kd.R_below (kR_ HO_6.out) hb); replace HB := Aside0.mk (below_step hb_ hb); (try clear hb)) | ((with_reducible refine gate_callee (f := 95) rfl ?_); refine goesL_ (some 30) rfl rfl Tryd.func95 (by kernel_rfl) rfl #[.string t211, .string (⟨#[61]⟩ : ByteArray)] rfl sl_ ?_; (with_reducible refine (strings_Cut.calls t211 (⟨#[61]⟩ : ByteArray) t214 t215 t216 _ A12.out).mono ?_); rintro e w15 ⟨rfl, hb⟩; refine ⟨_, rfl, ?_⟩; replace HO_6 := Aside0.mk (Kd.R_below (kR_ HO_6.out) hb); replace HB := Aside0.mk (below_step hb_ hb); (try clear hb)))
     (try simp only [Act.put, List.setIfInBounds_toArray, List.set_cons_zero, List.set_cons_succ])
     go_cut [44] (fun v44 wc => ∃ (kq : Nat) (x44_12 : Bool), v44 = .bool x44_12 ∧ Aside0 (impl_ReadFolder.j1 kq a0 x6_1 t212 t214 t215 x44_12 = some (r1, r2)) ∧ Aside0 (kq ≤ k1) ∧ Aside0 (Kd.R k63 63 wc w.heap.size (fun _ => True) u6 x6_1) ∧ Aside0 (Below w.heap.size w wc))
     case first =>
      have H := HC13.out
      clear HC13
      by_cases c16 : t213 = true
      ·subst c16
       have H1 : (if t216 = true then (impl_ReadFolder.j1 k1 a0 x6_1 t212 t214 t215 ((x6_1.length : Int) == 3)) else (impl_ReadFolder.j1 k1 a0 x6_1 t212 t214 t215 true)) = some (r1, r2) := by rw [if_pos rfl] at H; exact H
       clear H
       have H := H1
       clear H1
       by_cases c17 : t216 = true
       ·subst c17
        have H1 : (impl_ReadFolder.j1 k1 a0 x6_1 t212 t214 t215 ((x6_1.length : Int) == 3)) = some (r1, r2) := by rw [if_pos rfl] at H; exact H
        clear H
        have H := H1
        clear H1
        have H' := Aside0.mk H
        clear H
        obtain ⟨Ao18, co18, eo18⟩ := Kd.R_slice HO_6.out
        subst eo18
        go_wp2
        go_meet
        case rel => exact ⟨_, (((x6_1.length : Int) == 3)), (by first | rfl | (simp; done) | (simp [*]; done)), H', ⟨by have := HK1.out; first | omega | exact Nat.le_refl _⟩, ⟨by (with_reducible repeat (first | apply Kd.R_alloc | apply Kd.R_drewN | apply Kd.R_drew)); exact HO_6.out⟩, ⟨hb_⟩⟩
       ·replace c17 := Bool.eq_false_iff.mpr c17
        subst c17
        have H1 : (impl_ReadFolder.j1 k1 a0 x6_1 t212 t214 t215 true) = some (r1, r2) := by rw [if_neg (show ¬ (false = true) by decide)] at H; exact H
        clear H
        have H := H1
        clear H1
        have H' := Aside0.mk H
        clear H
        go_wp2
        go_meet
        case rel => exact ⟨_, (true), (by first | rfl | (simp; done) | (simp [*]; done)), H', ⟨by have := HK1.out; first | omega | exact Nat.le_refl _⟩, ⟨by (with_reducible repeat (first | apply Kd.R_alloc | apply Kd.R_drewN | apply Kd.R_drew)); exact HO_6.out⟩, ⟨hb_⟩⟩
      ·replace c16 := Bool.eq_false_iff.mpr c16
       subst c16
       have H1 : (impl_ReadFolder.j1 k1 a0 x6_1 t212 t214 t215 true) = some (r1, r2) := by rw [if_neg (show ¬ (false = true) by decide)] at H; exact H
       clear H
       have H := H1
       clear H1
       have H' := Aside0.mk H
       clear H
       go_wp2
       go_meet
       case rel => exact ⟨_, (true), (by first | rfl | (simp; done) | (simp [*]; done)), H', ⟨by have := HK1.out; first | omega | exact Nat.le_refl _⟩, ⟨by (with_reducible repeat (first | apply Kd.R_alloc | apply Kd.R_drewN | apply Kd.R_drew)); exact HO_6.out⟩, ⟨hb_⟩⟩
     case rest =>
      clear HC13
      try clear c1
      try clear p2
      try clear c3
      try clear c4
      try clear c4b0
      try clear c4b1
      try clear c6
      try clear c6b0
      try clear c6b1
      try clear c9
      try clear c16
      try clear c17
      try clear p2
      obtain ⟨kq, x44_12, rfl, HA, HJ12, HO_6, HB⟩ := hcut
      cases kq with
      | zero => exact absurd HA.out (by simp [impl_ReadFolder.j1])
      | succ kj12 =>
       have H := HA.out
       clear HA
       simp only [impl_ReadFolder.j1] at H
       by_cases c19 : x44_12 = true
       ·subst c19
        have H1 : (some (([] : List (S63)), false)) = some (r1, r2) := by rw [if_pos rfl] at H; exact H
        clear H
        have H := H1
        clear H1
        simp only [Option.some.injEq, Prod.mk.injEq] at H
        obtain ⟨rfl, rfl⟩ := H
        go_wp2
        go_ret2
        exact ⟨_, er_, by first | exact Kd.R_nil _ _ _ _ _ | exact Kd.N_nil _ _ _ _ _ | exact Kd.V_nil _ _ _ _ _ | exact Kd.Q_nil _ _ _ _ _ | exact Kd.S_nil _ _ _ _ _, hb_⟩
       ·replace c19 := Bool.eq_false_iff.mpr c19
        subst c19
        have H1 : ((impl_ReadHex.f kj12 t215).bind fun t217 => (if x6_1.length < 5864062014805 then (impl_ReadFolder.l0 kj12 a0 t212 (x6_1 ++ [(⟨t214, t217⟩ : S63)])) else (none))) = some (r1, r2) := by rw [if_neg (show ¬ (false = true) by decide)] at H; exact H
        clear H
        have H := H1
        clear H1
        replace H := Option.bind_eq_some_iff.mp H
        obtain ⟨t217, A200, H⟩ := H
        replace H : (if x6_1.length < 5864062014805 then (impl_ReadFolder.l0 kj12 a0 t212 (x6_1 ++ [(⟨t214, t217⟩ : S63)])) else (none)) = some (r1, r2) := H
        have A20 := Aside0.mk A200
        clear A200
        by_cases c21 : x6_1.length < 5864062014805
        ·rw [if_pos c21] at H
         have LMc21 := Aside0.mk c21
         clear c21
         obtain ⟨y218, hy218⟩ : ∃ y_ : List (S63), y_ = (x6_1 ++ [(⟨t214, t217⟩ : S63)]) := ⟨_, rfl⟩
         replace H : (impl_ReadFolder.l0 kj12 a0 t212 y218) = some (r1, r2) := by first | (rw [hy218]; with_reducible exact H) | (have H2_ := (Option.bind_some _ _).symm.trans H; rw [hy218]; with_reducible exact H2_) | (have H2_ := (Option.bind_some _ _).symm.trans H; with_reducible exact H2_) | with_reducible exact H | (rw [hy218]; exact H) | exact H
         have Ny218 := Aside0.mk hy218
         clear hy218
         have H' := Aside0.mk H
         clear H
         go_wp2_with (first | ((with_reducible refine gate_callee (f := 96) rfl ?_); refine goesL_ (some 48) rfl rfl Tryd.func96 (by kernel_rfl) rfl #[.string t215] rfl sl_ ?_; (with_reducible refine (impl_ReadHex.calls kj12 t215 t217 _ (GT_on hb_ hG) A20.out).mono ?_); rintro e w22 ⟨rfl, hb⟩; refine ⟨_, rfl, ?_⟩; replace HO_6 := Aside0.mk (Kd.R_below (kR_ HO_6.out) hb); replace HB := Aside0.mk (below_step hb_ hb); (try clear hb); (try clear hk)) | ((with_reducible refine gate_builtin (b := .append) (xs := #[.tmp 45, .tmp 50]) rfl ?_); at_builtin; refine Kd.R_append k63 (w0 := w) w.heap.size rfl (.tmp 45) (.tmp 50) 59 63 (.agg #[(.string ⟨#[]⟩), (.int .i64 0)]) 24 rfl Tryd.underlying59 info63 rfl (by decide) (by omega) u6 x6_1 (⟨t214, t217⟩ : S63) [.string t214, .int .i64 t217] (fun _ => True) (fun _ => False) rfl rfl ?aP (fun _ hk => hk.elim) ?aF ?aO ?aB ?aS ?aL ?_; (case aP => exact k63_mkM _ _ _ (⟨t214, t217⟩ : S63)); (case aB => exact hb_); (case aF => exact (fun _ _ => trivial)); (case aO => exact (kR_ HO_6.out)); (case aS => exact (below_size hb_)); (case aL => have := LMc21.out; omega); intro v219 w23 ho hb hg hat; rw [← Ny218.out] at ho; have n0_ := Aside0.mk (hb); have n1_ := Aside0.mk (ho); clear HB; clear HO_6; have HB := n0_; have HO220 := n1_; clear n0_ n1_; clear ho hb hg hat))
         go_roundg kj12
         case measure => have := HK1.out; have := HJ12.out; omega
         case rel => exact ⟨(t212), (y218), (by first | rfl | (simp; done) | (simp [*]; done)), H', ⟨by have := HK1.out; have := HJ12.out; omega⟩, ⟨by (with_reducible repeat (first | apply Kd.R_alloc | apply Kd.R_drewN | apply Kd.R_drew)); exact HO220.out⟩, ⟨hb_⟩⟩
        ·rw [if_neg c21] at H
         exact absurd H (by simp)
 ·replace c3 := Bool.eq_false_iff.mpr c3
  subst c3
  have H1 : (some (([] : List (S63)), false)) = some (r1, r2) := by rw [if_neg (show ¬ (false = true) by decide)] at H; exact H
  clear H
  have H := H1
  clear H1
  simp only [Option.some.injEq, Prod.mk.injEq] at H
  obtain ⟨rfl, rfl⟩ := H
  go_enter Tryd.func68, Tryd.ntmps68
  go_wp2_with (first | ((with_reducible refine gate_callee (f := 93) rfl ?_); refine goesL_ (some 15) rfl rfl Tryd.func93 (by kernel_rfl) rfl #[.string a0, .string (⟨#[100]⟩ : ByteArray)] rfl sl_ ?_; (with_reducible refine (strings_CutPrefix.calls a0 (⟨#[100]⟩ : ByteArray) t209 false _ A2.out).mono ?_); rintro e w' ⟨rfl, ⟨nd, rfl⟩⟩; refine ⟨_, rfl, ?_⟩))
  go_ret2
  exact ⟨_, er_, by first | exact Kd.R_nil _ _ _ _ _ | exact Kd.N_nil _ _ _ _ _ | exact Kd.V_nil _ _ _ _ _ | exact Kd.Q_nil _ _ _ _ _ | exact Kd.S_nil _ _ _ _ _, hb_⟩
/-! ### spec_JoinPath: function 88 -/
def spec_JoinPath.l0 : Nat → List ByteArray → ByteArray → Int → Option (ByteArray)
 | 0, _, _, _ => none
 | k + 1, x0, x3, x4 => if x4 < (x0.length : Int) then (if 0 ≤ x4 then ((spec_WordValid.f k (rdOf ByteArray.empty x0 x4)).bind fun t399 => (if t399 = true then (if (x0.length : Int) > 3 then (some (⟨#[]⟩ : ByteArray)) else (if x3.size + 1 ≤ 9223372036854775807 then (if (x3 ++ (⟨#[47]⟩ : ByteArray)).size + (rdOf ByteArray.empty x0 x4).size ≤ 9223372036854775807 then (spec_JoinPath.l0 k x0 ((x3 ++ (⟨#[47]⟩ : ByteArray)) ++ (rdOf ByteArray.empty x0 x4)) (wrap64 (x4 + 1))) else (none)) else (none))) else (some (⟨#[]⟩ : ByteArray)))) else (none)) else (if x3.toList = ([] : List UInt8) then (some (⟨#[47]⟩ : ByteArray)) else (some x3))
def spec_JoinPath.f (k : Nat) (l0 : List ByteArray) : Option (ByteArray) := spec_JoinPath.l0 k l0 (⟨#[]⟩ : ByteArray) 0
theorem spec_JoinPath.mono_l : ∀ k, (∀ y0 y1 y2, LeO (spec_JoinPath.l0 k y0 y1 y2) (spec_JoinPath.l0 (k + 1) y0 y1 y2))
 | 0 => fun _ _ _ r h => by simp [spec_JoinPath.l0] at h
 | k + 1 => by
  have ih0 := spec_JoinPath.mono_l k
  ·intro y0 y1 y2
   unfold spec_JoinPath.l0
   repeat' first
   | (with_reducible exact ih0 _ _ _)
   | (with_reducible exact spec_WordValid.mono _ _)
   | (with_reducible exact LeO.refl _)
   | (with_reducible exact LeO.none _)
   | (with_reducible refine LeO.ite ?_ ?_)
   | (with_reducible refine LeO.bind ?_ (fun _ => ?_))
   | exact ih0 _ _ _
   | exact spec_WordValid.mono _ _
   | exact LeO.none _
   | refine LeO.ite ?_ ?_
   | refine LeO.bind ?_ (fun _ => ?_)
theorem spec_JoinPath.mono : ∀ a0 k, LeO (spec_JoinPath.f k a0) (spec_JoinPath.f (k + 1) a0) := by
 intro a0 k
 have ih0 := spec_JoinPath.mono_l k
 unfold spec_JoinPath.f
 repeat' first
   | (with_reducible exact ih0 _ _ _)
   | (with_reducible exact spec_WordValid.mono _ _)
   | (with_reducible exact LeO.refl _)
   | (with_reducible exact LeO.none _)
   | (with_reducible refine LeO.ite ?_ ?_)
   | (with_reducible refine LeO.bind ?_ (fun _ => ?_))
   | exact ih0 _ _ _
   | exact spec_WordValid.mono _ _
   | exact LeO.none _
   | refine LeO.ite ?_ ?_
   | refine LeO.bind ?_ (fun _ => ?_)
set_option maxHeartbeats 8000000 in
set_option maxRecDepth 100000 in
theorem spec_JoinPath.calls (k : Nat) (A0 : Option Addr) (c0 : Nat) (l0 : List ByteArray) (r : ByteArray) (w : World) (hr0 : Kd.C Kd.string w A0 l0.length l0) (hc0 : l0.length ≤ c0) (h : spec_JoinPath.f k l0 = some r) :
  Calls Tryd.prog 88 #[.slice A0 l0.length c0] w fun e w' => e = .returned (.string r) ∧ Drawn0 w w' := by
 have HR0 := Aside0.mk hr0
 have HC0 := Aside0.mk hc0
 clear hr0 hc0
 have H : (spec_JoinPath.l0 k l0 (⟨#[]⟩ : ByteArray) 0) = some r := h
 clear h
 have H' := Aside0.mk H
 clear H
 go_enter Tryd.func88, Tryd.ntmps88
 go_wp2
 go_loopg [3, 4] k (fun kq v3 v4 w' => ∃ (x3_1 : ByteArray) (x4_1 : Int), v3 = .string x3_1 ∧ v4 = .int .i64 x4_1 ∧ Aside0 (spec_JoinPath.l0 kq l0 x3_1 x4_1 = some r) ∧ Aside0 (kq ≤ k) ∧ Drawn0 w w')
 case atStart => exact ⟨((⟨#[]⟩ : ByteArray)), (0), (by first | rfl | (simp; done) | (simp [*]; done)), (by first | rfl | (simp; done) | (simp [*]; done)), H', ⟨Nat.le_refl _⟩, by repeat (first | exact Drawn0.refl _ | apply Drawn0.step)⟩
 case round =>
  clear H'
  obtain ⟨x3_1, x4_1, rfl, rfl, HA, HK1, ⟨m1, rfl⟩⟩ := hrel
  cases gk with
  | zero => exact absurd HA.out (by simp [spec_JoinPath.l0])
  | succ k1 =>
   have H := HA.out
   clear HA
   simp only [spec_JoinPath.l0] at H
   by_cases c2 : x4_1 < (l0.length : Int)
   ·rw [if_pos c2] at H
    have c2b0 : decide (x4_1 < (l0.length : Int)) = true := decide_eq_true c2
    clear c2
    by_cases c3 : 0 ≤ x4_1
    ·rw [if_pos c3] at H
     have c3b0 : decide (0 ≤ x4_1) = true := decide_eq_true c3
     clear c3
     replace H := Option.bind_eq_some_iff.mp H
     obtain ⟨t399, A40, H⟩ := H
     replace H : (if t399 = true then (if (l0.length : Int) > 3 then (some (⟨#[]⟩ : ByteArray)) else (if x3_1.size + 1 ≤ 9223372036854775807 then (if (x3_1 ++ (⟨#[47]⟩ : ByteArray)).size + (rdOf ByteArray.empty l0 x4_1).size ≤ 9223372036854775807 then (spec_JoinPath.l0 k1 l0 ((x3_1 ++ (⟨#[47]⟩ : ByteArray)) ++ (rdOf ByteArray.empty l0 x4_1)) (wrap64 (x4_1 + 1))) else (none)) else (none))) else (some (⟨#[]⟩ : ByteArray))) = some r := H
     have A4 := Aside0.mk A40
     clear A40
     by_cases c5 : t399 = true
     ·subst c5
      have H1 : (if (l0.length : Int) > 3 then (some (⟨#[]⟩ : ByteArray)) else (if x3_1.size + 1 ≤ 9223372036854775807 then (if (x3_1 ++ (⟨#[47]⟩ : ByteArray)).size + (rdOf ByteArray.empty l0 x4_1).size ≤ 9223372036854775807 then (spec_JoinPath.l0 k1 l0 ((x3_1 ++ (⟨#[47]⟩ : ByteArray)) ++ (rdOf ByteArray.empty l0 x4_1)) (wrap64 (x4_1 + 1))) else (none)) else (none))) = some r := by rw [if_pos rfl] at H; exact H
      clear H
      have H := H1
      clear H1
      by_cases c6 : (l0.length : Int) > 3
      ·rw [if_pos c6] at H
       have c6b0 : decide (3 < (l0.length : Int)) = true := decide_eq_true c6
       have c6b1 : decide (3 < l0.length) = true := decide_eq_true (by omega)
       clear c6
       obtain rfl := Option.some.inj H
       have p398 : 0 ≤ (x4_1 : Int) := of_decide_eq_true ma_
       have q398 : x4_1 < (l0.length : Int) := of_decide_eq_true ma_
       obtain ⟨ad398, e398, hx398_0⟩ := Kd.at_string HR0.out x4_1 p398 q398
       cases e398
       replace p398 := eq_true p398
       replace q398 := eq_true q398
       go_wp2_with (first | ((with_reducible refine gate_callee (f := 109) rfl ?_); refine goesL_ (some 15) rfl rfl Tryd.func109 (by kernel_rfl) rfl #[.string (rdOf ByteArray.empty l0 x4_1)] rfl sl_ ?_; (with_reducible refine (spec_WordValid.calls k1 (rdOf ByteArray.empty l0 x4_1) true _ A4.out).mono ?_); rintro e w' ⟨rfl, ⟨nd, rfl⟩⟩; refine ⟨_, rfl, ?_⟩))
       go_ret
       exact ⟨by first | rfl | (simp; done) | (simp [*]; done), by repeat (first | exact Drawn0.refl _ | apply Drawn0.step)⟩
      ·rw [if_neg c6] at H
       have c6b0 : decide (3 < (l0.length : Int)) = false := decide_eq_false c6
       have c6b1 : decide (3 < l0.length) = false := decide_eq_false (by omega)
       clear c6
       by_cases c7 : x3_1.size + 1 ≤ 9223372036854775807
       ·rw [if_pos c7] at H
        have c7b0 := eq_true c7
        have c7b1 : decide (x3_1.size + 1 ≤ 9223372036854775807) = true := decide_eq_true c7
        try have c7b2 : (9223372036854775807 < x3_1.size + 1) = False := eq_false (Nat.not_lt.2 c7)
        by_cases c8 : (x3_1 ++ (⟨#[47]⟩ : ByteArray)).size + (rdOf ByteArray.empty l0 x4_1).size ≤ 9223372036854775807
        ·rw [if_pos c8] at H
         have c8b0 := eq_true c8
         have c8b1 : decide ((x3_1 ++ (⟨#[47]⟩ : ByteArray)).size + (rdOf ByteArray.empty l0 x4_1).size ≤ 9223372036854775807) = true := decide_eq_true c8
         try have c8b2 : (9223372036854775807 < (x3_1 ++ (⟨#[47]⟩ : ByteArray)).size + (rdOf ByteArray.empty l0 x4_1).size) = False := eq_false (Nat.not_lt.2 c8)
         try have c8b5 : (x3_1.size + 1 + (rdOf ByteArray.empty l0 x4_1).size ≤ 9223372036854775807) = True := eq_true (by first | exact c8 | exact (by have h_ := c8; have hl0_ : (⟨#[47]⟩ : ByteArray).size = 1 := rfl; simp only [ByteArray.size_append, ByteArray.size_extract] at h_ ⊢; omega))
         try have c8b6 : decide (x3_1.size + 1 + (rdOf ByteArray.empty l0 x4_1).size ≤ 9223372036854775807) = true := decide_eq_true (of_eq_true c8b5)
         try have c8b7 : (9223372036854775807 < x3_1.size + 1 + (rdOf ByteArray.empty l0 x4_1).size) = False := eq_false (Nat.not_lt.2 (of_eq_true c8b5))
         have H' := Aside0.mk H
         clear H
         have p398 : 0 ≤ (x4_1 : Int) := of_decide_eq_true ma_
         have q398 : x4_1 < (l0.length : Int) := of_decide_eq_true ma_
         obtain ⟨ad398, e398, hx398_0⟩ := Kd.at_string HR0.out x4_1 p398 q398
         cases e398
         replace p398 := eq_true p398
         replace q398 := eq_true q398
         go_wp2_with (first | ((with_reducible refine gate_callee (f := 109) rfl ?_); refine goesL_ (some 15) rfl rfl Tryd.func109 (by kernel_rfl) rfl #[.string (rdOf ByteArray.empty l0 x4_1)] rfl sl_ ?_; (with_reducible refine (spec_WordValid.calls k1 (rdOf ByteArray.empty l0 x4_1) true _ A4.out).mono ?_); rintro e w' ⟨rfl, ⟨nd, rfl⟩⟩; refine ⟨_, rfl, ?_⟩; have p400 : 0 ≤ (x4_1 : Int) := of_decide_eq_true ma_; have q400 : x4_1 < (l0.length : Int) := of_decide_eq_true ma_; obtain ⟨ad400, e400, hx400_0⟩ := Kd.at_string HR0.out x4_1 p400 q400; obtain rfl : ad398 = ad400 := (by injection e400); replace p400 := eq_true p400; replace q400 := eq_true q400))
         go_roundg k1
         case measure => have := HK1.out; omega
         case rel => exact ⟨((x3_1 ++ (⟨#[47]⟩ : ByteArray)) ++ (rdOf ByteArray.empty l0 x4_1)), (wrap64 (x4_1 + 1)), (by first | rfl | (simp; done) | (simp [*]; done)), (by first | rfl | (simp; done) | (simp [*]; done)), H', ⟨by have := HK1.out; omega⟩, by repeat (first | exact Drawn0.refl _ | apply Drawn0.step)⟩
        ·rw [if_neg c8] at H
         exact absurd H (by simp)
       ·rw [if_neg c7] at H
        exact absurd H (by simp)
     ·replace c5 := Bool.eq_false_iff.mpr c5
      subst c5
      have H1 : (some (⟨#[]⟩ : ByteArray)) = some r := by rw [if_neg (show ¬ (false = true) by decide)] at H; exact H
      clear H
      have H := H1
      clear H1
      obtain rfl := Option.some.inj H
      have p398 : 0 ≤ (x4_1 : Int) := of_decide_eq_true ma_
      have q398 : x4_1 < (l0.length : Int) := of_decide_eq_true ma_
      obtain ⟨ad398, e398, hx398_0⟩ := Kd.at_string HR0.out x4_1 p398 q398
      cases e398
      replace p398 := eq_true p398
      replace q398 := eq_true q398
      go_wp2_with (first | ((with_reducible refine gate_callee (f := 109) rfl ?_); refine goesL_ (some 15) rfl rfl Tryd.func109 (by kernel_rfl) rfl #[.string (rdOf ByteArray.empty l0 x4_1)] rfl sl_ ?_; (with_reducible refine (spec_WordValid.calls k1 (rdOf ByteArray.empty l0 x4_1) false _ A4.out).mono ?_); rintro e w' ⟨rfl, ⟨nd, rfl⟩⟩; refine ⟨_, rfl, ?_⟩))
      go_ret
      exact ⟨by first | rfl | (simp; done) | (simp [*]; done), by repeat (first | exact Drawn0.refl _ | apply Drawn0.step)⟩
    ·rw [if_neg c3] at H
     exact absurd H (by simp)
   ·rw [if_neg c2] at H
    have c2b0 : decide (x4_1 < (l0.length : Int)) = false := decide_eq_false c2
    clear c2
    by_cases c9 : x3_1.toList = ([] : List UInt8)
    ·rw [if_pos c9] at H
     have c9b0 : (x3_1.toList == ([] : List UInt8)) = true := beq_iff_eq.mpr c9
     have c9b1 : (x3_1.toList != ([] : List UInt8)) = false := bne_eq_false_iff_eq.mpr c9
     clear c9
     obtain rfl := Option.some.inj H
     go_wp2
     go_ret
     exact ⟨by first | rfl | (simp; done) | (simp [*]; done), by repeat (first | exact Drawn0.refl _ | apply Drawn0.step)⟩
    ·rw [if_neg c9] at H
     have c9b0 : (x3_1.toList == ([] : List UInt8)) = false := beq_eq_false_iff_ne.mpr c9
     have c9b1 : (x3_1.toList != ([] : List UInt8)) = true := bne_iff_ne.mpr c9
     obtain rfl := Option.some.inj H
     go_wp2
     go_ret
     exact ⟨by first | rfl | (simp; done) | (simp [*]; done), by repeat (first | exact Drawn0.refl _ | apply Drawn0.step)⟩
/-! ### strings.Join: function 110 (by the shelf's contract) -/
def strings_Join.f (l0 : List ByteArray) (a1 : ByteArray) : Option ByteArray := if l0.length ≤ 140737488355328 ∧ (joinB l0 a1).size ≤ 140737488355328 then some (joinB l0 a1) else none
theorem strings_Join.calls (A0 : Option Addr) (c0 : Nat) (l0 : List ByteArray) (a1 : ByteArray) (r : ByteArray) (w : World) (hr0 : Kd.C Kd.string w A0 l0.length l0) (hc0 : l0.length ≤ c0) (h : strings_Join.f l0 a1 = some r) :
  Calls Tryd.prog 110 #[.slice A0 l0.length c0, .string a1] w fun e w' => e = .returned (.string r) ∧ Below w.heap.size w w' := lib_Join A0 c0 l0 a1 r w hr0 hc0 h
/-! ### impl_JoinPath: function 92 -/
def impl_JoinPath.l0 : Nat → List ByteArray → List ByteArray → Int → Int → Option (ByteArray)
 | 0, _, _, _, _ => none
 | k + 1, x0, x8, x9, x10 => if x10 < x9 then (if 0 ≤ x10 then (if x10 < (x8.length : Int) then ((impl_WordValid.f k (rdOf ByteArray.empty x8 x10)).bind fun t839 => (if t839 = true then (impl_JoinPath.l0 k x0 x8 x9 (wrap64 (x10 + 1))) else (some (⟨#[]⟩ : ByteArray)))) else (none)) else (none)) else ((strings_Join.f x0 (⟨#[47]⟩ : ByteArray)).bind fun t837 => (if 1 + t837.size ≤ 9223372036854775807 then (some ((⟨#[47]⟩ : ByteArray) ++ t837)) else (none)))
def impl_JoinPath.f (k : Nat) (l0 : List ByteArray) : Option (ByteArray) := if (l0.length : Int) > 3 then (some (⟨#[]⟩ : ByteArray)) else (impl_JoinPath.l0 k l0 l0 (l0.length : Int) 0)
theorem impl_JoinPath.mono_l : ∀ k, (∀ y0 y1 y2 y3, LeO (impl_JoinPath.l0 k y0 y1 y2 y3) (impl_JoinPath.l0 (k + 1) y0 y1 y2 y3))
 | 0 => fun _ _ _ _ r h => by simp [impl_JoinPath.l0] at h
 | k + 1 => by
  have ih0 := impl_JoinPath.mono_l k
  ·intro y0 y1 y2 y3
   unfold impl_JoinPath.l0
   repeat' first
   | (with_reducible exact ih0 _ _ _ _)
   | (with_reducible exact impl_WordValid.mono _ _)
   | (with_reducible exact LeO.refl _)
   | (with_reducible exact LeO.none _)
   | (with_reducible refine LeO.ite ?_ ?_)
   | (with_reducible refine LeO.bind ?_ (fun _ => ?_))
   | exact ih0 _ _ _ _
   | exact impl_WordValid.mono _ _
   | exact LeO.none _
   | refine LeO.ite ?_ ?_
   | refine LeO.bind ?_ (fun _ => ?_)
theorem impl_JoinPath.mono : ∀ a0 k, LeO (impl_JoinPath.f k a0) (impl_JoinPath.f (k + 1) a0) := by
 intro a0 k
 have ih0 := impl_JoinPath.mono_l k
 unfold impl_JoinPath.f
 repeat' first
   | (with_reducible exact ih0 _ _ _ _)
   | (with_reducible exact impl_WordValid.mono _ _)
   | (with_reducible exact LeO.refl _)
   | (with_reducible exact LeO.none _)
   | (with_reducible refine LeO.ite ?_ ?_)
   | (with_reducible refine LeO.bind ?_ (fun _ => ?_))
   | exact ih0 _ _ _ _
   | exact impl_WordValid.mono _ _
   | exact LeO.none _
   | refine LeO.ite ?_ ?_
   | refine LeO.bind ?_ (fun _ => ?_)
set_option maxHeartbeats 8000000 in
set_option maxRecDepth 100000 in
theorem impl_JoinPath.calls (k : Nat) (A0 : Option Addr) (c0 : Nat) (l0 : List ByteArray) (r : ByteArray) (w : World) (hr0 : Kd.C Kd.string w A0 l0.length l0) (hc0 : l0.length ≤ c0) (h : impl_JoinPath.f k l0 = some r) :
  Calls Tryd.prog 92 #[.slice A0 l0.length c0] w fun e w' => e = .returned (.string r) ∧ Below w.heap.size w w' := by
 have HR0 := Aside0.mk hr0
 have HC0 := Aside0.mk hc0
 clear hr0 hc0
 have HB := Aside0.mk (Below.refl w.heap.size w)
 have H : (if (l0.length : Int) > 3 then (some (⟨#[]⟩ : ByteArray)) else (impl_JoinPath.l0 k l0 l0 (l0.length : Int) 0)) = some r := h
 clear h
 by_cases c2 : (l0.length : Int) > 3
 ·rw [if_pos c2] at H
  have c2b0 : decide (3 < (l0.length : Int)) = true := decide_eq_true c2
  have c2b1 : decide (3 < l0.length) = true := decide_eq_true (by omega)
  clear c2
  obtain rfl := Option.some.inj H
  go_enter Tryd.func92, Tryd.ntmps92
  go_wp2
  go_ret
  exact ⟨er_, hb_⟩
 ·rw [if_neg c2] at H
  have c2b0 : decide (3 < (l0.length : Int)) = false := decide_eq_false c2
  have c2b1 : decide (3 < l0.length) = false := decide_eq_false (by omega)
  clear c2
  have H' := Aside0.mk H
  clear H
  go_enter Tryd.func92, Tryd.ntmps92
  go_wp2
  go_loopg [10] k (fun kq v10 w' => ∃ (x10_1 : Int), v10 = .int .i64 x10_1 ∧ Aside0 (impl_JoinPath.l0 kq l0 l0 (l0.length : Int) x10_1 = some r) ∧ Aside0 (kq ≤ k) ∧ Aside0 (Below w.heap.size w w'))
  case atStart => exact ⟨(0), (by first | rfl | (simp; done) | (simp [*]; done)), H', ⟨Nat.le_refl _⟩, ⟨hb_⟩⟩
  case round =>
   clear H'
   try clear c2
   try clear c2b0
   try clear c2b1
   try clear p2
   obtain ⟨x10_1, rfl, HA, HK1, HB⟩ := hrel
   cases gk with
   | zero => exact absurd HA.out (by simp [impl_JoinPath.l0])
   | succ k1 =>
    have H := HA.out
    clear HA
    simp only [impl_JoinPath.l0] at H
    by_cases c3 : x10_1 < (l0.length : Int)
    ·rw [if_pos c3] at H
     have c3b0 : decide (x10_1 < (l0.length : Int)) = true := decide_eq_true c3
     clear c3
     by_cases c4 : 0 ≤ x10_1
     ·rw [if_pos c4] at H
      have c4b0 : decide (0 ≤ x10_1) = true := decide_eq_true c4
      clear c4
      by_cases c5 : x10_1 < (l0.length : Int)
      ·rw [if_pos c5] at H
       have c5b0 : decide (x10_1 < (l0.length : Int)) = true := decide_eq_true c5
       clear c5
       replace H := Option.bind_eq_some_iff.mp H
       obtain ⟨t839, A60, H⟩ := H
       replace H : (if t839 = true then (impl_JoinPath.l0 k1 l0 l0 (l0.length : Int) (wrap64 (x10_1 + 1))) else (some (⟨#[]⟩ : ByteArray))) = some r := H
       have A6 := Aside0.mk A60
       clear A60
       by_cases c7 : t839 = true
       ·subst c7
        have H1 : (impl_JoinPath.l0 k1 l0 l0 (l0.length : Int) (wrap64 (x10_1 + 1))) = some r := by rw [if_pos rfl] at H; exact H
        clear H
        have H := H1
        clear H1
        have H' := Aside0.mk H
        clear H
        have p838 : 0 ≤ (x10_1 : Int) := of_decide_eq_true ma_
        have q838 : x10_1 < (l0.length : Int) := of_decide_eq_true ma_
        obtain ⟨ad838, e838, hx838_0⟩ := Kd.at_string HR0.out x10_1 p838 q838
        cases e838
        replace hx838_0 := (HB.out.cell (World.block_lt_of_cell? w _ hx838_0)).trans hx838_0
        replace p838 := eq_true p838
        replace q838 := eq_true q838
        go_wp2_with (first | ((with_reducible refine gate_callee (f := 59) rfl ?_); refine goesL_ (some 15) rfl rfl Tryd.func59 (by kernel_rfl) rfl #[.string (rdOf ByteArray.empty l0 x10_1)] rfl sl_ ?_; (with_reducible refine (impl_WordValid.calls k1 (rdOf ByteArray.empty l0 x10_1) true _ A6.out).mono ?_); rintro e w' ⟨rfl, ⟨nd, rfl⟩⟩; refine ⟨_, rfl, ?_⟩))
        go_roundg k1
        case measure => have := HK1.out; omega
        case rel => exact ⟨(wrap64 (x10_1 + 1)), (by first | rfl | (simp; done) | (simp [*]; done)), H', ⟨by have := HK1.out; omega⟩, ⟨hb_⟩⟩
       ·replace c7 := Bool.eq_false_iff.mpr c7
        subst c7
        have H1 : (some (⟨#[]⟩ : ByteArray)) = some r := by rw [if_neg (show ¬ (false = true) by decide)] at H; exact H
        clear H
        have H := H1
        clear H1
        obtain rfl := Option.some.inj H
        have p838 : 0 ≤ (x10_1 : Int) := of_decide_eq_true ma_
        have q838 : x10_1 < (l0.length : Int) := of_decide_eq_true ma_
        obtain ⟨ad838, e838, hx838_0⟩ := Kd.at_string HR0.out x10_1 p838 q838
        cases e838
        replace hx838_0 := (HB.out.cell (World.block_lt_of_cell? w _ hx838_0)).trans hx838_0
        replace p838 := eq_true p838
        replace q838 := eq_true q838
        go_wp2_with (first | ((with_reducible refine gate_callee (f := 59) rfl ?_); refine goesL_ (some 15) rfl rfl Tryd.func59 (by kernel_rfl) rfl #[.string (rdOf ByteArray.empty l0 x10_1)] rfl sl_ ?_; (with_reducible refine (impl_WordValid.calls k1 (rdOf ByteArray.empty l0 x10_1) false _ A6.out).mono ?_); rintro e w' ⟨rfl, ⟨nd, rfl⟩⟩; refine ⟨_, rfl, ?_⟩))
        go_ret
        exact ⟨er_, hb_⟩
      ·rw [if_neg c5] at H
       exact absurd H (by simp)
     ·rw [if_neg c4] at H
      exact absurd H (by simp)
    ·rw [if_neg c3] at H
     have c3b0 : decide (x10_1 < (l0.length : Int)) = false := decide_eq_false c3
     clear c3
     replace H := Option.bind_eq_some_iff.mp H
     obtain ⟨t837, A80, H⟩ := H
     replace H : (if 1 + t837.size ≤ 9223372036854775807 then (some ((⟨#[47]⟩ : ByteArray) ++ t837)) else (none)) = some r := H
     have A8 := Aside0.mk A80
     clear A80
     by_cases c9 : 1 + t837.size ≤ 9223372036854775807
     ·rw [if_pos c9] at H
      have c9b0 := eq_true c9
      have c9b1 : decide (1 + t837.size ≤ 9223372036854775807) = true := decide_eq_true c9
      try have c9b2 : (9223372036854775807 < 1 + t837.size) = False := eq_false (Nat.not_lt.2 c9)
      obtain rfl := Option.some.inj H
      go_wp2_with (first | ((with_reducible refine gate_callee (f := 110) rfl ?_); refine goesL_ (some 19) rfl rfl Tryd.func110 (by kernel_rfl) rfl #[.slice A0 l0.length c0, .string (⟨#[47]⟩ : ByteArray)] rfl sl_ ?_; (with_reducible refine (strings_Join.calls _ _ l0 (⟨#[47]⟩ : ByteArray) t837 _ ?side1 ?side2 A8.out).mono ?_); (case side1 => exact kC_ (Kd.C_below HR0.out HB.out)); (case side2 => exact HC0.out); rintro e w10 ⟨rfl, hb⟩; refine ⟨_, rfl, ?_⟩; replace HB := Aside0.mk (below_step hb_ hb); (try clear hb)))
      go_ret
      exact ⟨er_, hb_⟩
     ·rw [if_neg c9] at H
      exact absurd H (by simp)
/-! ### laws_eqStringS: function 35 -/
def laws_eqStringS.l0 : Nat → List ByteArray → List ByteArray → Int → Option (Bool)
 | 0, _, _, _ => none
 | k + 1, x0, x1, x5 => if x5 < (x0.length : Int) then (if 0 ≤ x5 then (if x5 < (x1.length : Int) then (if (rdOf ByteArray.empty x0 x5).toList = (rdOf ByteArray.empty x1 x5).toList then (laws_eqStringS.l0 k x0 x1 (wrap64 (x5 + 1))) else (some false)) else (none)) else (none)) else (some true)
def laws_eqStringS.f (k : Nat) (l0 : List ByteArray) (l1 : List ByteArray) : Option (Bool) := if (l0.length : Int) = (l1.length : Int) then (laws_eqStringS.l0 k l0 l1 0) else (some false)
theorem laws_eqStringS.mono_l : ∀ k, (∀ y0 y1 y2, LeO (laws_eqStringS.l0 k y0 y1 y2) (laws_eqStringS.l0 (k + 1) y0 y1 y2))
 | 0 => fun _ _ _ r h => by simp [laws_eqStringS.l0] at h
 | k + 1 => by
  have ih0 := laws_eqStringS.mono_l k
  ·intro y0 y1 y2
   unfold laws_eqStringS.l0
   repeat' first
   | (with_reducible exact ih0 _ _ _)
   | (with_reducible exact LeO.refl _)
   | (with_reducible exact LeO.none _)
   | (with_reducible refine LeO.ite ?_ ?_)
   | (with_reducible refine LeO.bind ?_ (fun _ => ?_))
   | exact ih0 _ _ _
   | exact LeO.none _
   | refine LeO.ite ?_ ?_
   | refine LeO.bind ?_ (fun _ => ?_)
theorem laws_eqStringS.mono : ∀ a0 a1 k, LeO (laws_eqStringS.f k a0 a1) (laws_eqStringS.f (k + 1) a0 a1) := by
 intro a0 a1 k
 have ih0 := laws_eqStringS.mono_l k
 unfold laws_eqStringS.f
 repeat' first
   | (with_reducible exact ih0 _ _ _)
   | (with_reducible exact LeO.refl _)
   | (with_reducible exact LeO.none _)
   | (with_reducible refine LeO.ite ?_ ?_)
   | (with_reducible refine LeO.bind ?_ (fun _ => ?_))
   | exact ih0 _ _ _
   | exact LeO.none _
   | refine LeO.ite ?_ ?_
   | refine LeO.bind ?_ (fun _ => ?_)
set_option maxHeartbeats 8000000 in
set_option maxRecDepth 100000 in
theorem laws_eqStringS.calls (k : Nat) (A0 : Option Addr) (c0 : Nat) (l0 : List ByteArray) (A1 : Option Addr) (c1 : Nat) (l1 : List ByteArray) (r : Bool) (w : World) (hr0 : Kd.C Kd.string w A0 l0.length l0) (hc0 : l0.length ≤ c0) (hr1 : Kd.C Kd.string w A1 l1.length l1) (hc1 : l1.length ≤ c1) (h : laws_eqStringS.f k l0 l1 = some r) :
  Calls Tryd.prog 35 #[.slice A0 l0.length c0, .slice A1 l1.length c1] w fun e w' => e = .returned (.bool r) ∧ Drawn0 w w' := by
 have HR0 := Aside0.mk hr0
 have HC0 := Aside0.mk hc0
 clear hr0 hc0
 have HR1 := Aside0.mk hr1
 have HC1 := Aside0.mk hc1
 clear hr1 hc1
 have H : (if (l0.length : Int) = (l1.length : Int) then (laws_eqStringS.l0 k l0 l1 0) else (some false)) = some r := h
 clear h
 by_cases c3 : (l0.length : Int) = (l1.length : Int)
 ·rw [if_pos c3] at H
  have c3b0 : ((l0.length : Int) == (l1.length : Int)) = true := beq_iff_eq.mpr c3
  have c3b1 : ((l0.length : Int) != (l1.length : Int)) = false := bne_eq_false_iff_eq.mpr c3
  have c3b2 : (l0.length == l1.length) = true := by first | simpa using c3 | (simp at c3 ⊢; omega)
  clear c3
  have H' := Aside0.mk H
  clear H
  go_enter Tryd.func35, Tryd.ntmps35
  go_wp2
  repeat (go_quiet (fail); try go_wp2)
  go_loopg [5] k (fun kq v5 w' => ∃ (x5_1 : Int), v5 = .int .i64 x5_1 ∧ Aside0 (laws_eqStringS.l0 kq l0 l1 x5_1 = some r) ∧ Aside0 (kq ≤ k) ∧ Drawn0 w w')
  case atStart => exact ⟨(0), (by first | rfl | (simp; done) | (simp [*]; done)), H', ⟨Nat.le_refl _⟩, by repeat (first | exact Drawn0.refl _ | apply Drawn0.step)⟩
  case round =>
   clear H'
   try clear c1
   try clear p2
   try clear c3
   try clear c3b0
   try clear c3b1
   try clear c3b2
   obtain ⟨x5_1, rfl, HA, HK1, ⟨m1, rfl⟩⟩ := hrel
   cases gk with
   | zero => exact absurd HA.out (by simp [laws_eqStringS.l0])
   | succ k1 =>
    have H := HA.out
    clear HA
    simp only [laws_eqStringS.l0] at H
    by_cases c4 : x5_1 < (l0.length : Int)
    ·rw [if_pos c4] at H
     have c4b0 : decide (x5_1 < (l0.length : Int)) = true := decide_eq_true c4
     clear c4
     by_cases c5 : 0 ≤ x5_1
     ·rw [if_pos c5] at H
      have c5b0 : decide (0 ≤ x5_1) = true := decide_eq_true c5
      clear c5
      by_cases c6 : x5_1 < (l1.length : Int)
      ·rw [if_pos c6] at H
       have c6b0 : decide (x5_1 < (l1.length : Int)) = true := decide_eq_true c6
       clear c6
       by_cases c7 : (rdOf ByteArray.empty l0 x5_1).toList = (rdOf ByteArray.empty l1 x5_1).toList
       ·rw [if_pos c7] at H
        have c7b0 : ((rdOf ByteArray.empty l0 x5_1).toList == (rdOf ByteArray.empty l1 x5_1).toList) = true := beq_iff_eq.mpr c7
        have c7b1 : ((rdOf ByteArray.empty l0 x5_1).toList != (rdOf ByteArray.empty l1 x5_1).toList) = false := bne_eq_false_iff_eq.mpr c7
        clear c7
        have H' := Aside0.mk H
        clear H
        have p874 : 0 ≤ (x5_1 : Int) := of_decide_eq_true ma_
        have q874 : x5_1 < (l0.length : Int) := of_decide_eq_true ma_
        obtain ⟨ad874, e874, hx874_0⟩ := Kd.at_string HR0.out x5_1 p874 q874
        cases e874
        replace p874 := eq_true p874
        replace q874 := eq_true q874
        have p875 : 0 ≤ (x5_1 : Int) := of_decide_eq_true ma_
        have q875 : x5_1 < (l1.length : Int) := of_decide_eq_true ma_
        obtain ⟨ad875, e875, hx875_0⟩ := Kd.at_string HR1.out x5_1 p875 q875
        cases e875
        replace p875 := eq_true p875
        replace q875 := eq_true q875
        go_wp2
        repeat (go_quiet (fail); try go_wp2)
        go_roundg k1
        case measure => have := HK1.out; omega
        case rel => exact ⟨(wrap64 (x5_1 + 1)), (by first | rfl | (simp; done) | (simp [*]; done)), H', ⟨by have := HK1.out; omega⟩, by repeat (first | exact Drawn0.refl _ | apply Drawn0.step)⟩
       ·rw [if_neg c7] at H
        have c7b0 : ((rdOf ByteArray.empty l0 x5_1).toList == (rdOf ByteArray.empty l1 x5_1).toList) = false := beq_eq_false_iff_ne.mpr c7
        have c7b1 : ((rdOf ByteArray.empty l0 x5_1).toList != (rdOf ByteArray.empty l1 x5_1).toList) = true := bne_iff_ne.mpr c7
        obtain rfl := Option.some.inj H
        have p874 : 0 ≤ (x5_1 : Int) := of_decide_eq_true ma_
        have q874 : x5_1 < (l0.length : Int) := of_decide_eq_true ma_
        obtain ⟨ad874, e874, hx874_0⟩ := Kd.at_string HR0.out x5_1 p874 q874
        cases e874
        replace p874 := eq_true p874
        replace q874 := eq_true q874
        have p875 : 0 ≤ (x5_1 : Int) := of_decide_eq_true ma_
        have q875 : x5_1 < (l1.length : Int) := of_decide_eq_true ma_
        obtain ⟨ad875, e875, hx875_0⟩ := Kd.at_string HR1.out x5_1 p875 q875
        cases e875
        replace p875 := eq_true p875
        replace q875 := eq_true q875
        go_wp2
        repeat (go_quiet (fail); try go_wp2)
        go_ret
        exact ⟨by first | rfl | (simp; done) | (simp [*]; done), by repeat (first | exact Drawn0.refl _ | apply Drawn0.step)⟩
      ·rw [if_neg c6] at H
       exact absurd H (by simp)
     ·rw [if_neg c5] at H
      exact absurd H (by simp)
    ·rw [if_neg c4] at H
     have c4b0 : decide (x5_1 < (l0.length : Int)) = false := decide_eq_false c4
     clear c4
     obtain rfl := Option.some.inj H
     go_wp2
     repeat (go_quiet (fail); try go_wp2)
     go_ret
     exact ⟨by first | rfl | (simp; done) | (simp [*]; done), by repeat (first | exact Drawn0.refl _ | apply Drawn0.step)⟩
 ·rw [if_neg c3] at H
  have c3b0 : ((l0.length : Int) == (l1.length : Int)) = false := beq_eq_false_iff_ne.mpr c3
  have c3b1 : ((l0.length : Int) != (l1.length : Int)) = true := bne_iff_ne.mpr c3
  have c3b2 : (l0.length == l1.length) = false := by first | simpa using c3 | (simp at c3 ⊢; omega)
  obtain rfl := Option.some.inj H
  go_enter Tryd.func35, Tryd.ntmps35
  go_wp2
  repeat (go_quiet (fail); try go_wp2)
  go_ret
  exact ⟨by first | rfl | (simp; done) | (simp [*]; done), by repeat (first | exact Drawn0.refl _ | apply Drawn0.step)⟩
end Go.Proofs.YtjgbidklkhohfaaDoor.P
