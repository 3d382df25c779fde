-- The functions of the seat as plain Lean functions, made by the kit's print.py for all laws at once. Not trusted: Lean checks it.
import Derived.Test.YtjgbidklkhohfaaGreatDoorPx0
import Derived.Test.YtjgbidklkhohfaaGreatDoorPx1
import Derived.Test.YtjgbidklkhohfaaGreatDoorPx2
import Derived.Test.YtjgbidklkhohfaaGreatDoorPx3
import Derived.Test.YtjgbidklkhohfaaGreatDoorPx6
namespace Go.Proofs.YtjgbidklkhohfaaGreatDoor.P
open Go.RowKit Go.Proofs.YtjgbidklkhohfaaGreatDoorW.PrintWords Go.Proofs.YtjgbidklkhohfaaGreatDoorW.PrintLast Go.Proofs.YtjgbidklkhohfaaGreatDoorW.PrintMore
attribute [local go_sem] max2_int min2_int max_two min_two max_three min_three max_four min_four   -- for this text's walks alone
set_option linter.unusedVariables false
set_option linter.unusedSimpArgs false
/-! ### spec_PathProof: function 37 -/
mutual
def spec_PathProof.l0 : Nat → List (S46) → Int → List ByteArray → List ByteArray → Bool → Int → Option (List ByteArray)
 | 0, _, _, _, _, _, _ => none
 | k + 1, x0, x1, x7, x8, x11, x12 => if x12 ≤ (x8.length : Int) then (spec_PathProof.j1 k x0 x1 x7 x8 x11 x12 x11) else (spec_PathProof.j1 k x0 x1 x7 x8 x11 x12 false)
def spec_PathProof.j1 : Nat → List (S46) → Int → List ByteArray → List ByteArray → Bool → Int → Bool → Option (List ByteArray)
 | 0, _, _, _, _, _, _, _ => none
 | k + 1, x0, x1, x7, x8, x11, x12, x36 => if x36 = true then (if 0 ≤ x12 then (if x12 ≤ (x8.length : Int) then ((spec_l9Walk.f k x0 x1 (x8.take (x12 : Int).toNat)).bind fun bt429 => ((spec_l4Get.f k x0 bt429.1).bind fun bt431 => (if x7.length < 8796093022208 then (spec_PathProof.l0 k x0 x1 (x7 ++ [bt431.1]) x8 x11 (wrap64 (x12 + 1))) else (none)))) else (none)) else (none)) else (some x7)
end
def spec_PathProof.f (k : Nat) (l0 : List (S46)) (a1 : Int) (a2 : ByteArray) : Option (List ByteArray) := (spec_PathParts.f k a2).bind fun bt419 => ((spec_WalkTo.f k l0 a1 a2).bind fun bt423 => (spec_PathProof.l0 k l0 a1 (([] : List ByteArray)) bt419.1 bt423.2 0))
theorem spec_PathProof.mono_l : ∀ k, (∀ y0 y1 y2 y3 y4 y5, LeO (spec_PathProof.l0 k y0 y1 y2 y3 y4 y5) (spec_PathProof.l0 (k + 1) y0 y1 y2 y3 y4 y5)) ∧ (∀ y0 y1 y2 y3 y4 y5 y6, LeO (spec_PathProof.j1 k y0 y1 y2 y3 y4 y5 y6) (spec_PathProof.j1 (k + 1) y0 y1 y2 y3 y4 y5 y6))
 | 0 => ⟨fun _ _ _ _ _ _ r h => by simp [spec_PathProof.l0] at h, fun _ _ _ _ _ _ _ r h => by simp [spec_PathProof.j1] at h⟩
 | k + 1 => by
  obtain ⟨ih0, ih1⟩ := spec_PathProof.mono_l k
  refine ⟨?_, ?_⟩
  ·intro y0 y1 y2 y3 y4 y5
   unfold spec_PathProof.l0
   repeat' first
   | (with_reducible exact ih0 _ _ _ _ _ _)
   | (with_reducible exact ih1 _ _ _ _ _ _ _)
   | (with_reducible exact spec_PathParts.mono _ _)
   | (with_reducible exact spec_WalkTo.mono _ _ _ _)
   | (with_reducible exact spec_l4Get.mono _ _ _)
   | (with_reducible exact spec_l9Walk.mono _ _ _ _)
   | (with_reducible exact LeO.refl _)
   | (with_reducible exact LeO.none _)
   | (with_reducible refine LeO.ite ?_ ?_)
   | (with_reducible refine LeO.bind ?_ (fun _ => ?_))
   | exact ih0 _ _ _ _ _ _
   | exact ih1 _ _ _ _ _ _ _
   | exact spec_PathParts.mono _ _
   | exact spec_WalkTo.mono _ _ _ _
   | exact spec_l4Get.mono _ _ _
   | exact spec_l9Walk.mono _ _ _ _
   | exact LeO.none _
   | refine LeO.ite ?_ ?_
   | refine LeO.bind ?_ (fun _ => ?_)
  ·intro y0 y1 y2 y3 y4 y5 y6
   unfold spec_PathProof.j1
   repeat' first
   | (with_reducible exact ih0 _ _ _ _ _ _)
   | (with_reducible exact ih1 _ _ _ _ _ _ _)
   | (with_reducible exact spec_PathParts.mono _ _)
   | (with_reducible exact spec_WalkTo.mono _ _ _ _)
   | (with_reducible exact spec_l4Get.mono _ _ _)
   | (with_reducible exact spec_l9Walk.mono _ _ _ _)
   | (with_reducible exact LeO.refl _)
   | (with_reducible exact LeO.none _)
   | (with_reducible refine LeO.ite ?_ ?_)
   | (with_reducible refine LeO.bind ?_ (fun _ => ?_))
   | exact ih0 _ _ _ _ _ _
   | exact ih1 _ _ _ _ _ _ _
   | exact spec_PathParts.mono _ _
   | exact spec_WalkTo.mono _ _ _ _
   | exact spec_l4Get.mono _ _ _
   | exact spec_l9Walk.mono _ _ _ _
   | exact LeO.none _
   | refine LeO.ite ?_ ?_
   | refine LeO.bind ?_ (fun _ => ?_)
theorem spec_PathProof.mono : ∀ a0 a1 a2 k, LeO (spec_PathProof.f k a0 a1 a2) (spec_PathProof.f (k + 1) a0 a1 a2) := by
 intro a0 a1 a2 k
 obtain ⟨ih0, ih1⟩ := spec_PathProof.mono_l k
 unfold spec_PathProof.f
 repeat' first
   | (with_reducible exact ih0 _ _ _ _ _ _)
   | (with_reducible exact ih1 _ _ _ _ _ _ _)
   | (with_reducible exact spec_PathParts.mono _ _)
   | (with_reducible exact spec_WalkTo.mono _ _ _ _)
   | (with_reducible exact spec_l4Get.mono _ _ _)
   | (with_reducible exact spec_l9Walk.mono _ _ _ _)
   | (with_reducible exact LeO.refl _)
   | (with_reducible exact LeO.none _)
   | (with_reducible refine LeO.ite ?_ ?_)
   | (with_reducible refine LeO.bind ?_ (fun _ => ?_))
   | exact ih0 _ _ _ _ _ _
   | exact ih1 _ _ _ _ _ _ _
   | exact spec_PathParts.mono _ _
   | exact spec_WalkTo.mono _ _ _ _
   | exact spec_l4Get.mono _ _ _
   | exact spec_l9Walk.mono _ _ _ _
   | exact LeO.none _
   | refine LeO.ite ?_ ?_
   | refine LeO.bind ?_ (fun _ => ?_)
set_option maxHeartbeats 8000000 in
set_option maxRecDepth 100000 in
theorem spec_PathProof.calls (k : Nat) (A0 : Option Addr) (c0 : Nat) (l0 : List (S46)) (a1 : Int) (a2 : ByteArray) (r : List ByteArray) (w : World) (hr0 : Kd.C k46 w A0 l0.length l0) (hc0 : l0.length ≤ c0) (h : spec_PathProof.f k l0 a1 a2 = some r) :
  Calls Tryz.prog 37 #[.slice A0 l0.length c0, .int .i64 a1, .string a2] w fun e w' => ∃ v0_ : Value, e = .returned (v0_) ∧ Kd.R Kd.string 9 w' w.heap.size (fun _ => True) v0_ r ∧ Below w.heap.size w w' := by
 have HR0 := Aside0.mk hr0
 have HC0 := Aside0.mk hc0
 clear hr0 hc0
 have HB := Aside0.mk (Below.refl w.heap.size w)
 have H : ((spec_PathParts.f k a2).bind fun bt419 => ((spec_WalkTo.f k l0 a1 a2).bind fun bt423 => (spec_PathProof.l0 k l0 a1 (([] : List ByteArray)) bt419.1 bt423.2 0))) = some r := h
 clear h
 obtain ⟨y416, hy416⟩ : ∃ y_ : List ByteArray, y_ = (([] : List ByteArray)) := ⟨_, rfl⟩
 replace H : ((spec_PathParts.f k a2).bind fun bt419 => ((spec_WalkTo.f k l0 a1 a2).bind fun bt423 => (spec_PathProof.l0 k l0 a1 y416 bt419.1 bt423.2 0))) = some r := by first | (rw [hy416]; with_reducible exact H) | (have H2_ := (Option.bind_some _ _).symm.trans H; rw [hy416]; with_reducible exact H2_) | (have H2_ := (Option.bind_some _ _).symm.trans H; with_reducible exact H2_) | with_reducible exact H | (rw [hy416]; exact H) | exact H
 have Ny416 := Aside0.mk hy416
 clear hy416
 replace H := Option.bind_eq_some_iff.mp H
 obtain ⟨⟨t419, t420⟩, A40, H⟩ := H
 replace H : ((spec_WalkTo.f k l0 a1 a2).bind fun bt423 => (spec_PathProof.l0 k l0 a1 y416 t419 bt423.2 0)) = some r := H
 have A4 := Aside0.mk A40
 clear A40
 replace H := Option.bind_eq_some_iff.mp H
 obtain ⟨⟨t423, t424⟩, A50, H⟩ := H
 replace H : (spec_PathProof.l0 k l0 a1 y416 t419 t424 0) = some r := H
 have A5 := Aside0.mk A50
 clear A50
 have H' := Aside0.mk H
 clear H
 go_enter Tryz.func37, Tryz.ntmps37
 go_wp2_with (first | ((with_reducible refine gate_dst (N := 17) rfl ?_); refine Kd.R_lit Kd.string _ 9 ?hg (N := 17) ?hd (xs := ([] : List ByteArray)) (inner := []) (ok := fun _ => True) (okp := fun _ => True) ?hr ?hp (fun _ hk => hk) trivial (Below.refl _ _) (Nat.le_refl _) (by simp) ?_; (case hd => rfl); (case hg => rfl); (case hr => first | (go_simp; done) | (go_simp; rfl)); (case hp => exact (Reps.none _ _)); intro v417 w6 ho7 hb hg_ hnew_; clear hg_ hnew_; (first | rw [← Ny416.out] at ho7 | (simp only [Int.reduceToNat] at ho7; rw [← Ny416.out] at ho7)); have HO418 := Aside0.mk (Kd.R_lower ho7 (below_size hb_)); replace HB := Aside0.mk (below_step hb_ hb); clear hb ho7) | ((with_reducible refine gate_callee (f := 30) rfl ?_); refine goesL_ (some 20) rfl rfl Tryz.func30 (by kernel_rfl) rfl #[.string a2] rfl sl_ ?_; (with_reducible refine (spec_PathParts.calls k a2 t419 t420 _ A4.out).mono ?_); rintro e w8 ⟨v421, rfl, ho0, hb⟩; refine ⟨_, rfl, ?_⟩; have HO422 := Aside0.mk (Kd.R_lower (Kd.R_new' ho0 (Kd.R_lt (kR_ HO418.out))) (below_size hb_)); replace HO418 := Aside0.mk (Kd.R_elder' (kR_ HO418.out) (Kd.R_base ho0) hb); replace HB := Aside0.mk (below_step hb_ hb); (try clear hb); (try clear hk); (try clear ho0)) | ((with_reducible refine gate_callee (f := 55) rfl ?_); refine goesL_ (some 27) rfl rfl Tryz.func55 (by kernel_rfl) rfl #[.slice A0 l0.length c0, .int .i64 a1, .string a2] rfl sl_ ?_; (with_reducible refine (spec_WalkTo.calls k _ _ l0 a1 a2 t423 t424 _ ?side1 ?side2 A5.out).mono ?_); (case side1 => exact kC_ (Kd.C_below HR0.out HB.out)); (case side2 => exact HC0.out); rintro e w9 ⟨rfl, hb⟩; refine ⟨_, rfl, ?_⟩; replace HO418 := Aside0.mk (Kd.R_below (kR_ HO418.out) hb); replace HO422 := Aside0.mk (Kd.R_below (kR_ HO422.out) hb); replace HB := Aside0.mk (below_step hb_ hb); (try clear hb); (try clear hk)))
 go_loopg [7, 12] k (fun kq v7 v12 w' => ∃ (x7_1 : List ByteArray) (x12_1 : Int), v12 = .int .i64 x12_1 ∧ Aside0 (spec_PathProof.l0 kq l0 a1 x7_1 t419 t424 x12_1 = some r) ∧ Aside0 (kq ≤ k) ∧ Aside0 (Kd.R Kd.string 9 w' w.heap.size (fun k_ => some k_ ≠ (v421 : Value).ownBlock) v7 x7_1) ∧ Aside0 (Kd.R Kd.string 9 w' w.heap.size (fun k_ => some k_ ≠ (v7 : Value).ownBlock) v421 t419) ∧ Aside0 (Below w.heap.size w w'))
 case atStart => exact ⟨(y416), (0), (by first | rfl | (simp; done) | (simp [*]; done)), H', ⟨Nat.le_refl _⟩, ⟨by (with_reducible repeat (first | apply Kd.R_alloc | apply Kd.R_drewN | apply Kd.R_drew)); exact Kd.R_mono HO418.out (fun _ hk => hk.2)⟩, ⟨by (with_reducible repeat (first | apply Kd.R_alloc | apply Kd.R_drewN | apply Kd.R_drew)); exact Kd.R_mono HO422.out (fun _ hk => hk.2)⟩, ⟨hb_⟩⟩
 case round =>
  clear H'
  try clear p2
  try clear c3
  try clear c5
  obtain ⟨x7_1, x12_1, rfl, HA, HK1, HO_7, HO_8, HB⟩ := hrel
  cases gk with
  | zero => exact absurd HA.out (by simp [spec_PathProof.l0])
  | succ k1 =>
   have H := HA.out
   clear HA
   simp only [spec_PathProof.l0] at H
   have HC10 := Aside0.mk H
   clear H
   go_upto_region 5 with (fail)
   go_cut [36] (fun v36 wc => ∃ (kq : Nat) (x36_9 : Bool), v36 = .bool x36_9 ∧ Aside0 (spec_PathProof.j1 kq l0 a1 x7_1 t419 t424 x12_1 x36_9 = some r) ∧ Aside0 (kq ≤ k1) ∧ Aside0 (Kd.R Kd.string 9 wc w.heap.size (fun k_ => some k_ ≠ (v421 : Value).ownBlock) u7 x7_1) ∧ Aside0 (Kd.R Kd.string 9 wc w.heap.size (fun k_ => some k_ ≠ (u7 : Value).ownBlock) v421 t419) ∧ Aside0 (Below w.heap.size w wc))
   case first =>
    have H := HC10.out
    clear HC10
    by_cases c11 : x12_1 ≤ (t419.length : Int)
    ·rw [if_pos c11] at H
     have c11b0 : decide (x12_1 ≤ (t419.length : Int)) = true := decide_eq_true c11
     clear c11
     (first | rw [c11b0] | (simp only [i64_w, i32_w]; rw [c11b0]) | skip)
     have H' := Aside0.mk H
     clear H
     obtain ⟨Ao12, co12, eo12⟩ := Kd.R_slice HO_8.out
     subst eo12
     go_wp2
     go_meet
     case rel => exact ⟨_, (t424), (by first | rfl | (simp; done) | (simp [*]; done)), H', ⟨by have := HK1.out; first | omega | exact Nat.le_refl _⟩, ⟨by (with_reducible repeat (first | apply Kd.R_alloc | apply Kd.R_drewN | apply Kd.R_drew)); exact HO_7.out⟩, ⟨by (with_reducible repeat (first | apply Kd.R_alloc | apply Kd.R_drewN | apply Kd.R_drew)); exact HO_8.out⟩, ⟨hb_⟩⟩
    ·rw [if_neg c11] at H
     have c11b0 : decide (x12_1 ≤ (t419.length : Int)) = false := decide_eq_false c11
     clear c11
     (first | rw [c11b0] | (simp only [i64_w, i32_w]; rw [c11b0]) | skip)
     have H' := Aside0.mk H
     clear H
     obtain ⟨Ao13, co13, eo13⟩ := Kd.R_slice HO_8.out
     subst eo13
     go_wp2
     go_meet
     case rel => exact ⟨_, (false), (by first | rfl | (simp; done) | (simp [*]; done)), H', ⟨by have := HK1.out; first | omega | exact Nat.le_refl _⟩, ⟨by (with_reducible repeat (first | apply Kd.R_alloc | apply Kd.R_drewN | apply Kd.R_drew)); exact HO_7.out⟩, ⟨by (with_reducible repeat (first | apply Kd.R_alloc | apply Kd.R_drewN | apply Kd.R_drew)); exact HO_8.out⟩, ⟨hb_⟩⟩
   case rest =>
    clear HC10
    try clear c1
    try clear p2
    try clear c3
    try clear c5
    try clear c11
    try clear c11b0
    try clear p2
    obtain ⟨kq, x36_9, rfl, HA, HJ9, HO_7, HO_8, HB⟩ := hcut
    cases kq with
    | zero => exact absurd HA.out (by simp [spec_PathProof.j1])
    | succ kj9 =>
     have H := HA.out
     clear HA
     simp only [spec_PathProof.j1] at H
     by_cases c14 : x36_9 = true
     ·subst c14
      have H1 : (if 0 ≤ x12_1 then (if x12_1 ≤ (t419.length : Int) then ((spec_l9Walk.f kj9 l0 a1 (t419.take (x12_1 : Int).toNat)).bind fun bt429 => ((spec_l4Get.f kj9 l0 bt429.1).bind fun bt431 => (if x7_1.length < 8796093022208 then (spec_PathProof.l0 kj9 l0 a1 (x7_1 ++ [bt431.1]) t419 t424 (wrap64 (x12_1 + 1))) else (none)))) else (none)) else (none)) = some r := by rw [if_pos rfl] at H; exact H
      clear H
      have H := H1
      clear H1
      by_cases c15 : 0 ≤ x12_1
      ·rw [if_pos c15] at H
       have c15b0 := eq_true c15
       have c15b1 : decide (0 ≤ x12_1) = true := decide_eq_true c15
       clear c15
       by_cases c16 : x12_1 ≤ (t419.length : Int)
       ·rw [if_pos c16] at H
        have c16b0 := eq_true c16
        have c16b1 : decide (x12_1 ≤ (t419.length : Int)) = true := decide_eq_true c16
        clear c16
        obtain ⟨y425, hy425⟩ : ∃ y_ : List ByteArray, y_ = (t419.take (x12_1 : Int).toNat) := ⟨_, rfl⟩
        replace H : ((spec_l9Walk.f kj9 l0 a1 y425).bind fun bt429 => ((spec_l4Get.f kj9 l0 bt429.1).bind fun bt431 => (if x7_1.length < 8796093022208 then (spec_PathProof.l0 kj9 l0 a1 (x7_1 ++ [bt431.1]) t419 t424 (wrap64 (x12_1 + 1))) else (none)))) = some r := by first | (rw [hy425]; with_reducible exact H) | (have H2_ := (Option.bind_some _ _).symm.trans H; rw [hy425]; with_reducible exact H2_) | (have H2_ := (Option.bind_some _ _).symm.trans H; with_reducible exact H2_) | with_reducible exact H | (rw [hy425]; exact H) | exact H
        have Ny425 := Aside0.mk hy425
        clear hy425
        replace H := Option.bind_eq_some_iff.mp H
        obtain ⟨⟨t429, t430⟩, A170, H⟩ := H
        replace H : ((spec_l4Get.f kj9 l0 t429).bind fun bt431 => (if x7_1.length < 8796093022208 then (spec_PathProof.l0 kj9 l0 a1 (x7_1 ++ [bt431.1]) t419 t424 (wrap64 (x12_1 + 1))) else (none))) = some r := H
        have A17 := Aside0.mk A170
        clear A170
        replace H := Option.bind_eq_some_iff.mp H
        obtain ⟨⟨t431, t432⟩, A180, H⟩ := H
        replace H : (if x7_1.length < 8796093022208 then (spec_PathProof.l0 kj9 l0 a1 (x7_1 ++ [t431]) t419 t424 (wrap64 (x12_1 + 1))) else (none)) = some r := H
        have A18 := Aside0.mk A180
        clear A180
        by_cases c19 : x7_1.length < 8796093022208
        ·rw [if_pos c19] at H
         have LMc19 := Aside0.mk c19
         clear c19
         obtain ⟨y433, hy433⟩ : ∃ y_ : List ByteArray, y_ = (x7_1 ++ [t431]) := ⟨_, rfl⟩
         replace H : (spec_PathProof.l0 kj9 l0 a1 y433 t419 t424 (wrap64 (x12_1 + 1))) = some r := by first | (rw [hy433]; with_reducible exact H) | (have H2_ := (Option.bind_some _ _).symm.trans H; rw [hy433]; with_reducible exact H2_) | (have H2_ := (Option.bind_some _ _).symm.trans H; with_reducible exact H2_) | with_reducible exact H | (rw [hy433]; exact H) | exact H
         have Ny433 := Aside0.mk hy433
         clear hy433
         have H' := Aside0.mk H
         clear H
         obtain ⟨Ao21, co21, eo21⟩ := Kd.R_slice HO_8.out
         subst eo21
         have q20 : (x12_1 : Int) ≤ ((t419.length : Int) : Int) := of_decide_eq_true ma_
         obtain ⟨i020, hi020, _, hsz20, _⟩ := info_parts info9
         have hroom20 : t419.length ≤ co21 := (Kd.R_reads' HO_8.out).2.1
         have hC20 : Kd.C Kd.string _ Ao21 t419.length t419 := (Kd.R_reads' HO_8.out).2.2
         have hcut20 := cut_to (P := Tryz.prog) 24 9 .i64 Tryz.underlying24 hi020 Ao21 t419.length co21 x12_1 (of_decide_eq_true ma_) q20 hroom20
         have hr20 := Kd.C_take (m := (x12_1 : Int).toNat) hC20 (by omega)
         have hy20 : y425.length = (x12_1 : Int).toNat := (by rw [Ny425.out, List.length_take]; omega)
         rw [← Ny425.out] at hr20
         rw [← hy20] at hcut20
         have HR428 := Aside0.mk hr20
         have HC428 := Aside0.mk (show y425.length ≤ co21 from by omega)
         clear hr20 hC20 hroom20 hi020 hsz20
         have KY20 := Aside0.mk hy20
         clear hy20
         have KL20 := Aside0.mk (show (x12_1 : Int).toNat ≤ t419.length from by omega)
         replace q20 := eq_true q20
         go_wp2_with (first | ((with_reducible refine gate_callee (f := 56) rfl ?_); refine goesL_ (some 45) rfl rfl Tryz.func56 (by kernel_rfl) rfl #[.slice A0 l0.length c0, .int .i64 a1, .slice Ao21 y425.length co21] rfl sl_ ?_; (with_reducible refine (spec_l9Walk.calls kj9 _ _ l0 a1 _ _ y425 t429 t430 _ ?side1 ?side2 ?side3 ?side4 A17.out).mono ?_); (case side1 => exact kC_ (Kd.C_below HR0.out HB.out)); (case side2 => exact HC0.out); (case side3 => repeat (first | exact (by repeat (first | (with_reducible exact HR428.out) | (with_reducible refine Kd.C_alloc ?_ _) | (with_reducible refine Kd.C_drewN ?_ _) | (with_reducible refine Kd.C_drew ?_) | exact HR428.out)) | (with_reducible refine Kd.C_alloc ?_ _) | (with_reducible refine Kd.C_drewN ?_ _) | (with_reducible refine Kd.C_drew ?_))); (case side4 => exact HC428.out); rintro e w22 ⟨rfl, hb⟩; refine ⟨_, rfl, ?_⟩; replace HO_7 := Aside0.mk (Kd.R_below (kR_ HO_7.out) hb); replace HO_8 := Aside0.mk (Kd.R_below (kR_ HO_8.out) hb); replace HR428 := Aside0.mk (Kd.C_below (by repeat (first | (with_reducible exact HR428.out) | (with_reducible refine Kd.C_alloc ?_ _) | (with_reducible refine Kd.C_drewN ?_ _) | (with_reducible refine Kd.C_drew ?_) | exact HR428.out)) hb); replace HB := Aside0.mk (below_step hb_ hb); (try clear hb); (try clear hk)) | ((with_reducible refine gate_callee (f := 57) rfl ?_); refine goesL_ (some 51) rfl rfl Tryz.func57 (by kernel_rfl) rfl #[.slice A0 l0.length c0, .int .i64 t429] rfl sl_ ?_; (with_reducible refine (spec_l4Get.calls kj9 _ _ l0 t429 t431 t432 _ ?side1 ?side2 A18.out).mono ?_); (case side1 => exact kC_ (Kd.C_below HR0.out HB.out)); (case side2 => exact HC0.out); rintro e w' ⟨rfl, ⟨nd, rfl⟩⟩; refine ⟨_, rfl, ?_⟩) | ((with_reducible refine gate_builtin (b := .append) (xs := #[.tmp 54, .tmp 56]) rfl ?_); at_builtin; refine Kd.R_append Kd.string (w0 := w) w.heap.size rfl (.tmp 54) (.tmp 56) 24 9 (.string ⟨#[]⟩) 16 rfl Tryz.underlying24 info9 rfl (by decide) (by omega) u7 x7_1 t431 [.string t431] (fun k_ => some k_ ≠ (.slice Ao21 t419.length co21 : Value).ownBlock) (fun _ => False) rfl rfl ?aP (fun _ hk => hk.elim) ?aF ?aO ?aB ?aS ?aL ?_; (case aP => exact rfl); (case aB => exact hb_); (case aF => exact (fun k_ hk => Kd.fresh' (Kd.R_lt (kR_ HO_8.out)) k_ hk)); (case aO => exact (kR_ HO_7.out)); (case aS => exact (below_size hb_)); (case aL => have := LMc19.out; omega); intro v434 w23 ho hb hg hat; rw [← Ny433.out] at ho; have n0_ := Aside0.mk (Kd.R_after (ok := (fun _ => True)) (by (with_reducible repeat (first | apply Kd.R_alloc | apply Kd.R_drewN | apply Kd.R_drew)); exact Kd.R_mono HO_8.out (fun _ hk => ⟨trivial, hk⟩)) hg hat); have n1_ := Aside0.mk (hb); have n2_ := Aside0.mk ((show Kd.C Kd.string w23 Ao21 y425.length y425 from by rw [Ny425.out]; exact Kd.C_take (m := (x12_1 : Int).toNat) ((Kd.R_reads' (Kd.R_after (ok := (fun _ => True)) (by (with_reducible repeat (first | apply Kd.R_alloc | apply Kd.R_drewN | apply Kd.R_drew)); exact Kd.R_mono HO_8.out (fun _ hk => ⟨trivial, hk⟩)) hg hat)).2.2) KL20.out)); have n3_ := Aside0.mk (ho); clear HO_8; clear HB; clear HR428; clear HO_7; have HO_8 := n0_; have HB := n1_; have HR428 := n2_; have HO435 := n3_; clear n0_ n1_ n2_ n3_; clear ho hb hg hat))
         go_roundg kj9
         case measure => have := HK1.out; have := HJ9.out; omega
         case rel => exact ⟨(y433), (wrap64 (x12_1 + 1)), (by first | rfl | (simp; done) | (simp [*]; done)), H', ⟨by have := HK1.out; have := HJ9.out; omega⟩, ⟨by (with_reducible repeat (first | apply Kd.R_alloc | apply Kd.R_drewN | apply Kd.R_drew)); exact HO435.out⟩, ⟨by (with_reducible repeat (first | apply Kd.R_alloc | apply Kd.R_drewN | apply Kd.R_drew)); exact Kd.R_mono HO_8.out (fun _ hk => hk.2)⟩, ⟨hb_⟩⟩
        ·rw [if_neg c19] at H
         exact absurd H (by simp)
       ·rw [if_neg c16] at H
        exact absurd H (by simp)
      ·rw [if_neg c15] at H
       exact absurd H (by simp)
     ·replace c14 := Bool.eq_false_iff.mpr c14
      subst c14
      have H1 : (some x7_1) = some r := by rw [if_neg (show ¬ (false = true) by decide)] at H; exact H
      clear H
      have H := H1
      clear H1
      obtain rfl := Option.some.inj H
      go_wp2
      go_ret
      exact ⟨_, er_, by (with_reducible repeat (first | apply Kd.R_alloc | apply Kd.R_drewN | apply Kd.R_drew)); exact Kd.R_mono HO_7.out (fun _ hk => trivial), hb_⟩
/-! ### spec_l12Way: function 60 -/
mutual
def spec_l12Way.l0 : Nat → List ByteArray → List ByteArray → Int → Int → Option (Bool)
 | 0, _, _, _, _ => none
 | k + 1, x1, x2, x7, x8 => if x8 < (x2.length : Int) then (if 0 ≤ x8 then ((spec_PrintOf.f k (rdOf ByteArray.empty x2 x8)).bind fun t437 => (if t437 = x7 then (if (wrap64 (x8 + 1)) = (x2.length : Int) then (some true) else ((spec_ReadFolder.f k (rdOf ByteArray.empty x2 x8)).bind fun bt439 => (spec_l12Way.l1 k x1 x2 (-2) x8 bt439.1 0))) else (some false))) else (none)) else (some false)
def spec_l12Way.l1 : Nat → List ByteArray → List ByteArray → Int → Int → List (S75) → Int → Option (Bool)
 | 0, _, _, _, _, _, _ => none
 | k + 1, x1, x2, x7, x8, x9, x11 => if x11 < (x9.length : Int) then (if 0 ≤ x11 then (if 0 ≤ x8 then (if x8 < (x1.length : Int) then (if ((rd_T75 x9 x11).f0).toList = (rdOf ByteArray.empty x1 x8).toList then (spec_l12Way.l1 k x1 x2 ((rd_T75 x9 x11).f1) x8 x9 (wrap64 (x11 + 1))) else (spec_l12Way.l1 k x1 x2 x7 x8 x9 (wrap64 (x11 + 1)))) else (none)) else (none)) else (none)) else (spec_l12Way.l0 k x1 x2 x7 (wrap64 (x8 + 1)))
end
def spec_l12Way.f (k : Nat) (a0 : Int) (l1 : List ByteArray) (l2 : List ByteArray) : Option (Bool) := spec_l12Way.l0 k l1 l2 a0 0
theorem spec_l12Way.mono_l : ∀ k, (∀ y0 y1 y2 y3, LeO (spec_l12Way.l0 k y0 y1 y2 y3) (spec_l12Way.l0 (k + 1) y0 y1 y2 y3)) ∧ (∀ y0 y1 y2 y3 y4 y5, LeO (spec_l12Way.l1 k y0 y1 y2 y3 y4 y5) (spec_l12Way.l1 (k + 1) y0 y1 y2 y3 y4 y5))
 | 0 => ⟨fun _ _ _ _ r h => by simp [spec_l12Way.l0] at h, fun _ _ _ _ _ _ r h => by simp [spec_l12Way.l1] at h⟩
 | k + 1 => by
  obtain ⟨ih0, ih1⟩ := spec_l12Way.mono_l k
  refine ⟨?_, ?_⟩
  ·intro y0 y1 y2 y3
   unfold spec_l12Way.l0
   repeat' first
   | (with_reducible exact ih0 _ _ _ _)
   | (with_reducible exact ih1 _ _ _ _ _ _)
   | (with_reducible exact spec_PrintOf.mono _ _)
   | (with_reducible exact spec_ReadFolder.mono _ _)
   | (with_reducible exact LeO.refl _)
   | (with_reducible exact LeO.none _)
   | (with_reducible refine LeO.ite ?_ ?_)
   | (with_reducible refine LeO.bind ?_ (fun _ => ?_))
   | exact ih0 _ _ _ _
   | exact ih1 _ _ _ _ _ _
   | exact spec_PrintOf.mono _ _
   | exact spec_ReadFolder.mono _ _
   | exact LeO.none _
   | refine LeO.ite ?_ ?_
   | refine LeO.bind ?_ (fun _ => ?_)
  ·intro y0 y1 y2 y3 y4 y5
   unfold spec_l12Way.l1
   repeat' first
   | (with_reducible exact ih0 _ _ _ _)
   | (with_reducible exact ih1 _ _ _ _ _ _)
   | (with_reducible exact spec_PrintOf.mono _ _)
   | (with_reducible exact spec_ReadFolder.mono _ _)
   | (with_reducible exact LeO.refl _)
   | (with_reducible exact LeO.none _)
   | (with_reducible refine LeO.ite ?_ ?_)
   | (with_reducible refine LeO.bind ?_ (fun _ => ?_))
   | exact ih0 _ _ _ _
   | exact ih1 _ _ _ _ _ _
   | exact spec_PrintOf.mono _ _
   | exact spec_ReadFolder.mono _ _
   | exact LeO.none _
   | refine LeO.ite ?_ ?_
   | refine LeO.bind ?_ (fun _ => ?_)
theorem spec_l12Way.mono : ∀ a0 a1 a2 k, LeO (spec_l12Way.f k a0 a1 a2) (spec_l12Way.f (k + 1) a0 a1 a2) := by
 intro a0 a1 a2 k
 obtain ⟨ih0, ih1⟩ := spec_l12Way.mono_l k
 unfold spec_l12Way.f
 repeat' first
   | (with_reducible exact ih0 _ _ _ _)
   | (with_reducible exact ih1 _ _ _ _ _ _)
   | (with_reducible exact spec_PrintOf.mono _ _)
   | (with_reducible exact spec_ReadFolder.mono _ _)
   | (with_reducible exact LeO.refl _)
   | (with_reducible exact LeO.none _)
   | (with_reducible refine LeO.ite ?_ ?_)
   | (with_reducible refine LeO.bind ?_ (fun _ => ?_))
   | exact ih0 _ _ _ _
   | exact ih1 _ _ _ _ _ _
   | exact spec_PrintOf.mono _ _
   | exact spec_ReadFolder.mono _ _
   | exact LeO.none _
   | refine LeO.ite ?_ ?_
   | refine LeO.bind ?_ (fun _ => ?_)
set_option maxHeartbeats 8000000 in
set_option maxRecDepth 100000 in
theorem spec_l12Way.calls (k : Nat) (a0 : Int) (A1 : Option Addr) (c1 : Nat) (l1 : List ByteArray) (A2 : Option Addr) (c2 : Nat) (l2 : List ByteArray) (r : Bool) (w : World) (hr1 : Kd.C Kd.string w A1 l1.length l1) (hc1 : l1.length ≤ c1) (hr2 : Kd.C Kd.string w A2 l2.length l2) (hc2 : l2.length ≤ c2) (h : spec_l12Way.f k a0 l1 l2 = some r) :
  Calls Tryz.prog 60 #[.int .i64 a0, .slice A1 l1.length c1, .slice A2 l2.length c2] w fun e w' => e = .returned (.bool r) ∧ Below w.heap.size w w' := by
 have HR1 := Aside0.mk hr1
 have HC1 := Aside0.mk hc1
 clear hr1 hc1
 have HR2 := Aside0.mk hr2
 have HC2 := Aside0.mk hc2
 clear hr2 hc2
 have HB := Aside0.mk (Below.refl w.heap.size w)
 have H : (spec_l12Way.l0 k l1 l2 a0 0) = some r := h
 clear h
 have H' := Aside0.mk H
 clear H
 go_enter Tryz.func60, Tryz.ntmps60
 go_wp2
 repeat (go_quiet (fail); try go_wp2)
 go_loopg [7, 8] k (fun kq v7 v8 w' => ∃ (x7_1 : Int) (x8_1 : Int), v7 = .int .i64 x7_1 ∧ v8 = .int .i64 x8_1 ∧ Aside0 (spec_l12Way.l0 kq l1 l2 x7_1 x8_1 = some r) ∧ Aside0 (kq ≤ k) ∧ Aside0 (Below w.heap.size w w'))
 case atStart => exact ⟨(a0), (0), (by first | rfl | (simp; done) | (simp [*]; done)), (by first | rfl | (simp; done) | (simp [*]; done)), H', ⟨Nat.le_refl _⟩, ⟨hb_⟩⟩
 case round =>
  clear H'
  try clear c1
  try clear c2
  try clear p2
  obtain ⟨x7_1, x8_1, rfl, rfl, HA, HK1, HB⟩ := hrel
  cases gk with
  | zero => exact absurd HA.out (by simp [spec_l12Way.l0])
  | succ k1 =>
   have H := HA.out
   clear HA
   simp only [spec_l12Way.l0] at H
   by_cases c4 : x8_1 < (l2.length : Int)
   ·rw [if_pos c4] at H
    have c4b0 : decide (x8_1 < (l2.length : Int)) = true := decide_eq_true c4
    clear c4
    by_cases c5 : 0 ≤ x8_1
    ·rw [if_pos c5] at H
     have c5b0 : decide (0 ≤ x8_1) = true := decide_eq_true c5
     clear c5
     replace H := Option.bind_eq_some_iff.mp H
     obtain ⟨t437, A60, H⟩ := H
     replace H : (if t437 = x7_1 then (if (wrap64 (x8_1 + 1)) = (l2.length : Int) then (some true) else ((spec_ReadFolder.f k1 (rdOf ByteArray.empty l2 x8_1)).bind fun bt439 => (spec_l12Way.l1 k1 l1 l2 (-2) x8_1 bt439.1 0))) else (some false)) = some r := H
     have A6 := Aside0.mk A60
     clear A60
     by_cases c7 : t437 = x7_1
     ·rw [if_pos c7] at H
      have c7b0 : (t437 == x7_1) = true := beq_iff_eq.mpr c7
      have c7b1 : (t437 != x7_1) = false := bne_eq_false_iff_eq.mpr c7
      clear c7
      by_cases c8 : (wrap64 (x8_1 + 1)) = (l2.length : Int)
      ·rw [if_pos c8] at H
       have c8b0 : ((wrap64 (x8_1 + 1)) == (l2.length : Int)) = true := beq_iff_eq.mpr c8
       have c8b1 : ((wrap64 (x8_1 + 1)) != (l2.length : Int)) = false := bne_eq_false_iff_eq.mpr c8
       clear c8
       obtain rfl := Option.some.inj H
       have p436 : 0 ≤ (x8_1 : Int) := of_decide_eq_true ma_
       have q436 : x8_1 < (l2.length : Int) := of_decide_eq_true ma_
       obtain ⟨ad436, e436, hx436_0⟩ := Kd.at_string HR2.out x8_1 p436 q436
       cases e436
       replace hx436_0 := (HB.out.cell (World.block_lt_of_cell? w _ hx436_0)).trans hx436_0
       replace p436 := eq_true p436
       replace q436 := eq_true q436
       go_wp2_with (first | (go_at_call 54; (with_reducible refine (spec_PrintOf.calls k1 (rdOf ByteArray.empty l2 x8_1) t437 _ A6.out).mono ?_); rintro e w' ⟨rfl, ⟨nd, rfl⟩⟩; (try first | exact ⟨rfl, _, World.drewN_drewN _ _ _⟩ | exact ⟨rfl, _, Eq.trans (World.drewN_drewN _ _ _) (congrArg (World.drewN _) (Nat.add_assoc _ _ _))⟩)))
       repeat (go_quiet (first | (go_at_call 54; (with_reducible refine (spec_PrintOf.calls k1 (rdOf ByteArray.empty l2 x8_1) t437 _ A6.out).mono ?_); rintro e w' ⟨rfl, ⟨nd, rfl⟩⟩; (try first | exact ⟨rfl, _, World.drewN_drewN _ _ _⟩ | exact ⟨rfl, _, Eq.trans (World.drewN_drewN _ _ _) (congrArg (World.drewN _) (Nat.add_assoc _ _ _))⟩))); try go_wp2_with (first | (go_at_call 54; (with_reducible refine (spec_PrintOf.calls k1 (rdOf ByteArray.empty l2 x8_1) t437 _ A6.out).mono ?_); rintro e w' ⟨rfl, ⟨nd, rfl⟩⟩; (try first | exact ⟨rfl, _, World.drewN_drewN _ _ _⟩ | exact ⟨rfl, _, Eq.trans (World.drewN_drewN _ _ _) (congrArg (World.drewN _) (Nat.add_assoc _ _ _))⟩))))
       go_ret
       exact ⟨er_, hb_⟩
      ·rw [if_neg c8] at H
       have c8b0 : ((wrap64 (x8_1 + 1)) == (l2.length : Int)) = false := beq_eq_false_iff_ne.mpr c8
       have c8b1 : ((wrap64 (x8_1 + 1)) != (l2.length : Int)) = true := bne_iff_ne.mpr c8
       replace H := Option.bind_eq_some_iff.mp H
       obtain ⟨⟨t439, t440⟩, A90, H⟩ := H
       replace H : (spec_l12Way.l1 k1 l1 l2 (-2) x8_1 t439 0) = some r := H
       have A9 := Aside0.mk A90
       clear A90
       have H' := Aside0.mk H
       clear H
       have p436 : 0 ≤ (x8_1 : Int) := of_decide_eq_true ma_
       have q436 : x8_1 < (l2.length : Int) := of_decide_eq_true ma_
       obtain ⟨ad436, e436, hx436_0⟩ := Kd.at_string HR2.out x8_1 p436 q436
       cases e436
       replace hx436_0 := (HB.out.cell (World.block_lt_of_cell? w _ hx436_0)).trans hx436_0
       replace p436 := eq_true p436
       replace q436 := eq_true q436
       go_wp2_with (first | (go_at_call 54; (with_reducible refine (spec_PrintOf.calls k1 (rdOf ByteArray.empty l2 x8_1) t437 _ A6.out).mono ?_); rintro e w' ⟨rfl, ⟨nd, rfl⟩⟩; (try first | exact ⟨rfl, _, World.drewN_drewN _ _ _⟩ | exact ⟨rfl, _, Eq.trans (World.drewN_drewN _ _ _) (congrArg (World.drewN _) (Nat.add_assoc _ _ _))⟩); have p438 : 0 ≤ (x8_1 : Int) := of_decide_eq_true ma_; have q438 : x8_1 < (l2.length : Int) := of_decide_eq_true ma_; obtain ⟨ad438, e438, hx438_0⟩ := Kd.at_string HR2.out x8_1 p438 q438; obtain rfl : ad436 = ad438 := (by injection e438); replace hx438_0 := (HB.out.cell (World.block_lt_of_cell? w _ hx438_0)).trans hx438_0; replace p438 := eq_true p438; replace q438 := eq_true q438) | (go_at_call 61; (with_reducible refine (spec_ReadFolder.calls k1 (rdOf ByteArray.empty l2 x8_1) t439 t440 _ A9.out).mono ?_); rintro e w10 ⟨v441, rfl, ho0, hb⟩; have HO442 := Aside0.mk (Kd.R_lower ho0 (below_size hb_)); replace HB := Aside0.mk (below_step hb_ hb); (try clear hb); (try clear ho0)))
       repeat (go_quiet (first | (go_at_call 54; (with_reducible refine (spec_PrintOf.calls k1 (rdOf ByteArray.empty l2 x8_1) t437 _ A6.out).mono ?_); rintro e w' ⟨rfl, ⟨nd, rfl⟩⟩; (try first | exact ⟨rfl, _, World.drewN_drewN _ _ _⟩ | exact ⟨rfl, _, Eq.trans (World.drewN_drewN _ _ _) (congrArg (World.drewN _) (Nat.add_assoc _ _ _))⟩); have p438 : 0 ≤ (x8_1 : Int) := of_decide_eq_true ma_; have q438 : x8_1 < (l2.length : Int) := of_decide_eq_true ma_; obtain ⟨ad438, e438, hx438_0⟩ := Kd.at_string HR2.out x8_1 p438 q438; obtain rfl : ad436 = ad438 := (by injection e438); replace hx438_0 := (HB.out.cell (World.block_lt_of_cell? w _ hx438_0)).trans hx438_0; replace p438 := eq_true p438; replace q438 := eq_true q438) | (go_at_call 61; (with_reducible refine (spec_ReadFolder.calls k1 (rdOf ByteArray.empty l2 x8_1) t439 t440 _ A9.out).mono ?_); rintro e w10 ⟨v441, rfl, ho0, hb⟩; have HO442 := Aside0.mk (Kd.R_lower ho0 (below_size hb_)); replace HB := Aside0.mk (below_step hb_ hb); (try clear hb); (try clear ho0))); try go_wp2_with (first | (go_at_call 54; (with_reducible refine (spec_PrintOf.calls k1 (rdOf ByteArray.empty l2 x8_1) t437 _ A6.out).mono ?_); rintro e w' ⟨rfl, ⟨nd, rfl⟩⟩; (try first | exact ⟨rfl, _, World.drewN_drewN _ _ _⟩ | exact ⟨rfl, _, Eq.trans (World.drewN_drewN _ _ _) (congrArg (World.drewN _) (Nat.add_assoc _ _ _))⟩); have p438 : 0 ≤ (x8_1 : Int) := of_decide_eq_true ma_; have q438 : x8_1 < (l2.length : Int) := of_decide_eq_true ma_; obtain ⟨ad438, e438, hx438_0⟩ := Kd.at_string HR2.out x8_1 p438 q438; obtain rfl : ad436 = ad438 := (by injection e438); replace hx438_0 := (HB.out.cell (World.block_lt_of_cell? w _ hx438_0)).trans hx438_0; replace p438 := eq_true p438; replace q438 := eq_true q438) | (go_at_call 61; (with_reducible refine (spec_ReadFolder.calls k1 (rdOf ByteArray.empty l2 x8_1) t439 t440 _ A9.out).mono ?_); rintro e w10 ⟨v441, rfl, ho0, hb⟩; have HO442 := Aside0.mk (Kd.R_lower ho0 (below_size hb_)); replace HB := Aside0.mk (below_step hb_ hb); (try clear hb); (try clear ho0))))
       go_loopg [7, 11] k1 (fun kq v7 v11 w' => ∃ (x7_2 : Int) (x11_2 : Int), v7 = .int .i64 x7_2 ∧ v11 = .int .i64 x11_2 ∧ Aside0 (spec_l12Way.l1 kq l1 l2 x7_2 x8_1 t439 x11_2 = some r) ∧ Aside0 (kq ≤ k1) ∧ Aside0 (Kd.R k75 75 w' w.heap.size (fun _ => True) v441 t439) ∧ Aside0 (Below w.heap.size w w'))
       case atStart => exact ⟨((-2)), (0), (by first | rfl | (simp; done) | (simp [*]; done)), (by first | rfl | (simp; done) | (simp [*]; done)), H', ⟨Nat.le_refl _⟩, ⟨by (with_reducible repeat (first | apply Kd.R_alloc | apply Kd.R_drewN | apply Kd.R_drew)); exact HO442.out⟩, ⟨hb_⟩⟩
       case round =>
        clear H'
        try clear c1
        try clear c2
        try clear p2
        try clear c4
        try clear c4b0
        try clear p4
        try clear q4
        try clear hx4
        try clear c5
        try clear c5b0
        try clear c6
        try clear p6
        try clear c7
        try clear c7b0
        try clear c7b1
        try clear c8
        try clear c8b0
        try clear c8b1
        try clear hx436_0
        try clear hx438_0
        try clear p2
        try clear p436
        try clear p438
        try clear q436
        try clear q438
        obtain ⟨x7_2, x11_2, rfl, rfl, HA, HK2, HO_9, HB⟩ := hrel
        cases gk with
        | zero => exact absurd HA.out (by simp [spec_l12Way.l1])
        | succ k2 =>
         have H := HA.out
         clear HA
         simp only [spec_l12Way.l1] at H
         by_cases c11 : x11_2 < (t439.length : Int)
         ·rw [if_pos c11] at H
          have c11b0 : decide (x11_2 < (t439.length : Int)) = true := decide_eq_true c11
          clear c11
          by_cases c12 : 0 ≤ x11_2
          ·rw [if_pos c12] at H
           have c12b0 : decide (0 ≤ x11_2) = true := decide_eq_true c12
           clear c12
           by_cases c13 : 0 ≤ x8_1
           ·rw [if_pos c13] at H
            have c13b0 : decide (0 ≤ x8_1) = true := decide_eq_true c13
            clear c13
            by_cases c14 : x8_1 < (l1.length : Int)
            ·rw [if_pos c14] at H
             have c14b0 : decide (x8_1 < (l1.length : Int)) = true := decide_eq_true c14
             clear c14
             by_cases c15 : ((rd_T75 t439 x11_2).f0).toList = (rdOf ByteArray.empty l1 x8_1).toList
             ·rw [if_pos c15] at H
              have c15b0 : (((rd_T75 t439 x11_2).f0).toList == (rdOf ByteArray.empty l1 x8_1).toList) = true := beq_iff_eq.mpr c15
              have c15b1 : (((rd_T75 t439 x11_2).f0).toList != (rdOf ByteArray.empty l1 x8_1).toList) = false := bne_eq_false_iff_eq.mpr c15
              clear c15
              have H' := Aside0.mk H
              clear H
              obtain ⟨Ao16, co16, eo16⟩ := Kd.R_slice HO_9.out
              subst eo16
              have p443 : 0 ≤ (x11_2 : Int) := of_decide_eq_true ma_
              have q443 : x11_2 < (t439.length : Int) := of_decide_eq_true ma_
              obtain ⟨ad443, e443, hx443_0, hx443_1⟩ := at_T75 (Kd.R_reads' HO_9.out).2.2 x11_2 p443 q443
              cases e443
              replace p443 := eq_true p443
              replace q443 := eq_true q443
              have p444 : 0 ≤ (x8_1 : Int) := of_decide_eq_true ma_
              have q444 : x8_1 < (l1.length : Int) := of_decide_eq_true ma_
              obtain ⟨ad444, e444, hx444_0⟩ := Kd.at_string HR1.out x8_1 p444 q444
              cases e444
              replace hx444_0 := (HB.out.cell (World.block_lt_of_cell? w _ hx444_0)).trans hx444_0
              replace p444 := eq_true p444
              replace q444 := eq_true q444
              have p445 : 0 ≤ (x11_2 : Int) := of_decide_eq_true ma_
              have q445 : x11_2 < (t439.length : Int) := of_decide_eq_true ma_
              obtain ⟨ad445, e445, hx445_0, hx445_1⟩ := at_T75 (Kd.R_reads' HO_9.out).2.2 x11_2 p445 q445
              obtain rfl : ad443 = ad445 := (by injection e445)
              replace p445 := eq_true p445
              replace q445 := eq_true q445
              go_wp2
              repeat (go_quiet (fail); try go_wp2)
              go_roundg k2
              case measure => have := HK1.out; have := HK2.out; omega
              case rel => exact ⟨((rd_T75 t439 x11_2).f1), (wrap64 (x11_2 + 1)), (by first | rfl | (simp; done) | (simp [*]; done)), (by first | rfl | (simp; done) | (simp [*]; done)), H', ⟨by have := HK1.out; have := HK2.out; omega⟩, ⟨by (with_reducible repeat (first | apply Kd.R_alloc | apply Kd.R_drewN | apply Kd.R_drew)); exact HO_9.out⟩, ⟨hb_⟩⟩
             ·rw [if_neg c15] at H
              have c15b0 : (((rd_T75 t439 x11_2).f0).toList == (rdOf ByteArray.empty l1 x8_1).toList) = false := beq_eq_false_iff_ne.mpr c15
              have c15b1 : (((rd_T75 t439 x11_2).f0).toList != (rdOf ByteArray.empty l1 x8_1).toList) = true := bne_iff_ne.mpr c15
              have H' := Aside0.mk H
              clear H
              obtain ⟨Ao17, co17, eo17⟩ := Kd.R_slice HO_9.out
              subst eo17
              have p443 : 0 ≤ (x11_2 : Int) := of_decide_eq_true ma_
              have q443 : x11_2 < (t439.length : Int) := of_decide_eq_true ma_
              obtain ⟨ad443, e443, hx443_0, hx443_1⟩ := at_T75 (Kd.R_reads' HO_9.out).2.2 x11_2 p443 q443
              cases e443
              replace p443 := eq_true p443
              replace q443 := eq_true q443
              have p444 : 0 ≤ (x8_1 : Int) := of_decide_eq_true ma_
              have q444 : x8_1 < (l1.length : Int) := of_decide_eq_true ma_
              obtain ⟨ad444, e444, hx444_0⟩ := Kd.at_string HR1.out x8_1 p444 q444
              cases e444
              replace hx444_0 := (HB.out.cell (World.block_lt_of_cell? w _ hx444_0)).trans hx444_0
              replace p444 := eq_true p444
              replace q444 := eq_true q444
              go_wp2
              repeat (go_quiet (fail); try go_wp2)
              go_roundg k2
              case measure => have := HK1.out; have := HK2.out; omega
              case rel => exact ⟨(x7_2), (wrap64 (x11_2 + 1)), (by first | rfl | (simp; done) | (simp [*]; done)), (by first | rfl | (simp; done) | (simp [*]; done)), H', ⟨by have := HK1.out; have := HK2.out; omega⟩, ⟨by (with_reducible repeat (first | apply Kd.R_alloc | apply Kd.R_drewN | apply Kd.R_drew)); exact HO_9.out⟩, ⟨hb_⟩⟩
            ·rw [if_neg c14] at H
             exact absurd H (by simp)
           ·rw [if_neg c13] at H
            exact absurd H (by simp)
          ·rw [if_neg c12] at H
           exact absurd H (by simp)
         ·rw [if_neg c11] at H
          have c11b0 : decide (x11_2 < (t439.length : Int)) = false := decide_eq_false c11
          clear c11
          have H' := Aside0.mk H
          clear H
          obtain ⟨Ao18, co18, eo18⟩ := Kd.R_slice HO_9.out
          subst eo18
          go_wp2
          repeat (go_quiet (fail); try go_wp2)
          go_roundg k2
          case measure => have := HK1.out; have := HK2.out; omega
          case rel => exact ⟨(x7_2), (wrap64 (x8_1 + 1)), (by first | rfl | (simp; done) | (simp [*]; done)), (by first | rfl | (simp; done) | (simp [*]; done)), H', ⟨by have := HK1.out; have := HK2.out; omega⟩, ⟨hb_⟩⟩
     ·rw [if_neg c7] at H
      have c7b0 : (t437 == x7_1) = false := beq_eq_false_iff_ne.mpr c7
      have c7b1 : (t437 != x7_1) = true := bne_iff_ne.mpr c7
      obtain rfl := Option.some.inj H
      have p436 : 0 ≤ (x8_1 : Int) := of_decide_eq_true ma_
      have q436 : x8_1 < (l2.length : Int) := of_decide_eq_true ma_
      obtain ⟨ad436, e436, hx436_0⟩ := Kd.at_string HR2.out x8_1 p436 q436
      cases e436
      replace hx436_0 := (HB.out.cell (World.block_lt_of_cell? w _ hx436_0)).trans hx436_0
      replace p436 := eq_true p436
      replace q436 := eq_true q436
      go_wp2_with (first | (go_at_call 54; (with_reducible refine (spec_PrintOf.calls k1 (rdOf ByteArray.empty l2 x8_1) t437 _ A6.out).mono ?_); rintro e w' ⟨rfl, ⟨nd, rfl⟩⟩; (try first | exact ⟨rfl, _, World.drewN_drewN _ _ _⟩ | exact ⟨rfl, _, Eq.trans (World.drewN_drewN _ _ _) (congrArg (World.drewN _) (Nat.add_assoc _ _ _))⟩)))
      repeat (go_quiet (first | (go_at_call 54; (with_reducible refine (spec_PrintOf.calls k1 (rdOf ByteArray.empty l2 x8_1) t437 _ A6.out).mono ?_); rintro e w' ⟨rfl, ⟨nd, rfl⟩⟩; (try first | exact ⟨rfl, _, World.drewN_drewN _ _ _⟩ | exact ⟨rfl, _, Eq.trans (World.drewN_drewN _ _ _) (congrArg (World.drewN _) (Nat.add_assoc _ _ _))⟩))); try go_wp2_with (first | (go_at_call 54; (with_reducible refine (spec_PrintOf.calls k1 (rdOf ByteArray.empty l2 x8_1) t437 _ A6.out).mono ?_); rintro e w' ⟨rfl, ⟨nd, rfl⟩⟩; (try first | exact ⟨rfl, _, World.drewN_drewN _ _ _⟩ | exact ⟨rfl, _, Eq.trans (World.drewN_drewN _ _ _) (congrArg (World.drewN _) (Nat.add_assoc _ _ _))⟩))))
      go_ret
      exact ⟨er_, hb_⟩
    ·rw [if_neg c5] at H
     exact absurd H (by simp)
   ·rw [if_neg c4] at H
    have c4b0 : decide (x8_1 < (l2.length : Int)) = false := decide_eq_false c4
    clear c4
    obtain rfl := Option.some.inj H
    go_wp2
    repeat (go_quiet (fail); try go_wp2)
    go_ret
    exact ⟨er_, hb_⟩
/-! ### spec_AbsenceRight: function 39 -/
mutual
def spec_AbsenceRight.j0 : Nat → List ByteArray → List ByteArray → Bool → Option (Bool)
 | 0, _, _, _ => none
 | k + 1, x2, x7, x33 => if x33 = true then (some false) else (if 0 ≤ (wrap64 ((x2.length : Int) - 1)) then (if (wrap64 ((x2.length : Int) - 1)) < (x2.length : Int) then ((spec_ReadFolder.f k (rdOf ByteArray.empty x2 (wrap64 ((x2.length : Int) - 1)))).bind fun bt453 => (spec_AbsenceRight.l0 k x2 x7 bt453.1 bt453.2 0)) else (none)) else (none))
def spec_AbsenceRight.l0 : Nat → List ByteArray → List ByteArray → List (S75) → Bool → Int → Option (Bool)
 | 0, _, _, _, _, _ => none
 | k + 1, x2, x7, x9, x10, x11 => if x11 < (x9.length : Int) then (if 0 ≤ x11 then (if 0 ≤ (wrap64 ((x2.length : Int) - 1)) then (if (wrap64 ((x2.length : Int) - 1)) < (x7.length : Int) then (if ((rd_T75 x9 x11).f0).toList = (rdOf ByteArray.empty x7 (wrap64 ((x2.length : Int) - 1))).toList then (some false) else (spec_AbsenceRight.l0 k x2 x7 x9 x10 (wrap64 (x11 + 1)))) else (none)) else (none)) else (none)) else (some x10)
end
def spec_AbsenceRight.f (k : Nat) (a0 : Int) (a1 : ByteArray) (l2 : List ByteArray) : Option (Bool) := (spec_PathParts.f k a1).bind fun bt446 => (if bt446.2 = true then ((spec_l1In.f (l2.length : Int) 1 (bt446.1.length : Int)).bind fun t450 => (if t450 = true then ((spec_l12Way.f k a0 bt446.1 l2).bind fun t451 => (spec_AbsenceRight.j0 k l2 bt446.1 (!t451))) else (spec_AbsenceRight.j0 k l2 bt446.1 true))) else (spec_AbsenceRight.j0 k l2 bt446.1 true))
theorem spec_AbsenceRight.mono_l : ∀ k, (∀ y0 y1 y2, LeO (spec_AbsenceRight.j0 k y0 y1 y2) (spec_AbsenceRight.j0 (k + 1) y0 y1 y2)) ∧ (∀ y0 y1 y2 y3 y4, LeO (spec_AbsenceRight.l0 k y0 y1 y2 y3 y4) (spec_AbsenceRight.l0 (k + 1) y0 y1 y2 y3 y4))
 | 0 => ⟨fun _ _ _ r h => by simp [spec_AbsenceRight.j0] at h, fun _ _ _ _ _ r h => by simp [spec_AbsenceRight.l0] at h⟩
 | k + 1 => by
  obtain ⟨ih0, ih1⟩ := spec_AbsenceRight.mono_l k
  refine ⟨?_, ?_⟩
  ·intro y0 y1 y2
   unfold spec_AbsenceRight.j0
   repeat' first
   | (with_reducible exact ih0 _ _ _)
   | (with_reducible exact ih1 _ _ _ _ _)
   | (with_reducible exact spec_PathParts.mono _ _)
   | (with_reducible exact spec_ReadFolder.mono _ _)
   | (with_reducible exact spec_l12Way.mono _ _ _ _)
   | (with_reducible exact LeO.refl _)
   | (with_reducible exact LeO.none _)
   | (with_reducible refine LeO.ite ?_ ?_)
   | (with_reducible refine LeO.bind ?_ (fun _ => ?_))
   | exact ih0 _ _ _
   | exact ih1 _ _ _ _ _
   | exact spec_PathParts.mono _ _
   | exact spec_ReadFolder.mono _ _
   | exact spec_l12Way.mono _ _ _ _
   | exact LeO.none _
   | refine LeO.ite ?_ ?_
   | refine LeO.bind ?_ (fun _ => ?_)
  ·intro y0 y1 y2 y3 y4
   unfold spec_AbsenceRight.l0
   repeat' first
   | (with_reducible exact ih0 _ _ _)
   | (with_reducible exact ih1 _ _ _ _ _)
   | (with_reducible exact spec_PathParts.mono _ _)
   | (with_reducible exact spec_ReadFolder.mono _ _)
   | (with_reducible exact spec_l12Way.mono _ _ _ _)
   | (with_reducible exact LeO.refl _)
   | (with_reducible exact LeO.none _)
   | (with_reducible refine LeO.ite ?_ ?_)
   | (with_reducible refine LeO.bind ?_ (fun _ => ?_))
   | exact ih0 _ _ _
   | exact ih1 _ _ _ _ _
   | exact spec_PathParts.mono _ _
   | exact spec_ReadFolder.mono _ _
   | exact spec_l12Way.mono _ _ _ _
   | exact LeO.none _
   | refine LeO.ite ?_ ?_
   | refine LeO.bind ?_ (fun _ => ?_)
theorem spec_AbsenceRight.mono : ∀ a0 a1 a2 k, LeO (spec_AbsenceRight.f k a0 a1 a2) (spec_AbsenceRight.f (k + 1) a0 a1 a2) := by
 intro a0 a1 a2 k
 obtain ⟨ih0, ih1⟩ := spec_AbsenceRight.mono_l k
 unfold spec_AbsenceRight.f
 repeat' first
   | (with_reducible exact ih0 _ _ _)
   | (with_reducible exact ih1 _ _ _ _ _)
   | (with_reducible exact spec_PathParts.mono _ _)
   | (with_reducible exact spec_ReadFolder.mono _ _)
   | (with_reducible exact spec_l12Way.mono _ _ _ _)
   | (with_reducible exact LeO.refl _)
   | (with_reducible exact LeO.none _)
   | (with_reducible refine LeO.ite ?_ ?_)
   | (with_reducible refine LeO.bind ?_ (fun _ => ?_))
   | exact ih0 _ _ _
   | exact ih1 _ _ _ _ _
   | exact spec_PathParts.mono _ _
   | exact spec_ReadFolder.mono _ _
   | exact spec_l12Way.mono _ _ _ _
   | exact LeO.none _
   | refine LeO.ite ?_ ?_
   | refine LeO.bind ?_ (fun _ => ?_)
set_option maxHeartbeats 8000000 in
set_option maxRecDepth 100000 in
theorem spec_AbsenceRight.calls (k : Nat) (a0 : Int) (a1 : ByteArray) (A2 : Option Addr) (c2 : Nat) (l2 : List ByteArray) (r : Bool) (w : World) (hr2 : Kd.C Kd.string w A2 l2.length l2) (hc2 : l2.length ≤ c2) (h : spec_AbsenceRight.f k a0 a1 l2 = some r) :
  Calls Tryz.prog 39 #[.int .i64 a0, .string a1, .slice A2 l2.length c2] w fun e w' => e = .returned (.bool r) ∧ Below w.heap.size w w' := by
 have HR2 := Aside0.mk hr2
 have HC2 := Aside0.mk hc2
 clear hr2 hc2
 have HB := Aside0.mk (Below.refl w.heap.size w)
 have H : ((spec_PathParts.f k a1).bind fun bt446 => (if bt446.2 = true then ((spec_l1In.f (l2.length : Int) 1 (bt446.1.length : Int)).bind fun t450 => (if t450 = true then ((spec_l12Way.f k a0 bt446.1 l2).bind fun t451 => (spec_AbsenceRight.j0 k l2 bt446.1 (!t451))) else (spec_AbsenceRight.j0 k l2 bt446.1 true))) else (spec_AbsenceRight.j0 k l2 bt446.1 true))) = some r := h
 clear h
 replace H := Option.bind_eq_some_iff.mp H
 obtain ⟨⟨t446, t447⟩, A40, H⟩ := H
 replace H : (if t447 = true then ((spec_l1In.f (l2.length : Int) 1 (t446.length : Int)).bind fun t450 => (if t450 = true then ((spec_l12Way.f k a0 t446 l2).bind fun t451 => (spec_AbsenceRight.j0 k l2 t446 (!t451))) else (spec_AbsenceRight.j0 k l2 t446 true))) else (spec_AbsenceRight.j0 k l2 t446 true)) = some r := H
 have A4 := Aside0.mk A40
 clear A40
 have HC5 := Aside0.mk H
 clear H
 go_enter Tryz.func39, Tryz.ntmps39
 go_upto_region 2 with (first | (go_at_call 30; (with_reducible refine (spec_PathParts.calls k a1 t446 t447 _ A4.out).mono ?_); rintro e w6 ⟨v448, rfl, ho0, hb⟩; have HO449 := Aside0.mk (Kd.R_lower ho0 (below_size hb_)); replace HB := Aside0.mk (below_step hb_ hb); (try clear hb); (try clear ho0)))
 repeat (go_quiet (first | (go_at_call 30; (with_reducible refine (spec_PathParts.calls k a1 t446 t447 _ A4.out).mono ?_); rintro e w6 ⟨v448, rfl, ho0, hb⟩; have HO449 := Aside0.mk (Kd.R_lower ho0 (below_size hb_)); replace HB := Aside0.mk (below_step hb_ hb); (try clear hb); (try clear ho0))); go_upto_region 2 with (first | (go_at_call 30; (with_reducible refine (spec_PathParts.calls k a1 t446 t447 _ A4.out).mono ?_); rintro e w6 ⟨v448, rfl, ho0, hb⟩; have HO449 := Aside0.mk (Kd.R_lower ho0 (below_size hb_)); replace HB := Aside0.mk (below_step hb_ hb); (try clear hb); (try clear ho0))))
 (try simp only [Act.put, List.setIfInBounds_toArray, List.set_cons_zero, List.set_cons_succ])
 go_cut [33] (fun v33 wc => ∃ (kq : Nat) (x33_4 : Bool), v33 = .bool x33_4 ∧ Aside0 (spec_AbsenceRight.j0 kq l2 t446 x33_4 = some r) ∧ Aside0 (kq ≤ k) ∧ Aside0 (Kd.R Kd.string 9 wc w.heap.size (fun _ => True) v448 t446) ∧ Aside0 (Below w.heap.size w wc))
 case first =>
  have H := HC5.out
  clear HC5
  by_cases c7 : t447 = true
  ·subst c7
   have H1 : ((spec_l1In.f (l2.length : Int) 1 (t446.length : Int)).bind fun t450 => (if t450 = true then ((spec_l12Way.f k a0 t446 l2).bind fun t451 => (spec_AbsenceRight.j0 k l2 t446 (!t451))) else (spec_AbsenceRight.j0 k l2 t446 true))) = some r := by rw [if_pos rfl] at H; exact H
   clear H
   have H := H1
   clear H1
   replace H := Option.bind_eq_some_iff.mp H
   obtain ⟨t450, A80, H⟩ := H
   replace H : (if t450 = true then ((spec_l12Way.f k a0 t446 l2).bind fun t451 => (spec_AbsenceRight.j0 k l2 t446 (!t451))) else (spec_AbsenceRight.j0 k l2 t446 true)) = some r := H
   have A8 := Aside0.mk A80
   clear A80
   by_cases c9 : t450 = true
   ·subst c9
    have H1 : ((spec_l12Way.f k a0 t446 l2).bind fun t451 => (spec_AbsenceRight.j0 k l2 t446 (!t451))) = some r := by rw [if_pos rfl] at H; exact H
    clear H
    have H := H1
    clear H1
    replace H := Option.bind_eq_some_iff.mp H
    obtain ⟨t451, A100, H⟩ := H
    replace H : (spec_AbsenceRight.j0 k l2 t446 (!t451)) = some r := H
    have A10 := Aside0.mk A100
    clear A100
    have H' := Aside0.mk H
    clear H
    obtain ⟨Ao11, co11, eo11⟩ := Kd.R_slice HO449.out
    subst eo11
    go_wp2_with (first | (go_at_call 59; (with_reducible refine (spec_l1In.calls (l2.length : Int) 1 (t446.length : Int) true _ A8.out).mono ?_); rintro e w' ⟨rfl, ⟨nd, rfl⟩⟩; (try first | exact ⟨rfl, _, World.drewN_drewN _ _ _⟩ | exact ⟨rfl, _, Eq.trans (World.drewN_drewN _ _ _) (congrArg (World.drewN _) (Nat.add_assoc _ _ _))⟩)) | (go_at_call 60; (with_reducible refine (spec_l12Way.calls k a0 _ _ t446 _ _ l2 t451 _ ?side1 ?side2 ?side3 ?side4 A10.out).mono ?_); (case side1 => exact kC_ ((Kd.R_reads' HO449.out).2.2)); (case side2 => exact (Kd.R_reads' HO449.out).2.1); (case side3 => exact kC_ (Kd.C_below HR2.out hb_)); (case side4 => exact HC2.out); rintro e w12 ⟨rfl, hb⟩; replace HO449 := Aside0.mk (Kd.R_below (kR_ HO449.out) hb); replace HB := Aside0.mk (below_step hb_ hb); (try clear hb)))
    repeat (go_quiet (first | (go_at_call 59; (with_reducible refine (spec_l1In.calls (l2.length : Int) 1 (t446.length : Int) true _ A8.out).mono ?_); rintro e w' ⟨rfl, ⟨nd, rfl⟩⟩; (try first | exact ⟨rfl, _, World.drewN_drewN _ _ _⟩ | exact ⟨rfl, _, Eq.trans (World.drewN_drewN _ _ _) (congrArg (World.drewN _) (Nat.add_assoc _ _ _))⟩)) | (go_at_call 60; (with_reducible refine (spec_l12Way.calls k a0 _ _ t446 _ _ l2 t451 _ ?side1 ?side2 ?side3 ?side4 A10.out).mono ?_); (case side1 => exact kC_ ((Kd.R_reads' HO449.out).2.2)); (case side2 => exact (Kd.R_reads' HO449.out).2.1); (case side3 => exact kC_ (Kd.C_below HR2.out hb_)); (case side4 => exact HC2.out); rintro e w12 ⟨rfl, hb⟩; replace HO449 := Aside0.mk (Kd.R_below (kR_ HO449.out) hb); replace HB := Aside0.mk (below_step hb_ hb); (try clear hb))); try go_wp2_with (first | (go_at_call 59; (with_reducible refine (spec_l1In.calls (l2.length : Int) 1 (t446.length : Int) true _ A8.out).mono ?_); rintro e w' ⟨rfl, ⟨nd, rfl⟩⟩; (try first | exact ⟨rfl, _, World.drewN_drewN _ _ _⟩ | exact ⟨rfl, _, Eq.trans (World.drewN_drewN _ _ _) (congrArg (World.drewN _) (Nat.add_assoc _ _ _))⟩)) | (go_at_call 60; (with_reducible refine (spec_l12Way.calls k a0 _ _ t446 _ _ l2 t451 _ ?side1 ?side2 ?side3 ?side4 A10.out).mono ?_); (case side1 => exact kC_ ((Kd.R_reads' HO449.out).2.2)); (case side2 => exact (Kd.R_reads' HO449.out).2.1); (case side3 => exact kC_ (Kd.C_below HR2.out hb_)); (case side4 => exact HC2.out); rintro e w12 ⟨rfl, hb⟩; replace HO449 := Aside0.mk (Kd.R_below (kR_ HO449.out) hb); replace HB := Aside0.mk (below_step hb_ hb); (try clear hb))))
    go_meet
    case rel => exact ⟨_, (!t451), (by first | rfl | (simp; done) | (simp [*]; done)), H', ⟨by first | omega | exact Nat.le_refl _⟩, ⟨by (with_reducible repeat (first | apply Kd.R_alloc | apply Kd.R_drewN | apply Kd.R_drew)); exact HO449.out⟩, ⟨hb_⟩⟩
   ·replace c9 := Bool.eq_false_iff.mpr c9
    subst c9
    have H1 : (spec_AbsenceRight.j0 k l2 t446 true) = some r := by rw [if_neg (show ¬ (false = true) by decide)] at H; exact H
    clear H
    have H := H1
    clear H1
    have H' := Aside0.mk H
    clear H
    obtain ⟨Ao13, co13, eo13⟩ := Kd.R_slice HO449.out
    subst eo13
    go_wp2_with (first | (go_at_call 59; (with_reducible refine (spec_l1In.calls (l2.length : Int) 1 (t446.length : Int) false _ A8.out).mono ?_); rintro e w' ⟨rfl, ⟨nd, rfl⟩⟩; (try first | exact ⟨rfl, _, World.drewN_drewN _ _ _⟩ | exact ⟨rfl, _, Eq.trans (World.drewN_drewN _ _ _) (congrArg (World.drewN _) (Nat.add_assoc _ _ _))⟩)))
    repeat (go_quiet (first | (go_at_call 59; (with_reducible refine (spec_l1In.calls (l2.length : Int) 1 (t446.length : Int) false _ A8.out).mono ?_); rintro e w' ⟨rfl, ⟨nd, rfl⟩⟩; (try first | exact ⟨rfl, _, World.drewN_drewN _ _ _⟩ | exact ⟨rfl, _, Eq.trans (World.drewN_drewN _ _ _) (congrArg (World.drewN _) (Nat.add_assoc _ _ _))⟩))); try go_wp2_with (first | (go_at_call 59; (with_reducible refine (spec_l1In.calls (l2.length : Int) 1 (t446.length : Int) false _ A8.out).mono ?_); rintro e w' ⟨rfl, ⟨nd, rfl⟩⟩; (try first | exact ⟨rfl, _, World.drewN_drewN _ _ _⟩ | exact ⟨rfl, _, Eq.trans (World.drewN_drewN _ _ _) (congrArg (World.drewN _) (Nat.add_assoc _ _ _))⟩))))
    go_meet
    case rel => exact ⟨_, (true), (by first | rfl | (simp; done) | (simp [*]; done)), H', ⟨by first | omega | exact Nat.le_refl _⟩, ⟨by (with_reducible repeat (first | apply Kd.R_alloc | apply Kd.R_drewN | apply Kd.R_drew)); exact HO449.out⟩, ⟨hb_⟩⟩
  ·replace c7 := Bool.eq_false_iff.mpr c7
   subst c7
   have H1 : (spec_AbsenceRight.j0 k l2 t446 true) = some r := by rw [if_neg (show ¬ (false = true) by decide)] at H; exact H
   clear H
   have H := H1
   clear H1
   have H' := Aside0.mk H
   clear H
   go_wp2
   repeat (go_quiet (fail); try go_wp2)
   go_meet
   case rel => exact ⟨_, (true), (by first | rfl | (simp; done) | (simp [*]; done)), H', ⟨by first | omega | exact Nat.le_refl _⟩, ⟨by (with_reducible repeat (first | apply Kd.R_alloc | apply Kd.R_drewN | apply Kd.R_drew)); exact HO449.out⟩, ⟨hb_⟩⟩
 case rest =>
  clear HC5
  try clear c2
  try clear p2
  try clear c3
  try clear c7
  try clear c9
  obtain ⟨kq, x33_4, rfl, HA, HJ4, HO_7, HB⟩ := hcut
  cases kq with
  | zero => exact absurd HA.out (by simp [spec_AbsenceRight.j0])
  | succ kj4 =>
   have H := HA.out
   clear HA
   simp only [spec_AbsenceRight.j0] at H
   by_cases c14 : x33_4 = true
   ·subst c14
    have H1 : (some false) = some r := by rw [if_pos rfl] at H; exact H
    clear H
    have H := H1
    clear H1
    obtain rfl := Option.some.inj H
    go_wp2
    repeat (go_quiet (fail); try go_wp2)
    go_ret
    exact ⟨er_, hb_⟩
   ·replace c14 := Bool.eq_false_iff.mpr c14
    subst c14
    have H1 : (if 0 ≤ (wrap64 ((l2.length : Int) - 1)) then (if (wrap64 ((l2.length : Int) - 1)) < (l2.length : Int) then ((spec_ReadFolder.f kj4 (rdOf ByteArray.empty l2 (wrap64 ((l2.length : Int) - 1)))).bind fun bt453 => (spec_AbsenceRight.l0 kj4 l2 t446 bt453.1 bt453.2 0)) else (none)) else (none)) = some r := by rw [if_neg (show ¬ (false = true) by decide)] at H; exact H
    clear H
    have H := H1
    clear H1
    obtain ⟨ji15, hji15⟩ : ∃ j_ : Int, (wrap64 ((l2.length : Int) - 1)) = j_ := ⟨_, rfl⟩
    replace H : (if 0 ≤ (ji15) then (if (ji15) < (l2.length : Int) then ((spec_ReadFolder.f kj4 (rdOf ByteArray.empty l2 (ji15))).bind fun bt453 => (spec_AbsenceRight.l0 kj4 l2 t446 bt453.1 bt453.2 0)) else (none)) else (none)) = some r := by first | (rw [hji15] at H; exact H) | (simp only [hji15] at H ⊢; exact H)
    have hji15w : (IntKind.i64.wrap ((l2.length : Int) - 1)) = ji15 := (i64_w _).trans hji15
    by_cases c16 : 0 ≤ (ji15)
    ·rw [if_pos c16] at H
     have c16b0 : decide (0 ≤ (ji15)) = true := decide_eq_true c16
     clear c16
     by_cases c17 : (ji15) < (l2.length : Int)
     ·rw [if_pos c17] at H
      have c17b0 : decide ((ji15) < (l2.length : Int)) = true := decide_eq_true c17
      clear c17
      replace H := Option.bind_eq_some_iff.mp H
      obtain ⟨⟨t453, t454⟩, A180, H⟩ := H
      replace H : (spec_AbsenceRight.l0 kj4 l2 t446 t453 t454 0) = some r := H
      have A18 := Aside0.mk A180
      clear A180
      have H' := Aside0.mk H
      clear H
      have p452 : 0 ≤ ((ji15) : Int) := of_decide_eq_true ma_
      have q452 : (ji15) < (l2.length : Int) := of_decide_eq_true ma_
      obtain ⟨ad452, e452, hx452_0⟩ := Kd.at_string HR2.out (ji15) p452 q452
      cases e452
      replace hx452_0 := (HB.out.cell (World.block_lt_of_cell? w _ hx452_0)).trans hx452_0
      replace p452 := eq_true p452
      replace q452 := eq_true q452
      go_wp2_with (first | (go_at_call 61; (with_reducible refine (spec_ReadFolder.calls kj4 (rdOf ByteArray.empty l2 (ji15)) t453 t454 _ A18.out).mono ?_); rintro e w19 ⟨v455, rfl, ho0, hb⟩; replace HO_7 := Aside0.mk (Kd.R_below (kR_ HO_7.out) hb); have HO456 := Aside0.mk (Kd.R_lower ho0 (below_size hb_)); replace HB := Aside0.mk (below_step hb_ hb); (try clear hb); (try clear ho0)))
      repeat (go_quiet (first | (go_at_call 61; (with_reducible refine (spec_ReadFolder.calls kj4 (rdOf ByteArray.empty l2 (ji15)) t453 t454 _ A18.out).mono ?_); rintro e w19 ⟨v455, rfl, ho0, hb⟩; replace HO_7 := Aside0.mk (Kd.R_below (kR_ HO_7.out) hb); have HO456 := Aside0.mk (Kd.R_lower ho0 (below_size hb_)); replace HB := Aside0.mk (below_step hb_ hb); (try clear hb); (try clear ho0))); try go_wp2_with (first | (go_at_call 61; (with_reducible refine (spec_ReadFolder.calls kj4 (rdOf ByteArray.empty l2 (ji15)) t453 t454 _ A18.out).mono ?_); rintro e w19 ⟨v455, rfl, ho0, hb⟩; replace HO_7 := Aside0.mk (Kd.R_below (kR_ HO_7.out) hb); have HO456 := Aside0.mk (Kd.R_lower ho0 (below_size hb_)); replace HB := Aside0.mk (below_step hb_ hb); (try clear hb); (try clear ho0))))
      go_loopg [11] kj4 (fun kq v11 w' => ∃ (x11_2 : Int), v11 = .int .i64 x11_2 ∧ Aside0 (spec_AbsenceRight.l0 kq l2 t446 t453 t454 x11_2 = some r) ∧ Aside0 (kq ≤ kj4) ∧ Aside0 (Kd.R Kd.string 9 w' w.heap.size (fun _ => True) v448 t446) ∧ Aside0 (Kd.R k75 75 w' w.heap.size (fun _ => True) v455 t453) ∧ Aside0 (Below w.heap.size w w'))
      case atStart => exact ⟨(0), (by first | rfl | (simp; done) | (simp [*]; done)), H', ⟨Nat.le_refl _⟩, ⟨by (with_reducible repeat (first | apply Kd.R_alloc | apply Kd.R_drewN | apply Kd.R_drew)); exact HO_7.out⟩, ⟨by (with_reducible repeat (first | apply Kd.R_alloc | apply Kd.R_drewN | apply Kd.R_drew)); exact HO456.out⟩, ⟨hb_⟩⟩
      case round =>
       clear H'
       try clear c1
       try clear c2
       try clear p2
       try clear c3
       try clear p4
       try clear q4
       try clear hx4
       try clear p6
       try clear c7
       try clear c9
       try clear c14
       try clear c16
       try clear c16b0
       try clear c17
       try clear c17b0
       try clear hx452_0
       try clear p2
       try clear p452
       try clear q452
       obtain ⟨x11_2, rfl, HA, HK2, HO_7, HO_9, HB⟩ := hrel
       cases gk with
       | zero => exact absurd HA.out (by simp [spec_AbsenceRight.l0])
       | succ k2 =>
        have H := HA.out
        clear HA
        simp only [spec_AbsenceRight.l0] at H
        by_cases c20 : x11_2 < (t453.length : Int)
        ·rw [if_pos c20] at H
         have c20b0 : decide (x11_2 < (t453.length : Int)) = true := decide_eq_true c20
         clear c20
         by_cases c21 : 0 ≤ x11_2
         ·rw [if_pos c21] at H
          have c21b0 : decide (0 ≤ x11_2) = true := decide_eq_true c21
          clear c21
          try (have e_ : (wrap64 ((l2.length : Int) - 1)) = ji15 := hji15; clear e_; clear hji15; try clear hji15w)
          obtain ⟨ji22, hji22⟩ : ∃ j_ : Int, (wrap64 ((l2.length : Int) - 1)) = j_ := ⟨_, rfl⟩
          replace H : (if 0 ≤ (ji22) then (if (ji22) < (t446.length : Int) then (if ((rd_T75 t453 x11_2).f0).toList = (rdOf ByteArray.empty t446 (ji22)).toList then (some false) else (spec_AbsenceRight.l0 k2 l2 t446 t453 t454 (wrap64 (x11_2 + 1)))) else (none)) else (none)) = some r := by first | (rw [hji22] at H; exact H) | (simp only [hji22] at H ⊢; exact H)
          have hji22w : (IntKind.i64.wrap ((l2.length : Int) - 1)) = ji22 := (i64_w _).trans hji22
          by_cases c23 : 0 ≤ (ji22)
          ·rw [if_pos c23] at H
           have c23b0 : decide (0 ≤ (ji22)) = true := decide_eq_true c23
           clear c23
           by_cases c24 : (ji22) < (t446.length : Int)
           ·rw [if_pos c24] at H
            have c24b0 : decide ((ji22) < (t446.length : Int)) = true := decide_eq_true c24
            clear c24
            by_cases c25 : ((rd_T75 t453 x11_2).f0).toList = (rdOf ByteArray.empty t446 (ji22)).toList
            ·rw [if_pos c25] at H
             have c25b0 : (((rd_T75 t453 x11_2).f0).toList == (rdOf ByteArray.empty t446 (ji22)).toList) = true := beq_iff_eq.mpr c25
             have c25b1 : (((rd_T75 t453 x11_2).f0).toList != (rdOf ByteArray.empty t446 (ji22)).toList) = false := bne_eq_false_iff_eq.mpr c25
             clear c25
             obtain rfl := Option.some.inj H
             obtain ⟨Ao26, co26, eo26⟩ := Kd.R_slice HO_9.out
             subst eo26
             have p457 : 0 ≤ (x11_2 : Int) := of_decide_eq_true ma_
             have q457 : x11_2 < (t453.length : Int) := of_decide_eq_true ma_
             obtain ⟨ad457, e457, hx457_0, hx457_1⟩ := at_T75 (Kd.R_reads' HO_9.out).2.2 x11_2 p457 q457
             cases e457
             replace p457 := eq_true p457
             replace q457 := eq_true q457
             obtain ⟨Ao27, co27, eo27⟩ := Kd.R_slice HO_7.out
             subst eo27
             have p458 : 0 ≤ ((ji22) : Int) := of_decide_eq_true ma_
             have q458 : (ji22) < (t446.length : Int) := of_decide_eq_true ma_
             obtain ⟨ad458, e458, hx458_0⟩ := Kd.at_string (Kd.R_reads' HO_7.out).2.2 (ji22) p458 q458
             cases e458
             replace p458 := eq_true p458
             replace q458 := eq_true q458
             go_wp2
             repeat (go_quiet (fail); try go_wp2)
             go_ret
             exact ⟨by first | rfl | (simp [errW_none, errW_some] <;> rfl) | (simp only [← hji15, ← hji22]; first | rfl | (simp [errW_none, errW_some] <;> rfl)) | (simp [*, errW_none, errW_some] <;> rfl), hb_⟩
            ·rw [if_neg c25] at H
             have c25b0 : (((rd_T75 t453 x11_2).f0).toList == (rdOf ByteArray.empty t446 (ji22)).toList) = false := beq_eq_false_iff_ne.mpr c25
             have c25b1 : (((rd_T75 t453 x11_2).f0).toList != (rdOf ByteArray.empty t446 (ji22)).toList) = true := bne_iff_ne.mpr c25
             have H' := Aside0.mk H
             clear H
             obtain ⟨Ao28, co28, eo28⟩ := Kd.R_slice HO_9.out
             subst eo28
             have p457 : 0 ≤ (x11_2 : Int) := of_decide_eq_true ma_
             have q457 : x11_2 < (t453.length : Int) := of_decide_eq_true ma_
             obtain ⟨ad457, e457, hx457_0, hx457_1⟩ := at_T75 (Kd.R_reads' HO_9.out).2.2 x11_2 p457 q457
             cases e457
             replace p457 := eq_true p457
             replace q457 := eq_true q457
             obtain ⟨Ao29, co29, eo29⟩ := Kd.R_slice HO_7.out
             subst eo29
             have p458 : 0 ≤ ((ji22) : Int) := of_decide_eq_true ma_
             have q458 : (ji22) < (t446.length : Int) := of_decide_eq_true ma_
             obtain ⟨ad458, e458, hx458_0⟩ := Kd.at_string (Kd.R_reads' HO_7.out).2.2 (ji22) p458 q458
             cases e458
             replace p458 := eq_true p458
             replace q458 := eq_true q458
             go_wp2
             repeat (go_quiet (fail); try go_wp2)
             go_roundg k2
             case measure => have := HJ4.out; have := HK2.out; omega
             case rel => exact ⟨(wrap64 (x11_2 + 1)), (by first | rfl | (simp; done) | (simp [*]; done)), H', ⟨by have := HJ4.out; have := HK2.out; omega⟩, ⟨by (with_reducible repeat (first | apply Kd.R_alloc | apply Kd.R_drewN | apply Kd.R_drew)); exact HO_7.out⟩, ⟨by (with_reducible repeat (first | apply Kd.R_alloc | apply Kd.R_drewN | apply Kd.R_drew)); exact HO_9.out⟩, ⟨hb_⟩⟩
           ·rw [if_neg c24] at H
            exact absurd H (by simp)
          ·rw [if_neg c23] at H
           exact absurd H (by simp)
         ·rw [if_neg c21] at H
          exact absurd H (by simp)
        ·rw [if_neg c20] at H
         have c20b0 : decide (x11_2 < (t453.length : Int)) = false := decide_eq_false c20
         clear c20
         obtain rfl := Option.some.inj H
         obtain ⟨Ao30, co30, eo30⟩ := Kd.R_slice HO_9.out
         subst eo30
         go_wp2
         repeat (go_quiet (fail); try go_wp2)
         go_ret
         exact ⟨by first | rfl | (simp [errW_none, errW_some] <;> rfl) | (simp only [← hji15]; first | rfl | (simp [errW_none, errW_some] <;> rfl)) | (simp [*, errW_none, errW_some] <;> rfl), hb_⟩
     ·rw [if_neg c17] at H
      exact absurd H (by simp)
    ·rw [if_neg c16] at H
     exact absurd H (by simp)
/-! ### spec_AbsenceProof: function 17 -/
mutual
def spec_AbsenceProof.j0 : Nat → List (S46) → Int → ByteArray → List ByteArray → Bool → Option (List ByteArray)
 | 0, _, _, _, _, _ => none
 | k + 1, x0, x1, x2, x7, x22 => if x22 = true then (some (([] : List ByteArray))) else (spec_AbsenceProof.l0 k x0 x1 x2 x7 0)
def spec_AbsenceProof.l0 : Nat → List (S46) → Int → ByteArray → List ByteArray → Int → Option (List ByteArray)
 | 0, _, _, _, _, _ => none
 | k + 1, x0, x1, x2, x7, x9 => if x9 < (x7.length : Int) then (if 0 ≤ x9 then (if x9 ≤ (x7.length : Int) then ((spec_JoinPath.f k (x7.take (x9 : Int).toNat)).bind fun t474 => ((spec_PathProof.f k x0 x1 t474).bind fun t475 => ((spec_AbsenceRight.f k x1 x2 t475).bind fun t478 => (if t478 = true then (some t475) else (spec_AbsenceProof.l0 k x0 x1 x2 x7 (wrap64 (x9 + 1))))))) else (none)) else (none)) else (some (([] : List ByteArray)))
end
def spec_AbsenceProof.f (k : Nat) (l0 : List (S46)) (a1 : Int) (a2 : ByteArray) : Option (List ByteArray) := (spec_PathParts.f k a2).bind fun bt459 => (if bt459.2 = true then ((spec_StoreValid.f k l0).bind fun t463 => (spec_AbsenceProof.j0 k l0 a1 a2 bt459.1 (!t463))) else (spec_AbsenceProof.j0 k l0 a1 a2 bt459.1 true))
theorem spec_AbsenceProof.mono_l : ∀ k, (∀ y0 y1 y2 y3 y4, LeO (spec_AbsenceProof.j0 k y0 y1 y2 y3 y4) (spec_AbsenceProof.j0 (k + 1) y0 y1 y2 y3 y4)) ∧ (∀ y0 y1 y2 y3 y4, LeO (spec_AbsenceProof.l0 k y0 y1 y2 y3 y4) (spec_AbsenceProof.l0 (k + 1) y0 y1 y2 y3 y4))
 | 0 => ⟨fun _ _ _ _ _ r h => by simp [spec_AbsenceProof.j0] at h, fun _ _ _ _ _ r h => by simp [spec_AbsenceProof.l0] at h⟩
 | k + 1 => by
  obtain ⟨ih0, ih1⟩ := spec_AbsenceProof.mono_l k
  refine ⟨?_, ?_⟩
  ·intro y0 y1 y2 y3 y4
   unfold spec_AbsenceProof.j0
   repeat' first
   | (with_reducible exact ih0 _ _ _ _ _)
   | (with_reducible exact ih1 _ _ _ _ _)
   | (with_reducible exact spec_AbsenceRight.mono _ _ _ _)
   | (with_reducible exact spec_JoinPath.mono _ _)
   | (with_reducible exact spec_PathParts.mono _ _)
   | (with_reducible exact spec_PathProof.mono _ _ _ _)
   | (with_reducible exact spec_StoreValid.mono _ _)
   | (with_reducible exact LeO.refl _)
   | (with_reducible exact LeO.none _)
   | (with_reducible refine LeO.ite ?_ ?_)
   | (with_reducible refine LeO.bind ?_ (fun _ => ?_))
   | exact ih0 _ _ _ _ _
   | exact ih1 _ _ _ _ _
   | exact spec_AbsenceRight.mono _ _ _ _
   | exact spec_JoinPath.mono _ _
   | exact spec_PathParts.mono _ _
   | exact spec_PathProof.mono _ _ _ _
   | exact spec_StoreValid.mono _ _
   | exact LeO.none _
   | refine LeO.ite ?_ ?_
   | refine LeO.bind ?_ (fun _ => ?_)
  ·intro y0 y1 y2 y3 y4
   unfold spec_AbsenceProof.l0
   repeat' first
   | (with_reducible exact ih0 _ _ _ _ _)
   | (with_reducible exact ih1 _ _ _ _ _)
   | (with_reducible exact spec_AbsenceRight.mono _ _ _ _)
   | (with_reducible exact spec_JoinPath.mono _ _)
   | (with_reducible exact spec_PathParts.mono _ _)
   | (with_reducible exact spec_PathProof.mono _ _ _ _)
   | (with_reducible exact spec_StoreValid.mono _ _)
   | (with_reducible exact LeO.refl _)
   | (with_reducible exact LeO.none _)
   | (with_reducible refine LeO.ite ?_ ?_)
   | (with_reducible refine LeO.bind ?_ (fun _ => ?_))
   | exact ih0 _ _ _ _ _
   | exact ih1 _ _ _ _ _
   | exact spec_AbsenceRight.mono _ _ _ _
   | exact spec_JoinPath.mono _ _
   | exact spec_PathParts.mono _ _
   | exact spec_PathProof.mono _ _ _ _
   | exact spec_StoreValid.mono _ _
   | exact LeO.none _
   | refine LeO.ite ?_ ?_
   | refine LeO.bind ?_ (fun _ => ?_)
theorem spec_AbsenceProof.mono : ∀ a0 a1 a2 k, LeO (spec_AbsenceProof.f k a0 a1 a2) (spec_AbsenceProof.f (k + 1) a0 a1 a2) := by
 intro a0 a1 a2 k
 obtain ⟨ih0, ih1⟩ := spec_AbsenceProof.mono_l k
 unfold spec_AbsenceProof.f
 repeat' first
   | (with_reducible exact ih0 _ _ _ _ _)
   | (with_reducible exact ih1 _ _ _ _ _)
   | (with_reducible exact spec_AbsenceRight.mono _ _ _ _)
   | (with_reducible exact spec_JoinPath.mono _ _)
   | (with_reducible exact spec_PathParts.mono _ _)
   | (with_reducible exact spec_PathProof.mono _ _ _ _)
   | (with_reducible exact spec_StoreValid.mono _ _)
   | (with_reducible exact LeO.refl _)
   | (with_reducible exact LeO.none _)
   | (with_reducible refine LeO.ite ?_ ?_)
   | (with_reducible refine LeO.bind ?_ (fun _ => ?_))
   | exact ih0 _ _ _ _ _
   | exact ih1 _ _ _ _ _
   | exact spec_AbsenceRight.mono _ _ _ _
   | exact spec_JoinPath.mono _ _
   | exact spec_PathParts.mono _ _
   | exact spec_PathProof.mono _ _ _ _
   | exact spec_StoreValid.mono _ _
   | exact LeO.none _
   | refine LeO.ite ?_ ?_
   | refine LeO.bind ?_ (fun _ => ?_)
set_option maxHeartbeats 8000000 in
set_option maxRecDepth 100000 in
theorem spec_AbsenceProof.calls (k : Nat) (A0 : Option Addr) (c0 : Nat) (l0 : List (S46)) (a1 : Int) (a2 : ByteArray) (r : List ByteArray) (w : World) (hr0 : Kd.C k46 w A0 l0.length l0) (hc0 : l0.length ≤ c0) (h : spec_AbsenceProof.f k l0 a1 a2 = some r) :
  Calls Tryz.prog 17 #[.slice A0 l0.length c0, .int .i64 a1, .string a2] w fun e w' => ∃ v0_ : Value, e = .returned (v0_) ∧ Kd.R Kd.string 9 w' w.heap.size (fun _ => True) v0_ r ∧ Below w.heap.size w w' := by
 have HR0 := Aside0.mk hr0
 have HC0 := Aside0.mk hc0
 clear hr0 hc0
 have HB := Aside0.mk (Below.refl w.heap.size w)
 have H : ((spec_PathParts.f k a2).bind fun bt459 => (if bt459.2 = true then ((spec_StoreValid.f k l0).bind fun t463 => (spec_AbsenceProof.j0 k l0 a1 a2 bt459.1 (!t463))) else (spec_AbsenceProof.j0 k l0 a1 a2 bt459.1 true))) = some r := h
 clear h
 replace H := Option.bind_eq_some_iff.mp H
 obtain ⟨⟨t459, t460⟩, A40, H⟩ := H
 replace H : (if t460 = true then ((spec_StoreValid.f k l0).bind fun t463 => (spec_AbsenceProof.j0 k l0 a1 a2 t459 (!t463))) else (spec_AbsenceProof.j0 k l0 a1 a2 t459 true)) = some r := H
 have A4 := Aside0.mk A40
 clear A40
 have HC5 := Aside0.mk H
 clear H
 go_enter Tryz.func17, Tryz.ntmps17
 go_upto_region 2 with (first | ((with_reducible refine gate_callee (f := 30) rfl ?_); refine goesL_ (some 13) rfl rfl Tryz.func30 (by kernel_rfl) rfl #[.string a2] rfl sl_ ?_; (with_reducible refine (spec_PathParts.calls k a2 t459 t460 _ A4.out).mono ?_); rintro e w6 ⟨v461, rfl, ho0, hb⟩; refine ⟨_, rfl, ?_⟩; have HO462 := Aside0.mk (Kd.R_lower ho0 (below_size hb_)); replace HB := Aside0.mk (below_step hb_ hb); (try clear hb); (try clear ho0)))
 (try simp only [Act.put, List.setIfInBounds_toArray, List.set_cons_zero, List.set_cons_succ])
 go_cut [22] (fun v22 wc => ∃ (kq : Nat) (x22_4 : Bool), v22 = .bool x22_4 ∧ Aside0 (spec_AbsenceProof.j0 kq l0 a1 a2 t459 x22_4 = some r) ∧ Aside0 (kq ≤ k) ∧ Aside0 (Kd.R Kd.string 9 wc w.heap.size (fun _ => True) v461 t459) ∧ Aside0 (Below w.heap.size w wc))
 case first =>
  have H := HC5.out
  clear HC5
  by_cases c7 : t460 = true
  ·subst c7
   have H1 : ((spec_StoreValid.f k l0).bind fun t463 => (spec_AbsenceProof.j0 k l0 a1 a2 t459 (!t463))) = some r := by rw [if_pos rfl] at H; exact H
   clear H
   have H := H1
   clear H1
   replace H := Option.bind_eq_some_iff.mp H
   obtain ⟨t463, A80, H⟩ := H
   replace H : (spec_AbsenceProof.j0 k l0 a1 a2 t459 (!t463)) = some r := H
   have A8 := Aside0.mk A80
   clear A80
   have H' := Aside0.mk H
   clear H
   go_wp2_with (first | (go_at_call 36; (with_reducible refine (spec_StoreValid.calls k _ _ l0 t463 _ ?side1 ?side2 A8.out).mono ?_); (case side1 => exact kC_ (Kd.C_below HR0.out HB.out)); (case side2 => exact HC0.out); rintro e w9 ⟨rfl, hb⟩; replace HO462 := Aside0.mk (Kd.R_below (kR_ HO462.out) hb); replace HB := Aside0.mk (below_step hb_ hb); (try clear hb)))
   go_meet
   case rel => exact ⟨_, (!t463), (by first | rfl | (simp; done) | (simp [*]; done)), H', ⟨by first | omega | exact Nat.le_refl _⟩, ⟨by (with_reducible repeat (first | apply Kd.R_alloc | apply Kd.R_drewN | apply Kd.R_drew)); exact HO462.out⟩, ⟨hb_⟩⟩
  ·replace c7 := Bool.eq_false_iff.mpr c7
   subst c7
   have H1 : (spec_AbsenceProof.j0 k l0 a1 a2 t459 true) = some r := by rw [if_neg (show ¬ (false = true) by decide)] at H; exact H
   clear H
   have H := H1
   clear H1
   have H' := Aside0.mk H
   clear H
   go_wp2
   go_meet
   case rel => exact ⟨_, (true), (by first | rfl | (simp; done) | (simp [*]; done)), H', ⟨by first | omega | exact Nat.le_refl _⟩, ⟨by (with_reducible repeat (first | apply Kd.R_alloc | apply Kd.R_drewN | apply Kd.R_drew)); exact HO462.out⟩, ⟨hb_⟩⟩
 case rest =>
  clear HC5
  try clear c1
  try clear p2
  try clear c3
  try clear c7
  obtain ⟨kq, x22_4, rfl, HA, HJ4, HO_7, HB⟩ := hcut
  cases kq with
  | zero => exact absurd HA.out (by simp [spec_AbsenceProof.j0])
  | succ kj4 =>
   have H := HA.out
   clear HA
   simp only [spec_AbsenceProof.j0] at H
   by_cases c10 : x22_4 = true
   ·subst c10
    have H1 : (some (([] : List ByteArray))) = some r := by rw [if_pos rfl] at H; exact H
    clear H
    have H := H1
    clear H1
    obtain ⟨y464, hy464⟩ : ∃ y_ : List ByteArray, y_ = (([] : List ByteArray)) := ⟨_, rfl⟩
    replace H : (some y464) = some r := by first | (rw [hy464]; with_reducible exact H) | (have H2_ := (Option.bind_some _ _).symm.trans H; rw [hy464]; with_reducible exact H2_) | (have H2_ := (Option.bind_some _ _).symm.trans H; with_reducible exact H2_) | with_reducible exact H | (rw [hy464]; exact H) | exact H
    have Ny464 := Aside0.mk hy464
    clear hy464
    obtain rfl := Option.some.inj H
    go_wp2_with (first | ((with_reducible refine gate_dst (N := 23) rfl ?_); refine Kd.R_lit Kd.string _ 9 ?hg (N := 23) ?hd (xs := ([] : List ByteArray)) (inner := []) (ok := fun _ => True) (okp := fun _ => True) ?hr ?hp (fun _ hk => hk) trivial (Below.refl _ _) (Nat.le_refl _) (by simp) ?_; (case hd => rfl); (case hg => rfl); (case hr => first | (go_simp; done) | (go_simp; rfl)); (case hp => exact (Reps.none _ _)); intro v465 w11 ho12 hb hg_ hnew_; clear hg_ hnew_; (first | rw [← Ny464.out] at ho12 | (simp only [Int.reduceToNat] at ho12; rw [← Ny464.out] at ho12)); have HO466 := Aside0.mk (Kd.R_lower (Kd.R_new' ho12 (Kd.R_lt (kR_ HO_7.out))) (below_size hb_)); replace HO_7 := Aside0.mk (Kd.R_elder' (kR_ HO_7.out) (Kd.R_base ho12) hb); replace HB := Aside0.mk (below_step hb_ hb); clear hb ho12))
    go_ret
    exact ⟨_, er_, by (with_reducible repeat (first | apply Kd.R_alloc | apply Kd.R_drewN | apply Kd.R_drew)); exact Kd.R_mono HO466.out (fun _ hk => trivial), hb_⟩
   ·replace c10 := Bool.eq_false_iff.mpr c10
    subst c10
    have H1 : (spec_AbsenceProof.l0 kj4 l0 a1 a2 t459 0) = some r := by rw [if_neg (show ¬ (false = true) by decide)] at H; exact H
    clear H
    have H := H1
    clear H1
    have H' := Aside0.mk H
    clear H
    go_wp2
    go_loopg [9] kj4 (fun kq v9 w' => ∃ (x9_2 : Int), v9 = .int .i64 x9_2 ∧ Aside0 (spec_AbsenceProof.l0 kq l0 a1 a2 t459 x9_2 = some r) ∧ Aside0 (kq ≤ kj4) ∧ Aside0 (Kd.R Kd.string 9 w' w.heap.size (fun _ => True) v461 t459) ∧ Aside0 (Below w.heap.size w w'))
    case atStart => exact ⟨(0), (by first | rfl | (simp; done) | (simp [*]; done)), H', ⟨Nat.le_refl _⟩, ⟨by (with_reducible repeat (first | apply Kd.R_alloc | apply Kd.R_drewN | apply Kd.R_drew)); exact HO_7.out⟩, ⟨hb_⟩⟩
    case round =>
     clear H'
     try clear c1
     try clear p2
     try clear c3
     try clear c7
     try clear c10
     try clear p2
     obtain ⟨x9_2, rfl, HA, HK2, HO_7, HB⟩ := hrel
     cases gk with
     | zero => exact absurd HA.out (by simp [spec_AbsenceProof.l0])
     | succ k2 =>
      have H := HA.out
      clear HA
      simp only [spec_AbsenceProof.l0] at H
      by_cases c13 : x9_2 < (t459.length : Int)
      ·rw [if_pos c13] at H
       have c13b0 : decide (x9_2 < (t459.length : Int)) = true := decide_eq_true c13
       clear c13
       by_cases c14 : 0 ≤ x9_2
       ·rw [if_pos c14] at H
        have c14b0 := eq_true c14
        have c14b1 : decide (0 ≤ x9_2) = true := decide_eq_true c14
        clear c14
        by_cases c15 : x9_2 ≤ (t459.length : Int)
        ·rw [if_pos c15] at H
         have c15b0 := eq_true c15
         have c15b1 : decide (x9_2 ≤ (t459.length : Int)) = true := decide_eq_true c15
         clear c15
         obtain ⟨y470, hy470⟩ : ∃ y_ : List ByteArray, y_ = (t459.take (x9_2 : Int).toNat) := ⟨_, rfl⟩
         replace H : ((spec_JoinPath.f k2 y470).bind fun t474 => ((spec_PathProof.f k2 l0 a1 t474).bind fun t475 => ((spec_AbsenceRight.f k2 a1 a2 t475).bind fun t478 => (if t478 = true then (some t475) else (spec_AbsenceProof.l0 k2 l0 a1 a2 t459 (wrap64 (x9_2 + 1))))))) = some r := by first | (rw [hy470]; with_reducible exact H) | (have H2_ := (Option.bind_some _ _).symm.trans H; rw [hy470]; with_reducible exact H2_) | (have H2_ := (Option.bind_some _ _).symm.trans H; with_reducible exact H2_) | with_reducible exact H | (rw [hy470]; exact H) | exact H
         have Ny470 := Aside0.mk hy470
         clear hy470
         replace H := Option.bind_eq_some_iff.mp H
         obtain ⟨t474, A160, H⟩ := H
         replace H : ((spec_PathProof.f k2 l0 a1 t474).bind fun t475 => ((spec_AbsenceRight.f k2 a1 a2 t475).bind fun t478 => (if t478 = true then (some t475) else (spec_AbsenceProof.l0 k2 l0 a1 a2 t459 (wrap64 (x9_2 + 1)))))) = some r := H
         have A16 := Aside0.mk A160
         clear A160
         replace H := Option.bind_eq_some_iff.mp H
         obtain ⟨t475, A170, H⟩ := H
         replace H : ((spec_AbsenceRight.f k2 a1 a2 t475).bind fun t478 => (if t478 = true then (some t475) else (spec_AbsenceProof.l0 k2 l0 a1 a2 t459 (wrap64 (x9_2 + 1))))) = some r := H
         have A17 := Aside0.mk A170
         clear A170
         replace H := Option.bind_eq_some_iff.mp H
         obtain ⟨t478, A180, H⟩ := H
         replace H : (if t478 = true then (some t475) else (spec_AbsenceProof.l0 k2 l0 a1 a2 t459 (wrap64 (x9_2 + 1)))) = some r := H
         have A18 := Aside0.mk A180
         clear A180
         by_cases c19 : t478 = true
         ·subst c19
          have H1 : (some t475) = some r := by rw [if_pos rfl] at H; exact H
          clear H
          have H := H1
          clear H1
          obtain rfl := Option.some.inj H
          obtain ⟨Ao20, co20, eo20⟩ := Kd.R_slice HO_7.out
          subst eo20
          have q21 : (x9_2 : Int) ≤ ((t459.length : Int) : Int) := of_decide_eq_true ma_
          obtain ⟨i021, hi021, _, hsz21, _⟩ := info_parts info9
          have hroom21 : t459.length ≤ co20 := (Kd.R_reads' HO_7.out).2.1
          have hC21 : Kd.C Kd.string _ Ao20 t459.length t459 := (Kd.R_reads' HO_7.out).2.2
          have hcut21 := cut_to (P := Tryz.prog) 24 9 .i64 Tryz.underlying24 hi021 Ao20 t459.length co20 x9_2 (of_decide_eq_true ma_) q21 hroom21
          have hr21 := Kd.C_take (m := (x9_2 : Int).toNat) hC21 (by omega)
          have hy21 : y470.length = (x9_2 : Int).toNat := (by rw [Ny470.out, List.length_take]; omega)
          rw [← Ny470.out] at hr21
          rw [← hy21] at hcut21
          have HR473 := Aside0.mk hr21
          have HC473 := Aside0.mk (show y470.length ≤ co20 from by omega)
          clear hr21 hC21 hroom21 hi021 hsz21
          have KY21 := Aside0.mk hy21
          clear hy21
          have KL21 := Aside0.mk (show (x9_2 : Int).toNat ≤ t459.length from by omega)
          replace q21 := eq_true q21
          go_wp2_with (first | ((with_reducible refine gate_callee (f := 38) rfl ?_); refine goesL_ (some 35) rfl rfl Tryz.func38 (by kernel_rfl) rfl #[.slice Ao20 y470.length co20] rfl sl_ ?_; (with_reducible refine (spec_JoinPath.calls k2 _ _ y470 t474 _ ?side1 ?side2 A16.out).mono ?_); (case side1 => repeat (first | exact (by repeat (first | (with_reducible exact HR473.out) | (with_reducible refine Kd.C_alloc ?_ _) | (with_reducible refine Kd.C_drewN ?_ _) | (with_reducible refine Kd.C_drew ?_) | exact HR473.out)) | (with_reducible refine Kd.C_alloc ?_ _) | (with_reducible refine Kd.C_drewN ?_ _) | (with_reducible refine Kd.C_drew ?_))); (case side2 => exact HC473.out); rintro e w' ⟨rfl, ⟨nd, rfl⟩⟩; refine ⟨_, rfl, ?_⟩) | ((with_reducible refine gate_callee (f := 37) rfl ?_); refine goesL_ (some 36) rfl rfl Tryz.func37 (by kernel_rfl) rfl #[.slice A0 l0.length c0, .int .i64 a1, .string t474] rfl sl_ ?_; (with_reducible refine (spec_PathProof.calls k2 _ _ l0 a1 t474 t475 _ ?side1 ?side2 A17.out).mono ?_); (case side1 => exact kC_ (Kd.C_below HR0.out hb_)); (case side2 => exact HC0.out); rintro e w22 ⟨v476, rfl, ho0, hb⟩; refine ⟨_, rfl, ?_⟩; have HO477 := Aside0.mk (Kd.R_lower (Kd.R_new' ho0 (Kd.R_lt (kR_ HO_7.out))) (below_size hb_)); replace HO_7 := Aside0.mk (Kd.R_elder' (kR_ HO_7.out) (Kd.R_base ho0) hb); replace HR473 := Aside0.mk (Kd.C_below (by repeat (first | (with_reducible exact HR473.out) | (with_reducible refine Kd.C_alloc ?_ _) | (with_reducible refine Kd.C_drewN ?_ _) | (with_reducible refine Kd.C_drew ?_) | exact HR473.out)) hb); replace HB := Aside0.mk (below_step hb_ hb); (try clear hb); (try clear ho0); obtain ⟨Ao23, co23, eo23⟩ := Kd.R_slice HO477.out; subst eo23) | ((with_reducible refine gate_callee (f := 39) rfl ?_); refine goesL_ (some 40) rfl rfl Tryz.func39 (by kernel_rfl) rfl #[.int .i64 a1, .string a2, .slice Ao23 t475.length co23] rfl sl_ ?_; (with_reducible refine (spec_AbsenceRight.calls k2 a1 a2 _ _ t475 true _ ?side1 ?side2 A18.out).mono ?_); (case side1 => exact kC_ ((Kd.R_reads' HO477.out).2.2)); (case side2 => exact (Kd.R_reads' HO477.out).2.1); rintro e w24 ⟨rfl, hb⟩; refine ⟨_, rfl, ?_⟩; replace HO_7 := Aside0.mk (Kd.R_below (kR_ HO_7.out) hb); replace HO477 := Aside0.mk (Kd.R_below (kR_ HO477.out) hb); replace HR473 := Aside0.mk (Kd.C_below (by repeat (first | (with_reducible exact HR473.out) | (with_reducible refine Kd.C_alloc ?_ _) | (with_reducible refine Kd.C_drewN ?_ _) | (with_reducible refine Kd.C_drew ?_) | exact HR473.out)) hb); replace HB := Aside0.mk (below_step hb_ hb); (try clear hb)))
          go_ret
          exact ⟨_, er_, by (with_reducible repeat (first | apply Kd.R_alloc | apply Kd.R_drewN | apply Kd.R_drew)); exact Kd.R_mono HO477.out (fun _ hk => trivial), hb_⟩
         ·replace c19 := Bool.eq_false_iff.mpr c19
          subst c19
          have H1 : (spec_AbsenceProof.l0 k2 l0 a1 a2 t459 (wrap64 (x9_2 + 1))) = some r := by rw [if_neg (show ¬ (false = true) by decide)] at H; exact H
          clear H
          have H := H1
          clear H1
          have H' := Aside0.mk H
          clear H
          obtain ⟨Ao25, co25, eo25⟩ := Kd.R_slice HO_7.out
          subst eo25
          have q26 : (x9_2 : Int) ≤ ((t459.length : Int) : Int) := of_decide_eq_true ma_
          obtain ⟨i026, hi026, _, hsz26, _⟩ := info_parts info9
          have hroom26 : t459.length ≤ co25 := (Kd.R_reads' HO_7.out).2.1
          have hC26 : Kd.C Kd.string _ Ao25 t459.length t459 := (Kd.R_reads' HO_7.out).2.2
          have hcut26 := cut_to (P := Tryz.prog) 24 9 .i64 Tryz.underlying24 hi026 Ao25 t459.length co25 x9_2 (of_decide_eq_true ma_) q26 hroom26
          have hr26 := Kd.C_take (m := (x9_2 : Int).toNat) hC26 (by omega)
          have hy26 : y470.length = (x9_2 : Int).toNat := (by rw [Ny470.out, List.length_take]; omega)
          rw [← Ny470.out] at hr26
          rw [← hy26] at hcut26
          have HR473 := Aside0.mk hr26
          have HC473 := Aside0.mk (show y470.length ≤ co25 from by omega)
          clear hr26 hC26 hroom26 hi026 hsz26
          have KY26 := Aside0.mk hy26
          clear hy26
          have KL26 := Aside0.mk (show (x9_2 : Int).toNat ≤ t459.length from by omega)
          replace q26 := eq_true q26
          go_wp2_with (first | ((with_reducible refine gate_callee (f := 38) rfl ?_); refine goesL_ (some 35) rfl rfl Tryz.func38 (by kernel_rfl) rfl #[.slice Ao25 y470.length co25] rfl sl_ ?_; (with_reducible refine (spec_JoinPath.calls k2 _ _ y470 t474 _ ?side1 ?side2 A16.out).mono ?_); (case side1 => repeat (first | exact (by repeat (first | (with_reducible exact HR473.out) | (with_reducible refine Kd.C_alloc ?_ _) | (with_reducible refine Kd.C_drewN ?_ _) | (with_reducible refine Kd.C_drew ?_) | exact HR473.out)) | (with_reducible refine Kd.C_alloc ?_ _) | (with_reducible refine Kd.C_drewN ?_ _) | (with_reducible refine Kd.C_drew ?_))); (case side2 => exact HC473.out); rintro e w' ⟨rfl, ⟨nd, rfl⟩⟩; refine ⟨_, rfl, ?_⟩) | ((with_reducible refine gate_callee (f := 37) rfl ?_); refine goesL_ (some 36) rfl rfl Tryz.func37 (by kernel_rfl) rfl #[.slice A0 l0.length c0, .int .i64 a1, .string t474] rfl sl_ ?_; (with_reducible refine (spec_PathProof.calls k2 _ _ l0 a1 t474 t475 _ ?side1 ?side2 A17.out).mono ?_); (case side1 => exact kC_ (Kd.C_below HR0.out hb_)); (case side2 => exact HC0.out); rintro e w27 ⟨v476, rfl, ho0, hb⟩; refine ⟨_, rfl, ?_⟩; have HO477 := Aside0.mk (Kd.R_lower (Kd.R_new' ho0 (Kd.R_lt (kR_ HO_7.out))) (below_size hb_)); replace HO_7 := Aside0.mk (Kd.R_elder' (kR_ HO_7.out) (Kd.R_base ho0) hb); replace HR473 := Aside0.mk (Kd.C_below (by repeat (first | (with_reducible exact HR473.out) | (with_reducible refine Kd.C_alloc ?_ _) | (with_reducible refine Kd.C_drewN ?_ _) | (with_reducible refine Kd.C_drew ?_) | exact HR473.out)) hb); replace HB := Aside0.mk (below_step hb_ hb); (try clear hb); (try clear ho0); obtain ⟨Ao28, co28, eo28⟩ := Kd.R_slice HO477.out; subst eo28) | ((with_reducible refine gate_callee (f := 39) rfl ?_); refine goesL_ (some 40) rfl rfl Tryz.func39 (by kernel_rfl) rfl #[.int .i64 a1, .string a2, .slice Ao28 t475.length co28] rfl sl_ ?_; (with_reducible refine (spec_AbsenceRight.calls k2 a1 a2 _ _ t475 false _ ?side1 ?side2 A18.out).mono ?_); (case side1 => exact kC_ ((Kd.R_reads' HO477.out).2.2)); (case side2 => exact (Kd.R_reads' HO477.out).2.1); rintro e w29 ⟨rfl, hb⟩; refine ⟨_, rfl, ?_⟩; replace HO_7 := Aside0.mk (Kd.R_below (kR_ HO_7.out) hb); replace HO477 := Aside0.mk (Kd.R_below (kR_ HO477.out) hb); replace HR473 := Aside0.mk (Kd.C_below (by repeat (first | (with_reducible exact HR473.out) | (with_reducible refine Kd.C_alloc ?_ _) | (with_reducible refine Kd.C_drewN ?_ _) | (with_reducible refine Kd.C_drew ?_) | exact HR473.out)) hb); replace HB := Aside0.mk (below_step hb_ hb); (try clear hb)))
          go_roundg k2
          case measure => have := HJ4.out; have := HK2.out; omega
          case rel => exact ⟨(wrap64 (x9_2 + 1)), (by first | rfl | (simp; done) | (simp [*]; done)), H', ⟨by have := HJ4.out; have := HK2.out; omega⟩, ⟨by (with_reducible repeat (first | apply Kd.R_alloc | apply Kd.R_drewN | apply Kd.R_drew)); exact Kd.R_mono HO_7.out (fun _ hk => trivial)⟩, ⟨hb_⟩⟩
        ·rw [if_neg c15] at H
         exact absurd H (by simp)
       ·rw [if_neg c14] at H
        exact absurd H (by simp)
      ·rw [if_neg c13] at H
       have c13b0 : decide (x9_2 < (t459.length : Int)) = false := decide_eq_false c13
       clear c13
       obtain ⟨y467, hy467⟩ : ∃ y_ : List ByteArray, y_ = (([] : List ByteArray)) := ⟨_, rfl⟩
       replace H : (some y467) = some r := by first | (rw [hy467]; with_reducible exact H) | (have H2_ := (Option.bind_some _ _).symm.trans H; rw [hy467]; with_reducible exact H2_) | (have H2_ := (Option.bind_some _ _).symm.trans H; with_reducible exact H2_) | with_reducible exact H | (rw [hy467]; exact H) | exact H
       have Ny467 := Aside0.mk hy467
       clear hy467
       obtain rfl := Option.some.inj H
       obtain ⟨Ao30, co30, eo30⟩ := Kd.R_slice HO_7.out
       subst eo30
       go_wp2_with (first | ((with_reducible refine gate_dst (N := 42) rfl ?_); refine Kd.R_lit Kd.string _ 9 ?hg (N := 42) ?hd (xs := ([] : List ByteArray)) (inner := []) (ok := fun _ => True) (okp := fun _ => True) ?hr ?hp (fun _ hk => hk) trivial (Below.refl _ _) (Nat.le_refl _) (by simp) ?_; (case hd => rfl); (case hg => rfl); (case hr => first | (go_simp; done) | (go_simp; rfl)); (case hp => exact (Reps.none _ _)); intro v468 w31 ho32 hb hg_ hnew_; clear hg_ hnew_; (first | rw [← Ny467.out] at ho32 | (simp only [Int.reduceToNat] at ho32; rw [← Ny467.out] at ho32)); have HO469 := Aside0.mk (Kd.R_lower (Kd.R_new' ho32 (Kd.R_lt (kR_ HO_7.out))) (below_size hb_)); replace HO_7 := Aside0.mk (Kd.R_elder' (kR_ HO_7.out) (Kd.R_base ho32) hb); replace HB := Aside0.mk (below_step hb_ hb); clear hb ho32))
       go_ret
       exact ⟨_, er_, by (with_reducible repeat (first | apply Kd.R_alloc | apply Kd.R_drewN | apply Kd.R_drew)); exact Kd.R_mono HO469.out (fun _ hk => trivial), hb_⟩
end Go.Proofs.YtjgbidklkhohfaaGreatDoor.P
