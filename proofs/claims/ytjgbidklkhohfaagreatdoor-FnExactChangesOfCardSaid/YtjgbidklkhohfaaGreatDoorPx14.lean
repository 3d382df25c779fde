-- The functions of the seat as plain Lean functions, made by the kit's print.py for all laws at once. Not trusted: Lean checks it.
import Derived.Test.YtjgbidklkhohfaaGreatDoorPx0
import Derived.Test.YtjgbidklkhohfaaGreatDoorPx7
import Derived.Test.YtjgbidklkhohfaaGreatDoorPx8
import Derived.Test.YtjgbidklkhohfaaGreatDoorPx10
namespace Go.Proofs.YtjgbidklkhohfaaGreatDoor.P
open Go.RowKit Go.Proofs.YtjgbidklkhohfaaGreatDoorW.PrintWords Go.Proofs.YtjgbidklkhohfaaGreatDoorW.PrintLast Go.Proofs.YtjgbidklkhohfaaGreatDoorW.PrintMore
attribute [local go_sem] max2_int min2_int max_two min_two max_three min_three max_four min_four   -- for this text's walks alone
set_option linter.unusedVariables false
set_option linter.unusedSimpArgs false
/-! ### spec_ChangesOf: function 23 -/
mutual
def spec_ChangesOf.l0 : Nat → List (S46) → Int → Int → List (S62) → List ByteArray → List ByteArray → Int → Option ((List (S62)))
 | 0, _, _, _, _, _, _, _ => none
 | k + 1, x0, x1, x2, x7, x8, x9, x10 => if x10 < (x8.length : Int) then (if 0 ≤ x10 then ((spec_ReadAt.f k x0 x2 (rdOf ByteArray.empty x8 x10)).bind fun bt640 => (if bt640.2 = true then (spec_ChangesOf.l0 k x0 x1 x2 x7 x8 x9 (wrap64 (x10 + 1))) else (if x7.length < 5864062014805 then (spec_ChangesOf.l0 k x0 x1 x2 (x7 ++ [(⟨rdOf ByteArray.empty x8 x10, 2⟩ : S62)]) x8 x9 (wrap64 (x10 + 1))) else (none)))) else (none)) else (spec_ChangesOf.l1 k x0 x1 x2 x7 x9 0)
def spec_ChangesOf.l1 : Nat → List (S46) → Int → Int → List (S62) → List ByteArray → Int → Option ((List (S62)))
 | 0, _, _, _, _, _, _ => none
 | k + 1, x0, x1, x2, x7, x9, x13 => if x13 < (x9.length : Int) then (if 0 ≤ x13 then ((spec_ReadAt.f k x0 x2 (rdOf ByteArray.empty x9 x13)).bind fun bt647 => ((spec_ReadAt.f k x0 x1 (rdOf ByteArray.empty x9 x13)).bind fun bt650 => (if bt650.2 = true then (if bt650.1.toList = bt647.1.toList then (spec_ChangesOf.l1 k x0 x1 x2 x7 x9 (wrap64 (x13 + 1))) else (if x7.length < 5864062014805 then (spec_ChangesOf.l1 k x0 x1 x2 (x7 ++ [(⟨rdOf ByteArray.empty x9 x13, 1⟩ : S62)]) x9 (wrap64 (x13 + 1))) else (none))) else (if x7.length < 5864062014805 then (spec_ChangesOf.l1 k x0 x1 x2 (x7 ++ [(⟨rdOf ByteArray.empty x9 x13, 0⟩ : S62)]) x9 (wrap64 (x13 + 1))) else (none))))) else (none)) else (some x7)
end
def spec_ChangesOf.f (k : Nat) (l0 : List (S46)) (a1 : Int) (a2 : Int) : Option ((List (S62))) := (spec_AllFiles.f k l0 a1).bind fun t633 => ((spec_AllFiles.f k l0 a2).bind fun t636 => (spec_ChangesOf.l0 k l0 a1 a2 (([] : List (S62))) t633 t636 0))
theorem spec_ChangesOf.mono_l : ∀ k, (∀ y0 y1 y2 y3 y4 y5 y6, LeO (spec_ChangesOf.l0 k y0 y1 y2 y3 y4 y5 y6) (spec_ChangesOf.l0 (k + 1) y0 y1 y2 y3 y4 y5 y6)) ∧ (∀ y0 y1 y2 y3 y4 y5, LeO (spec_ChangesOf.l1 k y0 y1 y2 y3 y4 y5) (spec_ChangesOf.l1 (k + 1) y0 y1 y2 y3 y4 y5))
 | 0 => ⟨fun _ _ _ _ _ _ _ r h => by simp [spec_ChangesOf.l0] at h, fun _ _ _ _ _ _ r h => by simp [spec_ChangesOf.l1] at h⟩
 | k + 1 => by
  obtain ⟨ih0, ih1⟩ := spec_ChangesOf.mono_l k
  refine ⟨?_, ?_⟩
  ·intro y0 y1 y2 y3 y4 y5 y6
   unfold spec_ChangesOf.l0
   repeat' first
   | (with_reducible exact ih0 _ _ _ _ _ _ _)
   | (with_reducible exact ih1 _ _ _ _ _ _)
   | (with_reducible exact spec_AllFiles.mono _ _ _)
   | (with_reducible exact spec_ReadAt.mono _ _ _ _)
   | (with_reducible exact LeO.refl _)
   | (with_reducible exact LeO.none _)
   | (with_reducible refine LeO.ite ?_ ?_)
   | (with_reducible refine LeO.bind ?_ (fun _ => ?_))
   | exact ih0 _ _ _ _ _ _ _
   | exact ih1 _ _ _ _ _ _
   | exact spec_AllFiles.mono _ _ _
   | exact spec_ReadAt.mono _ _ _ _
   | exact LeO.none _
   | refine LeO.ite ?_ ?_
   | refine LeO.bind ?_ (fun _ => ?_)
  ·intro y0 y1 y2 y3 y4 y5
   unfold spec_ChangesOf.l1
   repeat' first
   | (with_reducible exact ih0 _ _ _ _ _ _ _)
   | (with_reducible exact ih1 _ _ _ _ _ _)
   | (with_reducible exact spec_AllFiles.mono _ _ _)
   | (with_reducible exact spec_ReadAt.mono _ _ _ _)
   | (with_reducible exact LeO.refl _)
   | (with_reducible exact LeO.none _)
   | (with_reducible refine LeO.ite ?_ ?_)
   | (with_reducible refine LeO.bind ?_ (fun _ => ?_))
   | exact ih0 _ _ _ _ _ _ _
   | exact ih1 _ _ _ _ _ _
   | exact spec_AllFiles.mono _ _ _
   | exact spec_ReadAt.mono _ _ _ _
   | exact LeO.none _
   | refine LeO.ite ?_ ?_
   | refine LeO.bind ?_ (fun _ => ?_)
theorem spec_ChangesOf.mono : ∀ a0 a1 a2 k, LeO (spec_ChangesOf.f k a0 a1 a2) (spec_ChangesOf.f (k + 1) a0 a1 a2) := by
 intro a0 a1 a2 k
 obtain ⟨ih0, ih1⟩ := spec_ChangesOf.mono_l k
 unfold spec_ChangesOf.f
 repeat' first
   | (with_reducible exact ih0 _ _ _ _ _ _ _)
   | (with_reducible exact ih1 _ _ _ _ _ _)
   | (with_reducible exact spec_AllFiles.mono _ _ _)
   | (with_reducible exact spec_ReadAt.mono _ _ _ _)
   | (with_reducible exact LeO.refl _)
   | (with_reducible exact LeO.none _)
   | (with_reducible refine LeO.ite ?_ ?_)
   | (with_reducible refine LeO.bind ?_ (fun _ => ?_))
   | exact ih0 _ _ _ _ _ _ _
   | exact ih1 _ _ _ _ _ _
   | exact spec_AllFiles.mono _ _ _
   | exact spec_ReadAt.mono _ _ _ _
   | exact LeO.none _
   | refine LeO.ite ?_ ?_
   | refine LeO.bind ?_ (fun _ => ?_)
set_option maxHeartbeats 8000000 in
set_option maxRecDepth 100000 in
theorem spec_ChangesOf.calls (k : Nat) (A0 : Option Addr) (c0 : Nat) (l0 : List (S46)) (a1 : Int) (a2 : Int) (r : List (S62)) (w : World) (hr0 : Kd.C k46 w A0 l0.length l0) (hc0 : l0.length ≤ c0) (h : spec_ChangesOf.f k l0 a1 a2 = some r) :
  Calls Tryz.prog 23 #[.slice A0 l0.length c0, .int .i64 a1, .int .i64 a2] w fun e w' => ∃ v0_ : Value, e = .returned (v0_) ∧ Kd.R k62 62 w' w.heap.size (fun _ => True) v0_ r ∧ Below w.heap.size w w' := by
 have hu62 := Tryz.underlying62
 have HR0 := Aside0.mk hr0
 have HC0 := Aside0.mk hc0
 clear hr0 hc0
 have HB := Aside0.mk (Below.refl w.heap.size w)
 have H : ((spec_AllFiles.f k l0 a1).bind fun t633 => ((spec_AllFiles.f k l0 a2).bind fun t636 => (spec_ChangesOf.l0 k l0 a1 a2 (([] : List (S62))) t633 t636 0))) = some r := h
 clear h
 obtain ⟨y630, hy630⟩ : ∃ y_ : List (S62), y_ = (([] : List (S62))) := ⟨_, rfl⟩
 replace H : ((spec_AllFiles.f k l0 a1).bind fun t633 => ((spec_AllFiles.f k l0 a2).bind fun t636 => (spec_ChangesOf.l0 k l0 a1 a2 y630 t633 t636 0))) = some r := by first | (rw [hy630]; with_reducible exact H) | (have H2_ := (Option.bind_some _ _).symm.trans H; rw [hy630]; with_reducible exact H2_) | (have H2_ := (Option.bind_some _ _).symm.trans H; with_reducible exact H2_) | with_reducible exact H | (rw [hy630]; exact H) | exact H
 have Ny630 := Aside0.mk hy630
 clear hy630
 replace H := Option.bind_eq_some_iff.mp H
 obtain ⟨t633, A40, H⟩ := H
 replace H : ((spec_AllFiles.f k l0 a2).bind fun t636 => (spec_ChangesOf.l0 k l0 a1 a2 y630 t633 t636 0)) = some r := H
 have A4 := Aside0.mk A40
 clear A40
 replace H := Option.bind_eq_some_iff.mp H
 obtain ⟨t636, A50, H⟩ := H
 replace H : (spec_ChangesOf.l0 k l0 a1 a2 y630 t633 t636 0) = some r := H
 have A5 := Aside0.mk A50
 clear A50
 have H' := Aside0.mk H
 clear H
 go_enter Tryz.func23, Tryz.ntmps23
 go_wp2_with (first | ((with_reducible refine gate_dst (N := 18) rfl ?_); refine Kd.R_lit k62 _ 62 ?hg (N := 18) ?hd (xs := ([] : List (S62))) (inner := []) (ok := fun _ => True) (okp := fun _ => True) ?hr ?hp (fun _ hk => hk) trivial (Below.refl _ _) (Nat.le_refl _) (by simp) ?_; (case hd => rfl); (case hg => rfl); (case hr => first | (go_simp; done) | (go_simp; rfl)); (case hp => exact (Reps.none _ _)); intro v631 w6 ho7 hb hg_ hnew_; clear hg_ hnew_; (first | rw [← Ny630.out] at ho7 | (simp only [Int.reduceToNat] at ho7; rw [← Ny630.out] at ho7)); have HO632 := Aside0.mk (Kd.R_lower ho7 (below_size hb_)); replace HB := Aside0.mk (below_step hb_ hb); clear hb ho7) | ((with_reducible refine gate_callee (f := 29) rfl ?_); refine goesL_ (some 21) rfl rfl Tryz.func29 (by kernel_rfl) rfl #[.slice A0 l0.length c0, .int .i64 a1] rfl sl_ ?_; (with_reducible refine (spec_AllFiles.calls k _ _ l0 a1 t633 _ ?side1 ?side2 A4.out).mono ?_); (case side1 => exact kC_ (Kd.C_below HR0.out HB.out)); (case side2 => exact HC0.out); rintro e w8 ⟨v634, rfl, ho0, hb⟩; refine ⟨_, rfl, ?_⟩; replace HO632 := Aside0.mk (Kd.R_below (kR_ HO632.out) hb); have HO635 := Aside0.mk (Kd.R_lower ho0 (below_size hb_)); replace HB := Aside0.mk (below_step hb_ hb); (try clear hb); (try clear hk); (try clear ho0)) | ((with_reducible refine gate_callee (f := 29) rfl ?_); refine goesL_ (some 24) rfl rfl Tryz.func29 (by kernel_rfl) rfl #[.slice A0 l0.length c0, .int .i64 a2] rfl sl_ ?_; (with_reducible refine (spec_AllFiles.calls k _ _ l0 a2 t636 _ ?side1 ?side2 A5.out).mono ?_); (case side1 => exact kC_ (Kd.C_below HR0.out HB.out)); (case side2 => exact HC0.out); rintro e w9 ⟨v637, rfl, ho0, hb⟩; refine ⟨_, rfl, ?_⟩; replace HO632 := Aside0.mk (Kd.R_below (kR_ HO632.out) hb); have HO638 := Aside0.mk (Kd.R_lower (Kd.R_new' ho0 (Kd.R_lt (kR_ HO635.out))) (below_size hb_)); replace HO635 := Aside0.mk (Kd.R_elder' (kR_ HO635.out) (Kd.R_base ho0) hb); replace HB := Aside0.mk (below_step hb_ hb); (try clear hb); (try clear hk); (try clear ho0)))
 go_loopg [7, 10] k (fun kq v7 v10 w' => ∃ (x7_1 : List (S62)) (x10_1 : Int), v10 = .int .i64 x10_1 ∧ Aside0 (spec_ChangesOf.l0 kq l0 a1 a2 x7_1 t633 t636 x10_1 = some r) ∧ Aside0 (kq ≤ k) ∧ Aside0 (Kd.R k62 62 w' w.heap.size (fun _ => True) v7 x7_1) ∧ Aside0 (Kd.R Kd.string 9 w' w.heap.size (fun k_ => some k_ ≠ (v637 : Value).ownBlock) v634 t633) ∧ Aside0 (Kd.R Kd.string 9 w' w.heap.size (fun k_ => some k_ ≠ (v634 : Value).ownBlock) v637 t636) ∧ Aside0 (Below w.heap.size w w'))
 case atStart => exact ⟨(y630), (0), (by first | rfl | (simp; done) | (simp [*]; done)), H', ⟨Nat.le_refl _⟩, ⟨by (with_reducible repeat (first | apply Kd.R_alloc | apply Kd.R_drewN | apply Kd.R_drew)); exact HO632.out⟩, ⟨by (with_reducible repeat (first | apply Kd.R_alloc | apply Kd.R_drewN | apply Kd.R_drew)); exact Kd.R_mono HO635.out (fun _ hk => hk.2)⟩, ⟨by (with_reducible repeat (first | apply Kd.R_alloc | apply Kd.R_drewN | apply Kd.R_drew)); exact Kd.R_mono HO638.out (fun _ hk => hk.2)⟩, ⟨hb_⟩⟩
 case round =>
  clear H'
  try clear c2
  try clear p2
  obtain ⟨x7_1, x10_1, rfl, HA, HK1, HO_7, HO_8, HO_9, HB⟩ := hrel
  cases gk with
  | zero => exact absurd HA.out (by simp [spec_ChangesOf.l0])
  | succ k1 =>
   have H := HA.out
   clear HA
   simp only [spec_ChangesOf.l0] at H
   by_cases c10 : x10_1 < (t633.length : Int)
   ·rw [if_pos c10] at H
    have c10b0 : decide (x10_1 < (t633.length : Int)) = true := decide_eq_true c10
    clear c10
    by_cases c11 : 0 ≤ x10_1
    ·rw [if_pos c11] at H
     have c11b0 : decide (0 ≤ x10_1) = true := decide_eq_true c11
     clear c11
     replace H := Option.bind_eq_some_iff.mp H
     obtain ⟨⟨t640, t641⟩, A120, H⟩ := H
     replace H : (if t641 = true then (spec_ChangesOf.l0 k1 l0 a1 a2 x7_1 t633 t636 (wrap64 (x10_1 + 1))) else (if x7_1.length < 5864062014805 then (spec_ChangesOf.l0 k1 l0 a1 a2 (x7_1 ++ [(⟨rdOf ByteArray.empty t633 x10_1, 2⟩ : S62)]) t633 t636 (wrap64 (x10_1 + 1))) else (none))) = some r := H
     have A12 := Aside0.mk A120
     clear A120
     by_cases c13 : t641 = true
     ·subst c13
      have H1 : (spec_ChangesOf.l0 k1 l0 a1 a2 x7_1 t633 t636 (wrap64 (x10_1 + 1))) = some r := by rw [if_pos rfl] at H; exact H
      clear H
      have H := H1
      clear H1
      have H' := Aside0.mk H
      clear H
      obtain ⟨Ao14, co14, eo14⟩ := Kd.R_slice HO_8.out
      subst eo14
      have p639 : 0 ≤ (x10_1 : Int) := of_decide_eq_true ma_
      have q639 : x10_1 < (t633.length : Int) := of_decide_eq_true ma_
      obtain ⟨ad639, e639, hx639_0⟩ := Kd.at_string (Kd.R_reads' HO_8.out).2.2 x10_1 p639 q639
      cases e639
      replace p639 := eq_true p639
      replace q639 := eq_true q639
      go_wp2_with (first | ((with_reducible refine gate_callee (f := 44) rfl ?_); refine goesL_ (some 38) rfl rfl Tryz.func44 (by kernel_rfl) rfl #[.slice A0 l0.length c0, .int .i64 a2, .string (rdOf ByteArray.empty t633 x10_1)] rfl sl_ ?_; (with_reducible refine (spec_ReadAt.calls k1 _ _ l0 a2 (rdOf ByteArray.empty t633 x10_1) t640 true _ ?side1 ?side2 A12.out).mono ?_); (case side1 => exact kC_ (Kd.C_below HR0.out HB.out)); (case side2 => exact HC0.out); rintro e w15 ⟨rfl, hb⟩; refine ⟨_, rfl, ?_⟩; replace HO_7 := Aside0.mk (Kd.R_below (kR_ HO_7.out) hb); replace HO_8 := Aside0.mk (Kd.R_below (kR_ HO_8.out) hb); replace HO_9 := Aside0.mk (Kd.R_below (kR_ HO_9.out) hb); replace HB := Aside0.mk (below_step hb_ hb); (try clear hb)))
      go_roundg k1
      case measure => have := HK1.out; omega
      case rel => exact ⟨(x7_1), (wrap64 (x10_1 + 1)), (by first | rfl | (simp; done) | (simp [*]; done)), H', ⟨by have := HK1.out; omega⟩, ⟨by (with_reducible repeat (first | apply Kd.R_alloc | apply Kd.R_drewN | apply Kd.R_drew)); exact HO_7.out⟩, ⟨by (with_reducible repeat (first | apply Kd.R_alloc | apply Kd.R_drewN | apply Kd.R_drew)); exact HO_8.out⟩, ⟨by (with_reducible repeat (first | apply Kd.R_alloc | apply Kd.R_drewN | apply Kd.R_drew)); exact HO_9.out⟩, ⟨hb_⟩⟩
     ·replace c13 := Bool.eq_false_iff.mpr c13
      subst c13
      have H1 : (if x7_1.length < 5864062014805 then (spec_ChangesOf.l0 k1 l0 a1 a2 (x7_1 ++ [(⟨rdOf ByteArray.empty t633 x10_1, 2⟩ : S62)]) t633 t636 (wrap64 (x10_1 + 1))) else (none)) = some r := by rw [if_neg (show ¬ (false = true) by decide)] at H; exact H
      clear H
      have H := H1
      clear H1
      by_cases c16 : x7_1.length < 5864062014805
      ·rw [if_pos c16] at H
       have LMc16 := Aside0.mk c16
       clear c16
       obtain ⟨y643, hy643⟩ : ∃ y_ : List (S62), y_ = (x7_1 ++ [(⟨rdOf ByteArray.empty t633 x10_1, 2⟩ : S62)]) := ⟨_, rfl⟩
       replace H : (spec_ChangesOf.l0 k1 l0 a1 a2 y643 t633 t636 (wrap64 (x10_1 + 1))) = some r := by first | (rw [hy643]; with_reducible exact H) | (have H2_ := (Option.bind_some _ _).symm.trans H; rw [hy643]; with_reducible exact H2_) | (have H2_ := (Option.bind_some _ _).symm.trans H; with_reducible exact H2_) | with_reducible exact H | (rw [hy643]; exact H) | exact H
       have Ny643 := Aside0.mk hy643
       clear hy643
       have H' := Aside0.mk H
       clear H
       obtain ⟨Ao17, co17, eo17⟩ := Kd.R_slice HO_8.out
       subst eo17
       have p639 : 0 ≤ (x10_1 : Int) := of_decide_eq_true ma_
       have q639 : x10_1 < (t633.length : Int) := of_decide_eq_true ma_
       obtain ⟨ad639, e639, hx639_0⟩ := Kd.at_string (Kd.R_reads' HO_8.out).2.2 x10_1 p639 q639
       cases e639
       replace p639 := eq_true p639
       replace q639 := eq_true q639
       go_wp2_with (first | ((with_reducible refine gate_callee (f := 44) rfl ?_); refine goesL_ (some 38) rfl rfl Tryz.func44 (by kernel_rfl) rfl #[.slice A0 l0.length c0, .int .i64 a2, .string (rdOf ByteArray.empty t633 x10_1)] rfl sl_ ?_; (with_reducible refine (spec_ReadAt.calls k1 _ _ l0 a2 (rdOf ByteArray.empty t633 x10_1) t640 false _ ?side1 ?side2 A12.out).mono ?_); (case side1 => exact kC_ (Kd.C_below HR0.out HB.out)); (case side2 => exact HC0.out); rintro e w18 ⟨rfl, hb⟩; refine ⟨_, rfl, ?_⟩; replace HO_7 := Aside0.mk (Kd.R_below (kR_ HO_7.out) hb); replace HO_8 := Aside0.mk (Kd.R_below (kR_ HO_8.out) hb); replace HO_9 := Aside0.mk (Kd.R_below (kR_ HO_9.out) hb); replace HB := Aside0.mk (below_step hb_ hb); (try clear hb); (try clear hk); have p642 : 0 ≤ (x10_1 : Int) := of_decide_eq_true ma_; have q642 : x10_1 < (t633.length : Int) := of_decide_eq_true ma_; obtain ⟨ad642, e642, hx642_0⟩ := Kd.at_string (Kd.R_reads' HO_8.out).2.2 x10_1 p642 q642; obtain rfl : ad639 = ad642 := (by injection e642); replace p642 := eq_true p642; replace q642 := eq_true q642) | ((with_reducible refine gate_builtin (b := .append) (xs := #[.tmp 43, .tmp 49]) rfl ?_); at_builtin; refine Kd.R_append k62 (w0 := w) w.heap.size rfl (.tmp 43) (.tmp 49) 36 62 (.agg #[(.string ⟨#[]⟩), (.int .i64 0)]) 24 rfl Tryz.underlying36 info62 rfl (by decide) (by omega) u7 x7_1 (⟨rdOf ByteArray.empty t633 x10_1, 2⟩ : S62) [.string (rdOf ByteArray.empty t633 x10_1), .int .i64 2] (fun _ => True) (fun _ => False) rfl rfl ?aP (fun _ hk => hk.elim) ?aF ?aO ?aB ?aS ?aL ?_; (case aP => exact k62_mkM _ _ _ (⟨rdOf ByteArray.empty t633 x10_1, 2⟩ : S62)); (case aB => exact hb_); (case aF => exact (fun _ _ => trivial)); (case aO => exact (kR_ HO_7.out)); (case aS => exact (below_size hb_)); (case aL => have := LMc16.out; omega); intro v644 w19 ho hb hg hat; rw [← Ny643.out] at ho; have n0_ := Aside0.mk (Kd.R_over' (kR_ HO_8.out) (Kd.R_typed (kR_ HO_7.out)) (by decide) hg); have n1_ := Aside0.mk (Kd.R_over' (kR_ HO_9.out) (Kd.R_typed (kR_ HO_7.out)) (by decide) hg); have n2_ := Aside0.mk (hb); have n3_ := Aside0.mk (ho); clear HO_8; clear HO_9; clear HB; clear HO_7; have HO_8 := n0_; have HO_9 := n1_; have HB := n2_; have HO645 := n3_; clear n0_ n1_ n2_ n3_; clear ho hb hg hat))
       go_roundg k1
       case measure => have := HK1.out; omega
       case rel => exact ⟨(y643), (wrap64 (x10_1 + 1)), (by first | rfl | (simp; done) | (simp [*]; done)), H', ⟨by have := HK1.out; omega⟩, ⟨by (with_reducible repeat (first | apply Kd.R_alloc | apply Kd.R_drewN | apply Kd.R_drew)); exact HO645.out⟩, ⟨by (with_reducible repeat (first | apply Kd.R_alloc | apply Kd.R_drewN | apply Kd.R_drew)); exact HO_8.out⟩, ⟨by (with_reducible repeat (first | apply Kd.R_alloc | apply Kd.R_drewN | apply Kd.R_drew)); exact HO_9.out⟩, ⟨hb_⟩⟩
      ·rw [if_neg c16] at H
       exact absurd H (by simp)
    ·rw [if_neg c11] at H
     exact absurd H (by simp)
   ·rw [if_neg c10] at H
    have c10b0 : decide (x10_1 < (t633.length : Int)) = false := decide_eq_false c10
    clear c10
    have H' := Aside0.mk H
    clear H
    obtain ⟨Ao20, co20, eo20⟩ := Kd.R_slice HO_8.out
    subst eo20
    go_wp2
    go_loopg [7, 13] k1 (fun kq v7 v13 w' => ∃ (x7_2 : List (S62)) (x13_2 : Int), v13 = .int .i64 x13_2 ∧ Aside0 (spec_ChangesOf.l1 kq l0 a1 a2 x7_2 t636 x13_2 = some r) ∧ Aside0 (kq ≤ k1) ∧ Aside0 (Kd.R k62 62 w' w.heap.size (fun _ => True) v7 x7_2) ∧ Aside0 (Kd.R Kd.string 9 w' w.heap.size (fun _ => True) v637 t636) ∧ Aside0 (Below w.heap.size w w'))
    case atStart => exact ⟨(x7_1), (0), (by first | rfl | (simp; done) | (simp [*]; done)), H', ⟨Nat.le_refl _⟩, ⟨by (with_reducible repeat (first | apply Kd.R_alloc | apply Kd.R_drewN | apply Kd.R_drew)); exact HO_7.out⟩, ⟨by (with_reducible repeat (first | apply Kd.R_alloc | apply Kd.R_drewN | apply Kd.R_drew)); exact Kd.R_mono HO_9.out (fun _ hk => trivial)⟩, ⟨hb_⟩⟩
    case round =>
     clear H'
     try clear c1
     try clear c2
     try clear p2
     try clear c4
     try clear p6
     try clear q6
     try clear hx6
     try clear c10
     try clear c10b0
     try clear c11
     try clear c11b0
     try clear c13
     try clear c16
     try clear hx639_0
     try clear hx642_0
     try clear p2
     try clear p639
     try clear p642
     try clear q639
     try clear q642
     obtain ⟨x7_2, x13_2, rfl, HA, HK2, HO_7, HO_9, HB⟩ := hrel
     cases gk with
     | zero => exact absurd HA.out (by simp [spec_ChangesOf.l1])
     | succ k2 =>
      have H := HA.out
      clear HA
      simp only [spec_ChangesOf.l1] at H
      by_cases c21 : x13_2 < (t636.length : Int)
      ·rw [if_pos c21] at H
       have c21b0 : decide (x13_2 < (t636.length : Int)) = true := decide_eq_true c21
       clear c21
       by_cases c22 : 0 ≤ x13_2
       ·rw [if_pos c22] at H
        have c22b0 : decide (0 ≤ x13_2) = true := decide_eq_true c22
        clear c22
        replace H := Option.bind_eq_some_iff.mp H
        obtain ⟨⟨t647, t648⟩, A230, H⟩ := H
        replace H : ((spec_ReadAt.f k2 l0 a1 (rdOf ByteArray.empty t636 x13_2)).bind fun bt650 => (if bt650.2 = true then (if bt650.1.toList = t647.toList then (spec_ChangesOf.l1 k2 l0 a1 a2 x7_2 t636 (wrap64 (x13_2 + 1))) else (if x7_2.length < 5864062014805 then (spec_ChangesOf.l1 k2 l0 a1 a2 (x7_2 ++ [(⟨rdOf ByteArray.empty t636 x13_2, 1⟩ : S62)]) t636 (wrap64 (x13_2 + 1))) else (none))) else (if x7_2.length < 5864062014805 then (spec_ChangesOf.l1 k2 l0 a1 a2 (x7_2 ++ [(⟨rdOf ByteArray.empty t636 x13_2, 0⟩ : S62)]) t636 (wrap64 (x13_2 + 1))) else (none)))) = some r := H
        have A23 := Aside0.mk A230
        clear A230
        replace H := Option.bind_eq_some_iff.mp H
        obtain ⟨⟨t650, t651⟩, A240, H⟩ := H
        replace H : (if t651 = true then (if t650.toList = t647.toList then (spec_ChangesOf.l1 k2 l0 a1 a2 x7_2 t636 (wrap64 (x13_2 + 1))) else (if x7_2.length < 5864062014805 then (spec_ChangesOf.l1 k2 l0 a1 a2 (x7_2 ++ [(⟨rdOf ByteArray.empty t636 x13_2, 1⟩ : S62)]) t636 (wrap64 (x13_2 + 1))) else (none))) else (if x7_2.length < 5864062014805 then (spec_ChangesOf.l1 k2 l0 a1 a2 (x7_2 ++ [(⟨rdOf ByteArray.empty t636 x13_2, 0⟩ : S62)]) t636 (wrap64 (x13_2 + 1))) else (none))) = some r := H
        have A24 := Aside0.mk A240
        clear A240
        by_cases c25 : t651 = true
        ·subst c25
         have H1 : (if t650.toList = t647.toList then (spec_ChangesOf.l1 k2 l0 a1 a2 x7_2 t636 (wrap64 (x13_2 + 1))) else (if x7_2.length < 5864062014805 then (spec_ChangesOf.l1 k2 l0 a1 a2 (x7_2 ++ [(⟨rdOf ByteArray.empty t636 x13_2, 1⟩ : S62)]) t636 (wrap64 (x13_2 + 1))) else (none))) = some r := by rw [if_pos rfl] at H; exact H
         clear H
         have H := H1
         clear H1
         by_cases c26 : t650.toList = t647.toList
         ·rw [if_pos c26] at H
          have c26b0 : (t650.toList == t647.toList) = true := beq_iff_eq.mpr c26
          have c26b1 : (t650.toList != t647.toList) = false := bne_eq_false_iff_eq.mpr c26
          clear c26
          have H' := Aside0.mk H
          clear H
          obtain ⟨Ao27, co27, eo27⟩ := Kd.R_slice HO_9.out
          subst eo27
          have p646 : 0 ≤ (x13_2 : Int) := of_decide_eq_true ma_
          have q646 : x13_2 < (t636.length : Int) := of_decide_eq_true ma_
          obtain ⟨ad646, e646, hx646_0⟩ := Kd.at_string (Kd.R_reads' HO_9.out).2.2 x13_2 p646 q646
          cases e646
          replace p646 := eq_true p646
          replace q646 := eq_true q646
          go_wp2_with (first | ((with_reducible refine gate_callee (f := 44) rfl ?_); refine goesL_ (some 64) rfl rfl Tryz.func44 (by kernel_rfl) rfl #[.slice A0 l0.length c0, .int .i64 a2, .string (rdOf ByteArray.empty t636 x13_2)] rfl sl_ ?_; (with_reducible refine (spec_ReadAt.calls k2 _ _ l0 a2 (rdOf ByteArray.empty t636 x13_2) t647 t648 _ ?side1 ?side2 A23.out).mono ?_); (case side1 => exact kC_ (Kd.C_below HR0.out HB.out)); (case side2 => exact HC0.out); rintro e w28 ⟨rfl, hb⟩; refine ⟨_, rfl, ?_⟩; replace HO_7 := Aside0.mk (Kd.R_below (kR_ HO_7.out) hb); replace HO_9 := Aside0.mk (Kd.R_below (kR_ HO_9.out) hb); replace HB := Aside0.mk (below_step hb_ hb); (try clear hb); have p649 : 0 ≤ (x13_2 : Int) := of_decide_eq_true ma_; have q649 : x13_2 < (t636.length : Int) := of_decide_eq_true ma_; obtain ⟨ad649, e649, hx649_0⟩ := Kd.at_string (Kd.R_reads' HO_9.out).2.2 x13_2 p649 q649; obtain rfl : ad646 = ad649 := (by injection e649); replace p649 := eq_true p649; replace q649 := eq_true q649) | ((with_reducible refine gate_callee (f := 44) rfl ?_); refine goesL_ (some 74) rfl rfl Tryz.func44 (by kernel_rfl) rfl #[.slice A0 l0.length c0, .int .i64 a1, .string (rdOf ByteArray.empty t636 x13_2)] rfl sl_ ?_; (with_reducible refine (spec_ReadAt.calls k2 _ _ l0 a1 (rdOf ByteArray.empty t636 x13_2) t650 true _ ?side1 ?side2 A24.out).mono ?_); (case side1 => exact kC_ (Kd.C_below HR0.out HB.out)); (case side2 => exact HC0.out); rintro e w29 ⟨rfl, hb⟩; refine ⟨_, rfl, ?_⟩; replace HO_7 := Aside0.mk (Kd.R_below (kR_ HO_7.out) hb); replace HO_9 := Aside0.mk (Kd.R_below (kR_ HO_9.out) hb); replace HB := Aside0.mk (below_step hb_ hb); (try clear hb)))
          go_roundg k2
          case measure => have := HK1.out; have := HK2.out; omega
          case rel => exact ⟨(x7_2), (wrap64 (x13_2 + 1)), (by first | rfl | (simp; done) | (simp [*]; done)), H', ⟨by have := HK1.out; have := HK2.out; omega⟩, ⟨by (with_reducible repeat (first | apply Kd.R_alloc | apply Kd.R_drewN | apply Kd.R_drew)); exact HO_7.out⟩, ⟨by (with_reducible repeat (first | apply Kd.R_alloc | apply Kd.R_drewN | apply Kd.R_drew)); exact HO_9.out⟩, ⟨hb_⟩⟩
         ·rw [if_neg c26] at H
          have c26b0 : (t650.toList == t647.toList) = false := beq_eq_false_iff_ne.mpr c26
          have c26b1 : (t650.toList != t647.toList) = true := bne_iff_ne.mpr c26
          by_cases c30 : x7_2.length < 5864062014805
          ·rw [if_pos c30] at H
           have LMc30 := Aside0.mk c30
           clear c30
           obtain ⟨y653, hy653⟩ : ∃ y_ : List (S62), y_ = (x7_2 ++ [(⟨rdOf ByteArray.empty t636 x13_2, 1⟩ : S62)]) := ⟨_, rfl⟩
           replace H : (spec_ChangesOf.l1 k2 l0 a1 a2 y653 t636 (wrap64 (x13_2 + 1))) = some r := by first | (rw [hy653]; with_reducible exact H) | (have H2_ := (Option.bind_some _ _).symm.trans H; rw [hy653]; with_reducible exact H2_) | (have H2_ := (Option.bind_some _ _).symm.trans H; with_reducible exact H2_) | with_reducible exact H | (rw [hy653]; exact H) | exact H
           have Ny653 := Aside0.mk hy653
           clear hy653
           have H' := Aside0.mk H
           clear H
           obtain ⟨Ao31, co31, eo31⟩ := Kd.R_slice HO_9.out
           subst eo31
           have p646 : 0 ≤ (x13_2 : Int) := of_decide_eq_true ma_
           have q646 : x13_2 < (t636.length : Int) := of_decide_eq_true ma_
           obtain ⟨ad646, e646, hx646_0⟩ := Kd.at_string (Kd.R_reads' HO_9.out).2.2 x13_2 p646 q646
           cases e646
           replace p646 := eq_true p646
           replace q646 := eq_true q646
           go_wp2_with (first | ((with_reducible refine gate_callee (f := 44) rfl ?_); refine goesL_ (some 64) rfl rfl Tryz.func44 (by kernel_rfl) rfl #[.slice A0 l0.length c0, .int .i64 a2, .string (rdOf ByteArray.empty t636 x13_2)] rfl sl_ ?_; (with_reducible refine (spec_ReadAt.calls k2 _ _ l0 a2 (rdOf ByteArray.empty t636 x13_2) t647 t648 _ ?side1 ?side2 A23.out).mono ?_); (case side1 => exact kC_ (Kd.C_below HR0.out HB.out)); (case side2 => exact HC0.out); rintro e w32 ⟨rfl, hb⟩; refine ⟨_, rfl, ?_⟩; replace HO_7 := Aside0.mk (Kd.R_below (kR_ HO_7.out) hb); replace HO_9 := Aside0.mk (Kd.R_below (kR_ HO_9.out) hb); replace HB := Aside0.mk (below_step hb_ hb); (try clear hb); (try clear hk); have p649 : 0 ≤ (x13_2 : Int) := of_decide_eq_true ma_; have q649 : x13_2 < (t636.length : Int) := of_decide_eq_true ma_; obtain ⟨ad649, e649, hx649_0⟩ := Kd.at_string (Kd.R_reads' HO_9.out).2.2 x13_2 p649 q649; obtain rfl : ad646 = ad649 := (by injection e649); replace p649 := eq_true p649; replace q649 := eq_true q649) | ((with_reducible refine gate_callee (f := 44) rfl ?_); refine goesL_ (some 74) rfl rfl Tryz.func44 (by kernel_rfl) rfl #[.slice A0 l0.length c0, .int .i64 a1, .string (rdOf ByteArray.empty t636 x13_2)] rfl sl_ ?_; (with_reducible refine (spec_ReadAt.calls k2 _ _ l0 a1 (rdOf ByteArray.empty t636 x13_2) t650 true _ ?side1 ?side2 A24.out).mono ?_); (case side1 => exact kC_ (Kd.C_below HR0.out HB.out)); (case side2 => exact HC0.out); rintro e w33 ⟨rfl, hb⟩; refine ⟨_, rfl, ?_⟩; replace HO_7 := Aside0.mk (Kd.R_below (kR_ HO_7.out) hb); replace HO_9 := Aside0.mk (Kd.R_below (kR_ HO_9.out) hb); replace HB := Aside0.mk (below_step hb_ hb); (try clear hb); (try clear hk); have p652 : 0 ≤ (x13_2 : Int) := of_decide_eq_true ma_; have q652 : x13_2 < (t636.length : Int) := of_decide_eq_true ma_; obtain ⟨ad652, e652, hx652_0⟩ := Kd.at_string (Kd.R_reads' HO_9.out).2.2 x13_2 p652 q652; obtain rfl : ad646 = ad652 := (by injection e652); replace p652 := eq_true p652; replace q652 := eq_true q652) | ((with_reducible refine gate_builtin (b := .append) (xs := #[.tmp 92, .tmp 98]) rfl ?_); at_builtin; refine Kd.R_append k62 (w0 := w) w.heap.size rfl (.tmp 92) (.tmp 98) 36 62 (.agg #[(.string ⟨#[]⟩), (.int .i64 0)]) 24 rfl Tryz.underlying36 info62 rfl (by decide) (by omega) u7 x7_2 (⟨rdOf ByteArray.empty t636 x13_2, 1⟩ : S62) [.string (rdOf ByteArray.empty t636 x13_2), .int .i64 1] (fun _ => True) (fun _ => False) rfl rfl ?aP (fun _ hk => hk.elim) ?aF ?aO ?aB ?aS ?aL ?_; (case aP => exact k62_mkM _ _ _ (⟨rdOf ByteArray.empty t636 x13_2, 1⟩ : S62)); (case aB => exact hb_); (case aF => exact (fun _ _ => trivial)); (case aO => exact (kR_ HO_7.out)); (case aS => exact (below_size hb_)); (case aL => have := LMc30.out; omega); intro v654 w34 ho hb hg hat; rw [← Ny653.out] at ho; have n0_ := Aside0.mk (Kd.R_over' (kR_ HO_9.out) (Kd.R_typed (kR_ HO_7.out)) (by decide) hg); have n1_ := Aside0.mk (hb); have n2_ := Aside0.mk (ho); clear HO_9; clear HB; clear HO_7; have HO_9 := n0_; have HB := n1_; have HO655 := n2_; clear n0_ n1_ n2_; clear ho hb hg hat))
           go_roundg k2
           case measure => have := HK1.out; have := HK2.out; omega
           case rel => exact ⟨(y653), (wrap64 (x13_2 + 1)), (by first | rfl | (simp; done) | (simp [*]; done)), H', ⟨by have := HK1.out; have := HK2.out; omega⟩, ⟨by (with_reducible repeat (first | apply Kd.R_alloc | apply Kd.R_drewN | apply Kd.R_drew)); exact HO655.out⟩, ⟨by (with_reducible repeat (first | apply Kd.R_alloc | apply Kd.R_drewN | apply Kd.R_drew)); exact HO_9.out⟩, ⟨hb_⟩⟩
          ·rw [if_neg c30] at H
           exact absurd H (by simp)
        ·replace c25 := Bool.eq_false_iff.mpr c25
         subst c25
         have H1 : (if x7_2.length < 5864062014805 then (spec_ChangesOf.l1 k2 l0 a1 a2 (x7_2 ++ [(⟨rdOf ByteArray.empty t636 x13_2, 0⟩ : S62)]) t636 (wrap64 (x13_2 + 1))) else (none)) = some r := by rw [if_neg (show ¬ (false = true) by decide)] at H; exact H
         clear H
         have H := H1
         clear H1
         by_cases c35 : x7_2.length < 5864062014805
         ·rw [if_pos c35] at H
          have LMc35 := Aside0.mk c35
          clear c35
          obtain ⟨y657, hy657⟩ : ∃ y_ : List (S62), y_ = (x7_2 ++ [(⟨rdOf ByteArray.empty t636 x13_2, 0⟩ : S62)]) := ⟨_, rfl⟩
          replace H : (spec_ChangesOf.l1 k2 l0 a1 a2 y657 t636 (wrap64 (x13_2 + 1))) = some r := by first | (rw [hy657]; with_reducible exact H) | (have H2_ := (Option.bind_some _ _).symm.trans H; rw [hy657]; with_reducible exact H2_) | (have H2_ := (Option.bind_some _ _).symm.trans H; with_reducible exact H2_) | with_reducible exact H | (rw [hy657]; exact H) | exact H
          have Ny657 := Aside0.mk hy657
          clear hy657
          have H' := Aside0.mk H
          clear H
          obtain ⟨Ao36, co36, eo36⟩ := Kd.R_slice HO_9.out
          subst eo36
          have p646 : 0 ≤ (x13_2 : Int) := of_decide_eq_true ma_
          have q646 : x13_2 < (t636.length : Int) := of_decide_eq_true ma_
          obtain ⟨ad646, e646, hx646_0⟩ := Kd.at_string (Kd.R_reads' HO_9.out).2.2 x13_2 p646 q646
          cases e646
          replace p646 := eq_true p646
          replace q646 := eq_true q646
          go_wp2_with (first | ((with_reducible refine gate_callee (f := 44) rfl ?_); refine goesL_ (some 64) rfl rfl Tryz.func44 (by kernel_rfl) rfl #[.slice A0 l0.length c0, .int .i64 a2, .string (rdOf ByteArray.empty t636 x13_2)] rfl sl_ ?_; (with_reducible refine (spec_ReadAt.calls k2 _ _ l0 a2 (rdOf ByteArray.empty t636 x13_2) t647 t648 _ ?side1 ?side2 A23.out).mono ?_); (case side1 => exact kC_ (Kd.C_below HR0.out HB.out)); (case side2 => exact HC0.out); rintro e w37 ⟨rfl, hb⟩; refine ⟨_, rfl, ?_⟩; replace HO_7 := Aside0.mk (Kd.R_below (kR_ HO_7.out) hb); replace HO_9 := Aside0.mk (Kd.R_below (kR_ HO_9.out) hb); replace HB := Aside0.mk (below_step hb_ hb); (try clear hb); (try clear hk); have p649 : 0 ≤ (x13_2 : Int) := of_decide_eq_true ma_; have q649 : x13_2 < (t636.length : Int) := of_decide_eq_true ma_; obtain ⟨ad649, e649, hx649_0⟩ := Kd.at_string (Kd.R_reads' HO_9.out).2.2 x13_2 p649 q649; obtain rfl : ad646 = ad649 := (by injection e649); replace p649 := eq_true p649; replace q649 := eq_true q649) | ((with_reducible refine gate_callee (f := 44) rfl ?_); refine goesL_ (some 74) rfl rfl Tryz.func44 (by kernel_rfl) rfl #[.slice A0 l0.length c0, .int .i64 a1, .string (rdOf ByteArray.empty t636 x13_2)] rfl sl_ ?_; (with_reducible refine (spec_ReadAt.calls k2 _ _ l0 a1 (rdOf ByteArray.empty t636 x13_2) t650 false _ ?side1 ?side2 A24.out).mono ?_); (case side1 => exact kC_ (Kd.C_below HR0.out HB.out)); (case side2 => exact HC0.out); rintro e w38 ⟨rfl, hb⟩; refine ⟨_, rfl, ?_⟩; replace HO_7 := Aside0.mk (Kd.R_below (kR_ HO_7.out) hb); replace HO_9 := Aside0.mk (Kd.R_below (kR_ HO_9.out) hb); replace HB := Aside0.mk (below_step hb_ hb); (try clear hb); (try clear hk); have p656 : 0 ≤ (x13_2 : Int) := of_decide_eq_true ma_; have q656 : x13_2 < (t636.length : Int) := of_decide_eq_true ma_; obtain ⟨ad656, e656, hx656_0⟩ := Kd.at_string (Kd.R_reads' HO_9.out).2.2 x13_2 p656 q656; obtain rfl : ad646 = ad656 := (by injection e656); replace p656 := eq_true p656; replace q656 := eq_true q656) | ((with_reducible refine gate_builtin (b := .append) (xs := #[.tmp 80, .tmp 86]) rfl ?_); at_builtin; refine Kd.R_append k62 (w0 := w) w.heap.size rfl (.tmp 80) (.tmp 86) 36 62 (.agg #[(.string ⟨#[]⟩), (.int .i64 0)]) 24 rfl Tryz.underlying36 info62 rfl (by decide) (by omega) u7 x7_2 (⟨rdOf ByteArray.empty t636 x13_2, 0⟩ : S62) [.string (rdOf ByteArray.empty t636 x13_2), .int .i64 0] (fun _ => True) (fun _ => False) rfl rfl ?aP (fun _ hk => hk.elim) ?aF ?aO ?aB ?aS ?aL ?_; (case aP => exact k62_mkM _ _ _ (⟨rdOf ByteArray.empty t636 x13_2, 0⟩ : S62)); (case aB => exact hb_); (case aF => exact (fun _ _ => trivial)); (case aO => exact (kR_ HO_7.out)); (case aS => exact (below_size hb_)); (case aL => have := LMc35.out; omega); intro v658 w39 ho hb hg hat; rw [← Ny657.out] at ho; have n0_ := Aside0.mk (Kd.R_over' (kR_ HO_9.out) (Kd.R_typed (kR_ HO_7.out)) (by decide) hg); have n1_ := Aside0.mk (hb); have n2_ := Aside0.mk (ho); clear HO_9; clear HB; clear HO_7; have HO_9 := n0_; have HB := n1_; have HO659 := n2_; clear n0_ n1_ n2_; clear ho hb hg hat))
          go_roundg k2
          case measure => have := HK1.out; have := HK2.out; omega
          case rel => exact ⟨(y657), (wrap64 (x13_2 + 1)), (by first | rfl | (simp; done) | (simp [*]; done)), H', ⟨by have := HK1.out; have := HK2.out; omega⟩, ⟨by (with_reducible repeat (first | apply Kd.R_alloc | apply Kd.R_drewN | apply Kd.R_drew)); exact HO659.out⟩, ⟨by (with_reducible repeat (first | apply Kd.R_alloc | apply Kd.R_drewN | apply Kd.R_drew)); exact HO_9.out⟩, ⟨hb_⟩⟩
         ·rw [if_neg c35] at H
          exact absurd H (by simp)
       ·rw [if_neg c22] at H
        exact absurd H (by simp)
      ·rw [if_neg c21] at H
       have c21b0 : decide (x13_2 < (t636.length : Int)) = false := decide_eq_false c21
       clear c21
       obtain rfl := Option.some.inj H
       obtain ⟨Ao40, co40, eo40⟩ := Kd.R_slice HO_9.out
       subst eo40
       go_wp2
       go_ret
       exact ⟨_, er_, by (with_reducible repeat (first | apply Kd.R_alloc | apply Kd.R_drewN | apply Kd.R_drew)); exact HO_7.out, hb_⟩
/-! ### impl_ChangesOf: function 24 -/
mutual
def impl_ChangesOf.l0 : Nat → List (S46) → Int → Int → List (S62) → List ByteArray → Int → Int → Option ((List (S62)))
 | 0, _, _, _, _, _, _, _ => none
 | k + 1, x0, x1, x2, x7, x20, x21, x22 => if x22 < x21 then (if 0 ≤ x22 then (if x22 < (x20.length : Int) then ((impl_ReadAt.f k x0 x2 (rdOf ByteArray.empty x20 x22)).bind fun bt664 => (if bt664.2 = true then (impl_ChangesOf.l0 k x0 x1 x2 x7 x20 x21 (wrap64 (x22 + 1))) else (if x7.length < 5864062014805 then (impl_ChangesOf.l0 k x0 x1 x2 (x7 ++ [(⟨rdOf ByteArray.empty x20 x22, 2⟩ : S62)]) x20 x21 (wrap64 (x22 + 1))) else (none)))) else (none)) else (none)) else ((impl_AllFiles.f k x0 x2).bind fun t669 => (impl_ChangesOf.l1 k x0 x1 x2 x7 t669 (t669.length : Int) 0))
def impl_ChangesOf.l1 : Nat → List (S46) → Int → Int → List (S62) → List ByteArray → Int → Int → Option ((List (S62)))
 | 0, _, _, _, _, _, _, _ => none
 | k + 1, x0, x1, x2, x7, x43, x44, x45 => if x45 < x44 then (if 0 ≤ x45 then (if x45 < (x43.length : Int) then ((impl_ReadAt.f k x0 x2 (rdOf ByteArray.empty x43 x45)).bind fun bt673 => ((impl_ReadAt.f k x0 x1 (rdOf ByteArray.empty x43 x45)).bind fun bt675 => (if bt675.2 = true then (if bt675.1.toList = bt673.1.toList then (impl_ChangesOf.l1 k x0 x1 x2 x7 x43 x44 (wrap64 (x45 + 1))) else (if x7.length < 5864062014805 then (impl_ChangesOf.l1 k x0 x1 x2 (x7 ++ [(⟨rdOf ByteArray.empty x43 x45, 1⟩ : S62)]) x43 x44 (wrap64 (x45 + 1))) else (none))) else (if x7.length < 5864062014805 then (impl_ChangesOf.l1 k x0 x1 x2 (x7 ++ [(⟨rdOf ByteArray.empty x43 x45, 0⟩ : S62)]) x43 x44 (wrap64 (x45 + 1))) else (none))))) else (none)) else (none)) else (some x7)
end
def impl_ChangesOf.f (k : Nat) (l0 : List (S46)) (a1 : Int) (a2 : Int) : Option ((List (S62))) := (impl_AllFiles.f k l0 a1).bind fun t660 => (impl_ChangesOf.l0 k l0 a1 a2 ([] : List (S62)) t660 (t660.length : Int) 0)
theorem impl_ChangesOf.mono_l : ∀ k, (∀ y0 y1 y2 y3 y4 y5 y6, LeO (impl_ChangesOf.l0 k y0 y1 y2 y3 y4 y5 y6) (impl_ChangesOf.l0 (k + 1) y0 y1 y2 y3 y4 y5 y6)) ∧ (∀ y0 y1 y2 y3 y4 y5 y6, LeO (impl_ChangesOf.l1 k y0 y1 y2 y3 y4 y5 y6) (impl_ChangesOf.l1 (k + 1) y0 y1 y2 y3 y4 y5 y6))
 | 0 => ⟨fun _ _ _ _ _ _ _ r h => by simp [impl_ChangesOf.l0] at h, fun _ _ _ _ _ _ _ r h => by simp [impl_ChangesOf.l1] at h⟩
 | k + 1 => by
  obtain ⟨ih0, ih1⟩ := impl_ChangesOf.mono_l k
  refine ⟨?_, ?_⟩
  ·intro y0 y1 y2 y3 y4 y5 y6
   unfold impl_ChangesOf.l0
   repeat' first
   | (with_reducible exact ih0 _ _ _ _ _ _ _)
   | (with_reducible exact ih1 _ _ _ _ _ _ _)
   | (with_reducible exact impl_AllFiles.mono _ _ _)
   | (with_reducible exact impl_ReadAt.mono _ _ _ _)
   | (with_reducible exact LeO.refl _)
   | (with_reducible exact LeO.none _)
   | (with_reducible refine LeO.ite ?_ ?_)
   | (with_reducible refine LeO.bind ?_ (fun _ => ?_))
   | exact ih0 _ _ _ _ _ _ _
   | exact ih1 _ _ _ _ _ _ _
   | exact impl_AllFiles.mono _ _ _
   | exact impl_ReadAt.mono _ _ _ _
   | exact LeO.none _
   | refine LeO.ite ?_ ?_
   | refine LeO.bind ?_ (fun _ => ?_)
  ·intro y0 y1 y2 y3 y4 y5 y6
   unfold impl_ChangesOf.l1
   repeat' first
   | (with_reducible exact ih0 _ _ _ _ _ _ _)
   | (with_reducible exact ih1 _ _ _ _ _ _ _)
   | (with_reducible exact impl_AllFiles.mono _ _ _)
   | (with_reducible exact impl_ReadAt.mono _ _ _ _)
   | (with_reducible exact LeO.refl _)
   | (with_reducible exact LeO.none _)
   | (with_reducible refine LeO.ite ?_ ?_)
   | (with_reducible refine LeO.bind ?_ (fun _ => ?_))
   | exact ih0 _ _ _ _ _ _ _
   | exact ih1 _ _ _ _ _ _ _
   | exact impl_AllFiles.mono _ _ _
   | exact impl_ReadAt.mono _ _ _ _
   | exact LeO.none _
   | refine LeO.ite ?_ ?_
   | refine LeO.bind ?_ (fun _ => ?_)
theorem impl_ChangesOf.mono : ∀ a0 a1 a2 k, LeO (impl_ChangesOf.f k a0 a1 a2) (impl_ChangesOf.f (k + 1) a0 a1 a2) := by
 intro a0 a1 a2 k
 obtain ⟨ih0, ih1⟩ := impl_ChangesOf.mono_l k
 unfold impl_ChangesOf.f
 repeat' first
   | (with_reducible exact ih0 _ _ _ _ _ _ _)
   | (with_reducible exact ih1 _ _ _ _ _ _ _)
   | (with_reducible exact impl_AllFiles.mono _ _ _)
   | (with_reducible exact impl_ReadAt.mono _ _ _ _)
   | (with_reducible exact LeO.refl _)
   | (with_reducible exact LeO.none _)
   | (with_reducible refine LeO.ite ?_ ?_)
   | (with_reducible refine LeO.bind ?_ (fun _ => ?_))
   | exact ih0 _ _ _ _ _ _ _
   | exact ih1 _ _ _ _ _ _ _
   | exact impl_AllFiles.mono _ _ _
   | exact impl_ReadAt.mono _ _ _ _
   | exact LeO.none _
   | refine LeO.ite ?_ ?_
   | refine LeO.bind ?_ (fun _ => ?_)
set_option maxHeartbeats 8000000 in
set_option maxRecDepth 100000 in
theorem impl_ChangesOf.calls (k : Nat) (A0 : Option Addr) (c0 : Nat) (l0 : List (S46)) (a1 : Int) (a2 : Int) (r : List (S62)) (w : World) (hr0 : Kd.C k46 w A0 l0.length l0) (hc0 : l0.length ≤ c0) (hG : GT w) (h : impl_ChangesOf.f k l0 a1 a2 = some r) :
  Calls Tryz.prog 24 #[.slice A0 l0.length c0, .int .i64 a1, .int .i64 a2] w fun e w' => ∃ v0_ : Value, e = .returned (v0_) ∧ Kd.R k62 62 w' w.heap.size (fun _ => True) v0_ r ∧ Below w.heap.size w w' := by
 have hu62 := Tryz.underlying62
 have HR0 := Aside0.mk hr0
 have HC0 := Aside0.mk hc0
 clear hr0 hc0
 have HB := Aside0.mk (Below.refl w.heap.size w)
 have H : ((impl_AllFiles.f k l0 a1).bind fun t660 => (impl_ChangesOf.l0 k l0 a1 a2 ([] : List (S62)) t660 (t660.length : Int) 0)) = some r := h
 clear h
 replace H := Option.bind_eq_some_iff.mp H
 obtain ⟨t660, A40, H⟩ := H
 replace H : (impl_ChangesOf.l0 k l0 a1 a2 ([] : List (S62)) t660 (t660.length : Int) 0) = some r := H
 have A4 := Aside0.mk A40
 clear A40
 have H' := Aside0.mk H
 clear H
 go_enter Tryz.func24, Tryz.ntmps24
 go_wp2_with (first | ((with_reducible refine gate_callee (f := 32) rfl ?_); refine goesL_ (some 20) rfl rfl Tryz.func32 (by kernel_rfl) rfl #[.slice A0 l0.length c0, .int .i64 a1] rfl sl_ ?_; (with_reducible refine (impl_AllFiles.calls k _ _ l0 a1 t660 _ ?side1 ?side2 (GT_on hb_ hG) A4.out).mono ?_); (case side1 => exact kC_ HR0.out); (case side2 => exact HC0.out); rintro e w5 ⟨v661, rfl, ho0, hb⟩; refine ⟨_, rfl, ?_⟩; have HO662 := Aside0.mk (Kd.R_lower ho0 (below_size hb_)); replace HB := Aside0.mk (below_step hb_ hb); (try clear hb); (try clear ho0); obtain ⟨Ao6, co6, eo6⟩ := Kd.R_slice HO662.out; subst eo6))
 go_loopg [7, 22] k (fun kq v7 v22 w' => ∃ (x7_1 : List (S62)) (x22_1 : Int), v22 = .int .i64 x22_1 ∧ Aside0 (impl_ChangesOf.l0 kq l0 a1 a2 x7_1 t660 (t660.length : Int) x22_1 = some r) ∧ Aside0 (kq ≤ k) ∧ Aside0 (Kd.R k62 62 w' w.heap.size (fun _ => True) v7 x7_1) ∧ Aside0 (Kd.R Kd.string 9 w' w.heap.size (fun _ => True) (.slice Ao6 t660.length co6) t660) ∧ Aside0 (Below w.heap.size w w'))
 case atStart => exact ⟨(([] : List (S62))), (0), (by first | rfl | (simp; done) | (simp [*]; done)), H', ⟨Nat.le_refl _⟩, ⟨by first | exact Kd.R_nil _ _ _ _ _ | exact Kd.N_nil _ _ _ _ _ | exact Kd.V_nil _ _ _ _ _ | exact Kd.Q_nil _ _ _ _ _ | exact Kd.S_nil _ _ _ _ _⟩, ⟨by (with_reducible repeat (first | apply Kd.R_alloc | apply Kd.R_drewN | apply Kd.R_drew)); exact HO662.out⟩, ⟨hb_⟩⟩
 case round =>
  clear H'
  try clear c2
  try clear p2
  try clear c3
  obtain ⟨x7_1, x22_1, rfl, HA, HK1, HO_7, HO_20, HB⟩ := hrel
  cases gk with
  | zero => exact absurd HA.out (by simp [impl_ChangesOf.l0])
  | succ k1 =>
   have H := HA.out
   clear HA
   simp only [impl_ChangesOf.l0] at H
   by_cases c7 : x22_1 < (t660.length : Int)
   ·rw [if_pos c7] at H
    have c7b0 : decide (x22_1 < (t660.length : Int)) = true := decide_eq_true c7
    clear c7
    by_cases c8 : 0 ≤ x22_1
    ·rw [if_pos c8] at H
     have c8b0 : decide (0 ≤ x22_1) = true := decide_eq_true c8
     clear c8
     by_cases c9 : x22_1 < (t660.length : Int)
     ·rw [if_pos c9] at H
      have c9b0 : decide (x22_1 < (t660.length : Int)) = true := decide_eq_true c9
      clear c9
      replace H := Option.bind_eq_some_iff.mp H
      obtain ⟨⟨t664, t665⟩, A100, H⟩ := H
      replace H : (if t665 = true then (impl_ChangesOf.l0 k1 l0 a1 a2 x7_1 t660 (t660.length : Int) (wrap64 (x22_1 + 1))) else (if x7_1.length < 5864062014805 then (impl_ChangesOf.l0 k1 l0 a1 a2 (x7_1 ++ [(⟨rdOf ByteArray.empty t660 x22_1, 2⟩ : S62)]) t660 (t660.length : Int) (wrap64 (x22_1 + 1))) else (none))) = some r := H
      have A10 := Aside0.mk A100
      clear A100
      by_cases c11 : t665 = true
      ·subst c11
       have H1 : (impl_ChangesOf.l0 k1 l0 a1 a2 x7_1 t660 (t660.length : Int) (wrap64 (x22_1 + 1))) = some r := by rw [if_pos rfl] at H; exact H
       clear H
       have H := H1
       clear H1
       have H' := Aside0.mk H
       clear H
       have p663 : 0 ≤ (x22_1 : Int) := of_decide_eq_true ma_
       have q663 : x22_1 < (t660.length : Int) := of_decide_eq_true ma_
       obtain ⟨ad663, e663, hx663_0⟩ := Kd.at_string (Kd.R_reads' HO_20.out).2.2 x22_1 p663 q663
       cases e663
       replace p663 := eq_true p663
       replace q663 := eq_true q663
       go_wp2_with (first | ((with_reducible refine gate_callee (f := 45) rfl ?_); refine goesL_ (some 30) rfl rfl Tryz.func45 (by kernel_rfl) rfl #[.slice A0 l0.length c0, .int .i64 a2, .string (rdOf ByteArray.empty t660 x22_1)] rfl sl_ ?_; (with_reducible refine (impl_ReadAt.calls k1 _ _ l0 a2 (rdOf ByteArray.empty t660 x22_1) t664 true _ ?side1 ?side2 (GT_on hb_ hG) A10.out).mono ?_); (case side1 => exact kC_ (Kd.C_below HR0.out HB.out)); (case side2 => exact HC0.out); rintro e w12 ⟨rfl, hb⟩; refine ⟨_, rfl, ?_⟩; replace HO_7 := Aside0.mk (Kd.R_below (kR_ HO_7.out) hb); replace HO_20 := Aside0.mk (Kd.R_below (kR_ HO_20.out) hb); replace HB := Aside0.mk (below_step hb_ hb); (try clear hb)))
       go_roundg k1
       case measure => have := HK1.out; omega
       case rel => exact ⟨(x7_1), (wrap64 (x22_1 + 1)), (by first | rfl | (simp; done) | (simp [*]; done)), H', ⟨by have := HK1.out; omega⟩, ⟨by (with_reducible repeat (first | apply Kd.R_alloc | apply Kd.R_drewN | apply Kd.R_drew)); exact HO_7.out⟩, ⟨by (with_reducible repeat (first | apply Kd.R_alloc | apply Kd.R_drewN | apply Kd.R_drew)); exact HO_20.out⟩, ⟨hb_⟩⟩
      ·replace c11 := Bool.eq_false_iff.mpr c11
       subst c11
       have H1 : (if x7_1.length < 5864062014805 then (impl_ChangesOf.l0 k1 l0 a1 a2 (x7_1 ++ [(⟨rdOf ByteArray.empty t660 x22_1, 2⟩ : S62)]) t660 (t660.length : Int) (wrap64 (x22_1 + 1))) else (none)) = some r := by rw [if_neg (show ¬ (false = true) by decide)] at H; exact H
       clear H
       have H := H1
       clear H1
       by_cases c13 : x7_1.length < 5864062014805
       ·rw [if_pos c13] at H
        have LMc13 := Aside0.mk c13
        clear c13
        obtain ⟨y666, hy666⟩ : ∃ y_ : List (S62), y_ = (x7_1 ++ [(⟨rdOf ByteArray.empty t660 x22_1, 2⟩ : S62)]) := ⟨_, rfl⟩
        replace H : (impl_ChangesOf.l0 k1 l0 a1 a2 y666 t660 (t660.length : Int) (wrap64 (x22_1 + 1))) = some r := by first | (rw [hy666]; with_reducible exact H) | (have H2_ := (Option.bind_some _ _).symm.trans H; rw [hy666]; with_reducible exact H2_) | (have H2_ := (Option.bind_some _ _).symm.trans H; with_reducible exact H2_) | with_reducible exact H | (rw [hy666]; exact H) | exact H
        have Ny666 := Aside0.mk hy666
        clear hy666
        have H' := Aside0.mk H
        clear H
        have p663 : 0 ≤ (x22_1 : Int) := of_decide_eq_true ma_
        have q663 : x22_1 < (t660.length : Int) := of_decide_eq_true ma_
        obtain ⟨ad663, e663, hx663_0⟩ := Kd.at_string (Kd.R_reads' HO_20.out).2.2 x22_1 p663 q663
        cases e663
        replace p663 := eq_true p663
        replace q663 := eq_true q663
        go_wp2_with (first | ((with_reducible refine gate_callee (f := 45) rfl ?_); refine goesL_ (some 30) rfl rfl Tryz.func45 (by kernel_rfl) rfl #[.slice A0 l0.length c0, .int .i64 a2, .string (rdOf ByteArray.empty t660 x22_1)] rfl sl_ ?_; (with_reducible refine (impl_ReadAt.calls k1 _ _ l0 a2 (rdOf ByteArray.empty t660 x22_1) t664 false _ ?side1 ?side2 (GT_on hb_ hG) A10.out).mono ?_); (case side1 => exact kC_ (Kd.C_below HR0.out HB.out)); (case side2 => exact HC0.out); rintro e w14 ⟨rfl, hb⟩; refine ⟨_, rfl, ?_⟩; replace HO_7 := Aside0.mk (Kd.R_below (kR_ HO_7.out) hb); replace HO_20 := Aside0.mk (Kd.R_below (kR_ HO_20.out) hb); replace HB := Aside0.mk (below_step hb_ hb); (try clear hb); (try clear hk)) | ((with_reducible refine gate_builtin (b := .append) (xs := #[.tmp 35, .tmp 38]) rfl ?_); at_builtin; refine Kd.R_append k62 (w0 := w) w.heap.size rfl (.tmp 35) (.tmp 38) 36 62 (.agg #[(.string ⟨#[]⟩), (.int .i64 0)]) 24 rfl Tryz.underlying36 info62 rfl (by decide) (by omega) u7 x7_1 (⟨rdOf ByteArray.empty t660 x22_1, 2⟩ : S62) [.string (rdOf ByteArray.empty t660 x22_1), .int .i64 2] (fun _ => True) (fun _ => False) rfl rfl ?aP (fun _ hk => hk.elim) ?aF ?aO ?aB ?aS ?aL ?_; (case aP => exact k62_mkM _ _ _ (⟨rdOf ByteArray.empty t660 x22_1, 2⟩ : S62)); (case aB => exact hb_); (case aF => exact (fun _ _ => trivial)); (case aO => exact (kR_ HO_7.out)); (case aS => exact (below_size hb_)); (case aL => have := LMc13.out; omega); intro v667 w15 ho hb hg hat; rw [← Ny666.out] at ho; have n0_ := Aside0.mk (Kd.R_over' (kR_ HO_20.out) (Kd.R_typed (kR_ HO_7.out)) (by decide) hg); have n1_ := Aside0.mk (hb); have n2_ := Aside0.mk (ho); clear HO_20; clear HB; clear HO_7; have HO_20 := n0_; have HB := n1_; have HO668 := n2_; clear n0_ n1_ n2_; clear ho hb hg hat))
        go_roundg k1
        case measure => have := HK1.out; omega
        case rel => exact ⟨(y666), (wrap64 (x22_1 + 1)), (by first | rfl | (simp; done) | (simp [*]; done)), H', ⟨by have := HK1.out; omega⟩, ⟨by (with_reducible repeat (first | apply Kd.R_alloc | apply Kd.R_drewN | apply Kd.R_drew)); exact HO668.out⟩, ⟨by (with_reducible repeat (first | apply Kd.R_alloc | apply Kd.R_drewN | apply Kd.R_drew)); exact HO_20.out⟩, ⟨hb_⟩⟩
       ·rw [if_neg c13] at H
        exact absurd H (by simp)
     ·rw [if_neg c9] at H
      exact absurd H (by simp)
    ·rw [if_neg c8] at H
     exact absurd H (by simp)
   ·rw [if_neg c7] at H
    have c7b0 : decide (x22_1 < (t660.length : Int)) = false := decide_eq_false c7
    clear c7
    replace H := Option.bind_eq_some_iff.mp H
    obtain ⟨t669, A160, H⟩ := H
    replace H : (impl_ChangesOf.l1 k1 l0 a1 a2 x7_1 t669 (t669.length : Int) 0) = some r := H
    have A16 := Aside0.mk A160
    clear A160
    have H' := Aside0.mk H
    clear H
    go_wp2_with (first | ((with_reducible refine gate_callee (f := 32) rfl ?_); refine goesL_ (some 43) rfl rfl Tryz.func32 (by kernel_rfl) rfl #[.slice A0 l0.length c0, .int .i64 a2] rfl sl_ ?_; (with_reducible refine (impl_AllFiles.calls k1 _ _ l0 a2 t669 _ ?side1 ?side2 (GT_on hb_ hG) A16.out).mono ?_); (case side1 => exact kC_ (Kd.C_below HR0.out HB.out)); (case side2 => exact HC0.out); rintro e w17 ⟨v670, rfl, ho0, hb⟩; refine ⟨_, rfl, ?_⟩; replace HO_7 := Aside0.mk (Kd.R_below (kR_ HO_7.out) hb); have HO671 := Aside0.mk (Kd.R_lower (Kd.R_new' ho0 (Kd.R_lt (kR_ HO_20.out))) (below_size hb_)); replace HO_20 := Aside0.mk (Kd.R_elder' (kR_ HO_20.out) (Kd.R_base ho0) hb); replace HB := Aside0.mk (below_step hb_ hb); (try clear hb); (try clear ho0); obtain ⟨Ao18, co18, eo18⟩ := Kd.R_slice HO671.out; subst eo18))
    go_loopg [7, 45] k1 (fun kq v7 v45 w' => ∃ (x7_2 : List (S62)) (x45_2 : Int), v45 = .int .i64 x45_2 ∧ Aside0 (impl_ChangesOf.l1 kq l0 a1 a2 x7_2 t669 (t669.length : Int) x45_2 = some r) ∧ Aside0 (kq ≤ k1) ∧ Aside0 (Kd.R k62 62 w' w.heap.size (fun _ => True) v7 x7_2) ∧ Aside0 (Kd.R Kd.string 9 w' w.heap.size (fun _ => True) (.slice Ao18 t669.length co18) t669) ∧ Aside0 (Below w.heap.size w w'))
    case atStart => exact ⟨(x7_1), (0), (by first | rfl | (simp; done) | (simp [*]; done)), H', ⟨Nat.le_refl _⟩, ⟨by (with_reducible repeat (first | apply Kd.R_alloc | apply Kd.R_drewN | apply Kd.R_drew)); exact HO_7.out⟩, ⟨by (with_reducible repeat (first | apply Kd.R_alloc | apply Kd.R_drewN | apply Kd.R_drew)); exact Kd.R_mono HO671.out (fun _ hk => trivial)⟩, ⟨hb_⟩⟩
    case round =>
     clear H'
     try clear c1
     try clear c2
     try clear p2
     try clear c3
     try clear c4
     try clear p6
     try clear q6
     try clear hx6
     try clear c7
     try clear c7b0
     try clear c8
     try clear c8b0
     try clear c9
     try clear c9b0
     try clear c11
     try clear c13
     try clear hx663_0
     try clear p2
     try clear p663
     try clear q663
     obtain ⟨x7_2, x45_2, rfl, HA, HK2, HO_7, HO_43, HB⟩ := hrel
     cases gk with
     | zero => exact absurd HA.out (by simp [impl_ChangesOf.l1])
     | succ k2 =>
      have H := HA.out
      clear HA
      simp only [impl_ChangesOf.l1] at H
      by_cases c19 : x45_2 < (t669.length : Int)
      ·rw [if_pos c19] at H
       have c19b0 : decide (x45_2 < (t669.length : Int)) = true := decide_eq_true c19
       clear c19
       by_cases c20 : 0 ≤ x45_2
       ·rw [if_pos c20] at H
        have c20b0 : decide (0 ≤ x45_2) = true := decide_eq_true c20
        clear c20
        by_cases c21 : x45_2 < (t669.length : Int)
        ·rw [if_pos c21] at H
         have c21b0 : decide (x45_2 < (t669.length : Int)) = true := decide_eq_true c21
         clear c21
         replace H := Option.bind_eq_some_iff.mp H
         obtain ⟨⟨t673, t674⟩, A220, H⟩ := H
         replace H : ((impl_ReadAt.f k2 l0 a1 (rdOf ByteArray.empty t669 x45_2)).bind fun bt675 => (if bt675.2 = true then (if bt675.1.toList = t673.toList then (impl_ChangesOf.l1 k2 l0 a1 a2 x7_2 t669 (t669.length : Int) (wrap64 (x45_2 + 1))) else (if x7_2.length < 5864062014805 then (impl_ChangesOf.l1 k2 l0 a1 a2 (x7_2 ++ [(⟨rdOf ByteArray.empty t669 x45_2, 1⟩ : S62)]) t669 (t669.length : Int) (wrap64 (x45_2 + 1))) else (none))) else (if x7_2.length < 5864062014805 then (impl_ChangesOf.l1 k2 l0 a1 a2 (x7_2 ++ [(⟨rdOf ByteArray.empty t669 x45_2, 0⟩ : S62)]) t669 (t669.length : Int) (wrap64 (x45_2 + 1))) else (none)))) = some r := H
         have A22 := Aside0.mk A220
         clear A220
         replace H := Option.bind_eq_some_iff.mp H
         obtain ⟨⟨t675, t676⟩, A230, H⟩ := H
         replace H : (if t676 = true then (if t675.toList = t673.toList then (impl_ChangesOf.l1 k2 l0 a1 a2 x7_2 t669 (t669.length : Int) (wrap64 (x45_2 + 1))) else (if x7_2.length < 5864062014805 then (impl_ChangesOf.l1 k2 l0 a1 a2 (x7_2 ++ [(⟨rdOf ByteArray.empty t669 x45_2, 1⟩ : S62)]) t669 (t669.length : Int) (wrap64 (x45_2 + 1))) else (none))) else (if x7_2.length < 5864062014805 then (impl_ChangesOf.l1 k2 l0 a1 a2 (x7_2 ++ [(⟨rdOf ByteArray.empty t669 x45_2, 0⟩ : S62)]) t669 (t669.length : Int) (wrap64 (x45_2 + 1))) else (none))) = some r := H
         have A23 := Aside0.mk A230
         clear A230
         by_cases c24 : t676 = true
         ·subst c24
          have H1 : (if t675.toList = t673.toList then (impl_ChangesOf.l1 k2 l0 a1 a2 x7_2 t669 (t669.length : Int) (wrap64 (x45_2 + 1))) else (if x7_2.length < 5864062014805 then (impl_ChangesOf.l1 k2 l0 a1 a2 (x7_2 ++ [(⟨rdOf ByteArray.empty t669 x45_2, 1⟩ : S62)]) t669 (t669.length : Int) (wrap64 (x45_2 + 1))) else (none))) = some r := by rw [if_pos rfl] at H; exact H
          clear H
          have H := H1
          clear H1
          by_cases c25 : t675.toList = t673.toList
          ·rw [if_pos c25] at H
           have c25b0 : (t675.toList == t673.toList) = true := beq_iff_eq.mpr c25
           have c25b1 : (t675.toList != t673.toList) = false := bne_eq_false_iff_eq.mpr c25
           clear c25
           have H' := Aside0.mk H
           clear H
           have p672 : 0 ≤ (x45_2 : Int) := of_decide_eq_true ma_
           have q672 : x45_2 < (t669.length : Int) := of_decide_eq_true ma_
           obtain ⟨ad672, e672, hx672_0⟩ := Kd.at_string (Kd.R_reads' HO_43.out).2.2 x45_2 p672 q672
           cases e672
           replace p672 := eq_true p672
           replace q672 := eq_true q672
           go_wp2_with (first | ((with_reducible refine gate_callee (f := 45) rfl ?_); refine goesL_ (some 53) rfl rfl Tryz.func45 (by kernel_rfl) rfl #[.slice A0 l0.length c0, .int .i64 a2, .string (rdOf ByteArray.empty t669 x45_2)] rfl sl_ ?_; (with_reducible refine (impl_ReadAt.calls k2 _ _ l0 a2 (rdOf ByteArray.empty t669 x45_2) t673 t674 _ ?side1 ?side2 (GT_on hb_ hG) A22.out).mono ?_); (case side1 => exact kC_ (Kd.C_below HR0.out HB.out)); (case side2 => exact HC0.out); rintro e w26 ⟨rfl, hb⟩; refine ⟨_, rfl, ?_⟩; replace HO_7 := Aside0.mk (Kd.R_below (kR_ HO_7.out) hb); replace HO_43 := Aside0.mk (Kd.R_below (kR_ HO_43.out) hb); replace HB := Aside0.mk (below_step hb_ hb); (try clear hb)) | ((with_reducible refine gate_callee (f := 45) rfl ?_); refine goesL_ (some 60) rfl rfl Tryz.func45 (by kernel_rfl) rfl #[.slice A0 l0.length c0, .int .i64 a1, .string (rdOf ByteArray.empty t669 x45_2)] rfl sl_ ?_; (with_reducible refine (impl_ReadAt.calls k2 _ _ l0 a1 (rdOf ByteArray.empty t669 x45_2) t675 true _ ?side1 ?side2 (GT_on hb_ hG) A23.out).mono ?_); (case side1 => exact kC_ (Kd.C_below HR0.out HB.out)); (case side2 => exact HC0.out); rintro e w27 ⟨rfl, hb⟩; refine ⟨_, rfl, ?_⟩; replace HO_7 := Aside0.mk (Kd.R_below (kR_ HO_7.out) hb); replace HO_43 := Aside0.mk (Kd.R_below (kR_ HO_43.out) hb); replace HB := Aside0.mk (below_step hb_ hb); (try clear hb)))
           go_roundg k2
           case measure => have := HK1.out; have := HK2.out; omega
           case rel => exact ⟨(x7_2), (wrap64 (x45_2 + 1)), (by first | rfl | (simp; done) | (simp [*]; done)), H', ⟨by have := HK1.out; have := HK2.out; omega⟩, ⟨by (with_reducible repeat (first | apply Kd.R_alloc | apply Kd.R_drewN | apply Kd.R_drew)); exact HO_7.out⟩, ⟨by (with_reducible repeat (first | apply Kd.R_alloc | apply Kd.R_drewN | apply Kd.R_drew)); exact HO_43.out⟩, ⟨hb_⟩⟩
          ·rw [if_neg c25] at H
           have c25b0 : (t675.toList == t673.toList) = false := beq_eq_false_iff_ne.mpr c25
           have c25b1 : (t675.toList != t673.toList) = true := bne_iff_ne.mpr c25
           by_cases c28 : x7_2.length < 5864062014805
           ·rw [if_pos c28] at H
            have LMc28 := Aside0.mk c28
            clear c28
            obtain ⟨y677, hy677⟩ : ∃ y_ : List (S62), y_ = (x7_2 ++ [(⟨rdOf ByteArray.empty t669 x45_2, 1⟩ : S62)]) := ⟨_, rfl⟩
            replace H : (impl_ChangesOf.l1 k2 l0 a1 a2 y677 t669 (t669.length : Int) (wrap64 (x45_2 + 1))) = some r := by first | (rw [hy677]; with_reducible exact H) | (have H2_ := (Option.bind_some _ _).symm.trans H; rw [hy677]; with_reducible exact H2_) | (have H2_ := (Option.bind_some _ _).symm.trans H; with_reducible exact H2_) | with_reducible exact H | (rw [hy677]; exact H) | exact H
            have Ny677 := Aside0.mk hy677
            clear hy677
            have H' := Aside0.mk H
            clear H
            have p672 : 0 ≤ (x45_2 : Int) := of_decide_eq_true ma_
            have q672 : x45_2 < (t669.length : Int) := of_decide_eq_true ma_
            obtain ⟨ad672, e672, hx672_0⟩ := Kd.at_string (Kd.R_reads' HO_43.out).2.2 x45_2 p672 q672
            cases e672
            replace p672 := eq_true p672
            replace q672 := eq_true q672
            go_wp2_with (first | ((with_reducible refine gate_callee (f := 45) rfl ?_); refine goesL_ (some 53) rfl rfl Tryz.func45 (by kernel_rfl) rfl #[.slice A0 l0.length c0, .int .i64 a2, .string (rdOf ByteArray.empty t669 x45_2)] rfl sl_ ?_; (with_reducible refine (impl_ReadAt.calls k2 _ _ l0 a2 (rdOf ByteArray.empty t669 x45_2) t673 t674 _ ?side1 ?side2 (GT_on hb_ hG) A22.out).mono ?_); (case side1 => exact kC_ (Kd.C_below HR0.out HB.out)); (case side2 => exact HC0.out); rintro e w29 ⟨rfl, hb⟩; refine ⟨_, rfl, ?_⟩; replace HO_7 := Aside0.mk (Kd.R_below (kR_ HO_7.out) hb); replace HO_43 := Aside0.mk (Kd.R_below (kR_ HO_43.out) hb); replace HB := Aside0.mk (below_step hb_ hb); (try clear hb); (try clear hk)) | ((with_reducible refine gate_callee (f := 45) rfl ?_); refine goesL_ (some 60) rfl rfl Tryz.func45 (by kernel_rfl) rfl #[.slice A0 l0.length c0, .int .i64 a1, .string (rdOf ByteArray.empty t669 x45_2)] rfl sl_ ?_; (with_reducible refine (impl_ReadAt.calls k2 _ _ l0 a1 (rdOf ByteArray.empty t669 x45_2) t675 true _ ?side1 ?side2 (GT_on hb_ hG) A23.out).mono ?_); (case side1 => exact kC_ (Kd.C_below HR0.out HB.out)); (case side2 => exact HC0.out); rintro e w30 ⟨rfl, hb⟩; refine ⟨_, rfl, ?_⟩; replace HO_7 := Aside0.mk (Kd.R_below (kR_ HO_7.out) hb); replace HO_43 := Aside0.mk (Kd.R_below (kR_ HO_43.out) hb); replace HB := Aside0.mk (below_step hb_ hb); (try clear hb); (try clear hk)) | ((with_reducible refine gate_builtin (b := .append) (xs := #[.tmp 73, .tmp 76]) rfl ?_); at_builtin; refine Kd.R_append k62 (w0 := w) w.heap.size rfl (.tmp 73) (.tmp 76) 36 62 (.agg #[(.string ⟨#[]⟩), (.int .i64 0)]) 24 rfl Tryz.underlying36 info62 rfl (by decide) (by omega) u7 x7_2 (⟨rdOf ByteArray.empty t669 x45_2, 1⟩ : S62) [.string (rdOf ByteArray.empty t669 x45_2), .int .i64 1] (fun _ => True) (fun _ => False) rfl rfl ?aP (fun _ hk => hk.elim) ?aF ?aO ?aB ?aS ?aL ?_; (case aP => exact k62_mkM _ _ _ (⟨rdOf ByteArray.empty t669 x45_2, 1⟩ : S62)); (case aB => exact hb_); (case aF => exact (fun _ _ => trivial)); (case aO => exact (kR_ HO_7.out)); (case aS => exact (below_size hb_)); (case aL => have := LMc28.out; omega); intro v678 w31 ho hb hg hat; rw [← Ny677.out] at ho; have n0_ := Aside0.mk (Kd.R_over' (kR_ HO_43.out) (Kd.R_typed (kR_ HO_7.out)) (by decide) hg); have n1_ := Aside0.mk (hb); have n2_ := Aside0.mk (ho); clear HO_43; clear HB; clear HO_7; have HO_43 := n0_; have HB := n1_; have HO679 := n2_; clear n0_ n1_ n2_; clear ho hb hg hat))
            go_roundg k2
            case measure => have := HK1.out; have := HK2.out; omega
            case rel => exact ⟨(y677), (wrap64 (x45_2 + 1)), (by first | rfl | (simp; done) | (simp [*]; done)), H', ⟨by have := HK1.out; have := HK2.out; omega⟩, ⟨by (with_reducible repeat (first | apply Kd.R_alloc | apply Kd.R_drewN | apply Kd.R_drew)); exact HO679.out⟩, ⟨by (with_reducible repeat (first | apply Kd.R_alloc | apply Kd.R_drewN | apply Kd.R_drew)); exact HO_43.out⟩, ⟨hb_⟩⟩
           ·rw [if_neg c28] at H
            exact absurd H (by simp)
         ·replace c24 := Bool.eq_false_iff.mpr c24
          subst c24
          have H1 : (if x7_2.length < 5864062014805 then (impl_ChangesOf.l1 k2 l0 a1 a2 (x7_2 ++ [(⟨rdOf ByteArray.empty t669 x45_2, 0⟩ : S62)]) t669 (t669.length : Int) (wrap64 (x45_2 + 1))) else (none)) = some r := by rw [if_neg (show ¬ (false = true) by decide)] at H; exact H
          clear H
          have H := H1
          clear H1
          by_cases c32 : x7_2.length < 5864062014805
          ·rw [if_pos c32] at H
           have LMc32 := Aside0.mk c32
           clear c32
           obtain ⟨y680, hy680⟩ : ∃ y_ : List (S62), y_ = (x7_2 ++ [(⟨rdOf ByteArray.empty t669 x45_2, 0⟩ : S62)]) := ⟨_, rfl⟩
           replace H : (impl_ChangesOf.l1 k2 l0 a1 a2 y680 t669 (t669.length : Int) (wrap64 (x45_2 + 1))) = some r := by first | (rw [hy680]; with_reducible exact H) | (have H2_ := (Option.bind_some _ _).symm.trans H; rw [hy680]; with_reducible exact H2_) | (have H2_ := (Option.bind_some _ _).symm.trans H; with_reducible exact H2_) | with_reducible exact H | (rw [hy680]; exact H) | exact H
           have Ny680 := Aside0.mk hy680
           clear hy680
           have H' := Aside0.mk H
           clear H
           have p672 : 0 ≤ (x45_2 : Int) := of_decide_eq_true ma_
           have q672 : x45_2 < (t669.length : Int) := of_decide_eq_true ma_
           obtain ⟨ad672, e672, hx672_0⟩ := Kd.at_string (Kd.R_reads' HO_43.out).2.2 x45_2 p672 q672
           cases e672
           replace p672 := eq_true p672
           replace q672 := eq_true q672
           go_wp2_with (first | ((with_reducible refine gate_callee (f := 45) rfl ?_); refine goesL_ (some 53) rfl rfl Tryz.func45 (by kernel_rfl) rfl #[.slice A0 l0.length c0, .int .i64 a2, .string (rdOf ByteArray.empty t669 x45_2)] rfl sl_ ?_; (with_reducible refine (impl_ReadAt.calls k2 _ _ l0 a2 (rdOf ByteArray.empty t669 x45_2) t673 t674 _ ?side1 ?side2 (GT_on hb_ hG) A22.out).mono ?_); (case side1 => exact kC_ (Kd.C_below HR0.out HB.out)); (case side2 => exact HC0.out); rintro e w33 ⟨rfl, hb⟩; refine ⟨_, rfl, ?_⟩; replace HO_7 := Aside0.mk (Kd.R_below (kR_ HO_7.out) hb); replace HO_43 := Aside0.mk (Kd.R_below (kR_ HO_43.out) hb); replace HB := Aside0.mk (below_step hb_ hb); (try clear hb); (try clear hk)) | ((with_reducible refine gate_callee (f := 45) rfl ?_); refine goesL_ (some 60) rfl rfl Tryz.func45 (by kernel_rfl) rfl #[.slice A0 l0.length c0, .int .i64 a1, .string (rdOf ByteArray.empty t669 x45_2)] rfl sl_ ?_; (with_reducible refine (impl_ReadAt.calls k2 _ _ l0 a1 (rdOf ByteArray.empty t669 x45_2) t675 false _ ?side1 ?side2 (GT_on hb_ hG) A23.out).mono ?_); (case side1 => exact kC_ (Kd.C_below HR0.out HB.out)); (case side2 => exact HC0.out); rintro e w34 ⟨rfl, hb⟩; refine ⟨_, rfl, ?_⟩; replace HO_7 := Aside0.mk (Kd.R_below (kR_ HO_7.out) hb); replace HO_43 := Aside0.mk (Kd.R_below (kR_ HO_43.out) hb); replace HB := Aside0.mk (below_step hb_ hb); (try clear hb); (try clear hk)) | ((with_reducible refine gate_builtin (b := .append) (xs := #[.tmp 65, .tmp 68]) rfl ?_); at_builtin; refine Kd.R_append k62 (w0 := w) w.heap.size rfl (.tmp 65) (.tmp 68) 36 62 (.agg #[(.string ⟨#[]⟩), (.int .i64 0)]) 24 rfl Tryz.underlying36 info62 rfl (by decide) (by omega) u7 x7_2 (⟨rdOf ByteArray.empty t669 x45_2, 0⟩ : S62) [.string (rdOf ByteArray.empty t669 x45_2), .int .i64 0] (fun _ => True) (fun _ => False) rfl rfl ?aP (fun _ hk => hk.elim) ?aF ?aO ?aB ?aS ?aL ?_; (case aP => exact k62_mkM _ _ _ (⟨rdOf ByteArray.empty t669 x45_2, 0⟩ : S62)); (case aB => exact hb_); (case aF => exact (fun _ _ => trivial)); (case aO => exact (kR_ HO_7.out)); (case aS => exact (below_size hb_)); (case aL => have := LMc32.out; omega); intro v681 w35 ho hb hg hat; rw [← Ny680.out] at ho; have n0_ := Aside0.mk (Kd.R_over' (kR_ HO_43.out) (Kd.R_typed (kR_ HO_7.out)) (by decide) hg); have n1_ := Aside0.mk (hb); have n2_ := Aside0.mk (ho); clear HO_43; clear HB; clear HO_7; have HO_43 := n0_; have HB := n1_; have HO682 := n2_; clear n0_ n1_ n2_; clear ho hb hg hat))
           go_roundg k2
           case measure => have := HK1.out; have := HK2.out; omega
           case rel => exact ⟨(y680), (wrap64 (x45_2 + 1)), (by first | rfl | (simp; done) | (simp [*]; done)), H', ⟨by have := HK1.out; have := HK2.out; omega⟩, ⟨by (with_reducible repeat (first | apply Kd.R_alloc | apply Kd.R_drewN | apply Kd.R_drew)); exact HO682.out⟩, ⟨by (with_reducible repeat (first | apply Kd.R_alloc | apply Kd.R_drewN | apply Kd.R_drew)); exact HO_43.out⟩, ⟨hb_⟩⟩
          ·rw [if_neg c32] at H
           exact absurd H (by simp)
        ·rw [if_neg c21] at H
         exact absurd H (by simp)
       ·rw [if_neg c20] at H
        exact absurd H (by simp)
      ·rw [if_neg c19] at H
       have c19b0 : decide (x45_2 < (t669.length : Int)) = false := decide_eq_false c19
       clear c19
       obtain rfl := Option.some.inj H
       go_wp2
       go_ret
       exact ⟨_, er_, by (with_reducible repeat (first | apply Kd.R_alloc | apply Kd.R_drewN | apply Kd.R_drew)); exact HO_7.out, hb_⟩
/-! ### laws_eqChange: function 47 -/
def laws_eqChange.f (a0_0 : ByteArray) (a0_1 : Int) (a1_0 : ByteArray) (a1_1 : Int) : Option (Bool) := if a0_0.toList = a1_0.toList then (if a0_1 = a1_1 then (some true) else (some false)) else (some false)
set_option maxHeartbeats 8000000 in
set_option maxRecDepth 100000 in
theorem laws_eqChange.calls (a0_0 : ByteArray) (a0_1 : Int) (a1_0 : ByteArray) (a1_1 : Int) (r : Bool) (w : World) (h : laws_eqChange.f a0_0 a0_1 a1_0 a1_1 = some r) :
  Calls Tryz.prog 47 #[.agg #[.string a0_0, .int .i64 a0_1], .agg #[.string a1_0, .int .i64 a1_1]] w fun e w' => e = .returned (.bool r) ∧ Below w.heap.size w w' := by
 have hu62 := Tryz.underlying62
 have HB := Aside0.mk (Below.refl w.heap.size w)
 have H : (if a0_0.toList = a1_0.toList then (if a0_1 = a1_1 then (some true) else (some false)) else (some false)) = some r := h
 clear h
 by_cases c3 : a0_0.toList = a1_0.toList
 ·rw [if_pos c3] at H
  have c3b0 : (a0_0.toList == a1_0.toList) = true := beq_iff_eq.mpr c3
  have c3b1 : (a0_0.toList != a1_0.toList) = false := bne_eq_false_iff_eq.mpr c3
  clear c3
  by_cases c4 : a0_1 = a1_1
  ·rw [if_pos c4] at H
   have c4b0 : (a0_1 == a1_1) = true := beq_iff_eq.mpr c4
   have c4b1 : (a0_1 != a1_1) = false := bne_eq_false_iff_eq.mpr c4
   clear c4
   obtain rfl := Option.some.inj H
   go_enter Tryz.func47, Tryz.ntmps47
   go_wp2_with (first | ((with_reducible refine gate_dst (N := 2) rfl ?_); refine box_event ?hg (N := 2) ?hd (cs := #[.string a0_0, .int .i64 a0_1]) (t := 62) ?hr ?_; (case hd => rfl); (case hg => rfl); (case hr => first | (go_simp; done) | (go_simp; rfl)); intro gb683 hg w5 hbox hb; have n0_ := Aside0.mk (below_step hb_ hb); have n1_ := Aside0.mk (hbox); have n2_ := Aside0.mk ((by rw [hg]; exact (below_size hb_) : w.heap.size ≤ gb683)); have n3_ := Aside0.mk ((by rw [hg]; exact (below_size hb_) : w.heap.size ≤ gb683)); clear HB; have HB := n0_; have BK683 := n1_; have GW683 := n2_; have GE683 := n3_; clear n0_ n1_ n2_ n3_; clear hb hbox hg) | ((with_reducible refine gate_dst (N := 3) rfl ?_); refine box_event ?hg (N := 3) ?hd (cs := #[.string a1_0, .int .i64 a1_1]) (t := 62) ?hr ?_; (case hd => rfl); (case hg => rfl); (case hr => first | (go_simp; done) | (go_simp; rfl)); intro gb684 hg w6 hbox hb; have n0_ := Aside0.mk (blk_below (g := gb683) (o := .cells #[.string a0_0, .int .i64 a0_1] 62 (0, 0)) (kB_ BK683.out) hb); have n1_ := Aside0.mk (below_step (by repeat (first | (with_reducible first | exact HB.out | apply below_alloc | apply pw_below_drewN | apply below_drew1 | refine below_set ?_ GE683.out) | exact HB.out)) hb); have n2_ := Aside0.mk (hbox); have n3_ := Aside0.mk ((by rw [hg]; exact (below_size (by repeat (first | (with_reducible first | exact HB.out | apply below_alloc | apply pw_below_drewN | apply below_drew1 | refine below_set ?_ GE683.out) | exact HB.out))) : w.heap.size ≤ gb684)); have n4_ := Aside0.mk ((by rw [hg]; exact (below_size (by repeat (first | (with_reducible first | exact HB.out | apply below_alloc | apply pw_below_drewN | apply below_drew1 | refine below_set ?_ GE683.out) | exact HB.out))) : w.heap.size ≤ gb684)); have n5_ := Aside0.mk ((by rw [hg]; exact Nat.ne_of_lt (blk_lt (g := gb683) (o := .cells #[.string a0_0, .int .i64 a0_1] 62 (0, 0)) (kB_ BK683.out)) : gb683 ≠ gb684)); have n6_ := Aside0.mk ((by rw [hg]; exact Nat.ne_of_gt (blk_lt (g := gb683) (o := .cells #[.string a0_0, .int .i64 a0_1] 62 (0, 0)) (kB_ BK683.out)) : gb684 ≠ gb683)); clear BK683; clear HB; have BK683 := n0_; have HB := n1_; have BK684 := n2_; have GW684 := n3_; have GE684 := n4_; have NB683_684 := n5_; have NB684_683 := n6_; clear n0_ n1_ n2_ n3_ n4_ n5_ n6_; clear hb hbox hg; have hnb7 := NB683_684.out; have hnc7 := NB684_683.out; have hcz8_0 : w6.cell? ⟨gb683, 0, none⟩ = some (.string a0_0) := (blk_cell BK683.out 0).trans rfl; have hcz8_1 : w6.cell? ⟨gb683, 1, none⟩ = some (.int .i64 a0_1) := (blk_cell BK683.out 1).trans rfl; have hfz8_0 := blk_frozen BK683.out 0; have hfz8_1 := blk_frozen BK683.out 1; have hcz9_0 : w6.cell? ⟨gb684, 0, none⟩ = some (.string a1_0) := (blk_cell BK684.out 0).trans rfl; have hcz9_1 : w6.cell? ⟨gb684, 1, none⟩ = some (.int .i64 a1_1) := (blk_cell BK684.out 1).trans rfl; have hfz9_0 := blk_frozen BK684.out 0; have hfz9_1 := blk_frozen BK684.out 1))
   go_ret
   exact ⟨er_, by repeat (first | (with_reducible first | exact HB.out | apply below_alloc | apply pw_below_drewN | apply below_drew1 | refine below_set ?_ GE683.out | refine below_set ?_ GE684.out) | exact HB.out)⟩
  ·rw [if_neg c4] at H
   have c4b0 : (a0_1 == a1_1) = false := beq_eq_false_iff_ne.mpr c4
   have c4b1 : (a0_1 != a1_1) = true := bne_iff_ne.mpr c4
   obtain rfl := Option.some.inj H
   go_enter Tryz.func47, Tryz.ntmps47
   go_wp2_with (first | ((with_reducible refine gate_dst (N := 2) rfl ?_); refine box_event ?hg (N := 2) ?hd (cs := #[.string a0_0, .int .i64 a0_1]) (t := 62) ?hr ?_; (case hd => rfl); (case hg => rfl); (case hr => first | (go_simp; done) | (go_simp; rfl)); intro gb683 hg w10 hbox hb; have n0_ := Aside0.mk (below_step hb_ hb); have n1_ := Aside0.mk (hbox); have n2_ := Aside0.mk ((by rw [hg]; exact (below_size hb_) : w.heap.size ≤ gb683)); have n3_ := Aside0.mk ((by rw [hg]; exact (below_size hb_) : w.heap.size ≤ gb683)); clear HB; have HB := n0_; have BK683 := n1_; have GW683 := n2_; have GE683 := n3_; clear n0_ n1_ n2_ n3_; clear hb hbox hg) | ((with_reducible refine gate_dst (N := 3) rfl ?_); refine box_event ?hg (N := 3) ?hd (cs := #[.string a1_0, .int .i64 a1_1]) (t := 62) ?hr ?_; (case hd => rfl); (case hg => rfl); (case hr => first | (go_simp; done) | (go_simp; rfl)); intro gb684 hg w11 hbox hb; have n0_ := Aside0.mk (blk_below (g := gb683) (o := .cells #[.string a0_0, .int .i64 a0_1] 62 (0, 0)) (kB_ BK683.out) hb); have n1_ := Aside0.mk (below_step (by repeat (first | (with_reducible first | exact HB.out | apply below_alloc | apply pw_below_drewN | apply below_drew1 | refine below_set ?_ GE683.out) | exact HB.out)) hb); have n2_ := Aside0.mk (hbox); have n3_ := Aside0.mk ((by rw [hg]; exact (below_size (by repeat (first | (with_reducible first | exact HB.out | apply below_alloc | apply pw_below_drewN | apply below_drew1 | refine below_set ?_ GE683.out) | exact HB.out))) : w.heap.size ≤ gb684)); have n4_ := Aside0.mk ((by rw [hg]; exact (below_size (by repeat (first | (with_reducible first | exact HB.out | apply below_alloc | apply pw_below_drewN | apply below_drew1 | refine below_set ?_ GE683.out) | exact HB.out))) : w.heap.size ≤ gb684)); have n5_ := Aside0.mk ((by rw [hg]; exact Nat.ne_of_lt (blk_lt (g := gb683) (o := .cells #[.string a0_0, .int .i64 a0_1] 62 (0, 0)) (kB_ BK683.out)) : gb683 ≠ gb684)); have n6_ := Aside0.mk ((by rw [hg]; exact Nat.ne_of_gt (blk_lt (g := gb683) (o := .cells #[.string a0_0, .int .i64 a0_1] 62 (0, 0)) (kB_ BK683.out)) : gb684 ≠ gb683)); clear BK683; clear HB; have BK683 := n0_; have HB := n1_; have BK684 := n2_; have GW684 := n3_; have GE684 := n4_; have NB683_684 := n5_; have NB684_683 := n6_; clear n0_ n1_ n2_ n3_ n4_ n5_ n6_; clear hb hbox hg; have hnb12 := NB683_684.out; have hnc12 := NB684_683.out; have hcz13_0 : w11.cell? ⟨gb683, 0, none⟩ = some (.string a0_0) := (blk_cell BK683.out 0).trans rfl; have hcz13_1 : w11.cell? ⟨gb683, 1, none⟩ = some (.int .i64 a0_1) := (blk_cell BK683.out 1).trans rfl; have hfz13_0 := blk_frozen BK683.out 0; have hfz13_1 := blk_frozen BK683.out 1; have hcz14_0 : w11.cell? ⟨gb684, 0, none⟩ = some (.string a1_0) := (blk_cell BK684.out 0).trans rfl; have hcz14_1 : w11.cell? ⟨gb684, 1, none⟩ = some (.int .i64 a1_1) := (blk_cell BK684.out 1).trans rfl; have hfz14_0 := blk_frozen BK684.out 0; have hfz14_1 := blk_frozen BK684.out 1))
   go_ret
   exact ⟨er_, by repeat (first | (with_reducible first | exact HB.out | apply below_alloc | apply pw_below_drewN | apply below_drew1 | refine below_set ?_ GE683.out | refine below_set ?_ GE684.out) | exact HB.out)⟩
 ·rw [if_neg c3] at H
  have c3b0 : (a0_0.toList == a1_0.toList) = false := beq_eq_false_iff_ne.mpr c3
  have c3b1 : (a0_0.toList != a1_0.toList) = true := bne_iff_ne.mpr c3
  obtain rfl := Option.some.inj H
  go_enter Tryz.func47, Tryz.ntmps47
  go_wp2_with (first | ((with_reducible refine gate_dst (N := 2) rfl ?_); refine box_event ?hg (N := 2) ?hd (cs := #[.string a0_0, .int .i64 a0_1]) (t := 62) ?hr ?_; (case hd => rfl); (case hg => rfl); (case hr => first | (go_simp; done) | (go_simp; rfl)); intro gb683 hg w15 hbox hb; have n0_ := Aside0.mk (below_step hb_ hb); have n1_ := Aside0.mk (hbox); have n2_ := Aside0.mk ((by rw [hg]; exact (below_size hb_) : w.heap.size ≤ gb683)); have n3_ := Aside0.mk ((by rw [hg]; exact (below_size hb_) : w.heap.size ≤ gb683)); clear HB; have HB := n0_; have BK683 := n1_; have GW683 := n2_; have GE683 := n3_; clear n0_ n1_ n2_ n3_; clear hb hbox hg) | ((with_reducible refine gate_dst (N := 3) rfl ?_); refine box_event ?hg (N := 3) ?hd (cs := #[.string a1_0, .int .i64 a1_1]) (t := 62) ?hr ?_; (case hd => rfl); (case hg => rfl); (case hr => first | (go_simp; done) | (go_simp; rfl)); intro gb684 hg w16 hbox hb; have n0_ := Aside0.mk (blk_below (g := gb683) (o := .cells #[.string a0_0, .int .i64 a0_1] 62 (0, 0)) (kB_ BK683.out) hb); have n1_ := Aside0.mk (below_step (by repeat (first | (with_reducible first | exact HB.out | apply below_alloc | apply pw_below_drewN | apply below_drew1 | refine below_set ?_ GE683.out) | exact HB.out)) hb); have n2_ := Aside0.mk (hbox); have n3_ := Aside0.mk ((by rw [hg]; exact (below_size (by repeat (first | (with_reducible first | exact HB.out | apply below_alloc | apply pw_below_drewN | apply below_drew1 | refine below_set ?_ GE683.out) | exact HB.out))) : w.heap.size ≤ gb684)); have n4_ := Aside0.mk ((by rw [hg]; exact (below_size (by repeat (first | (with_reducible first | exact HB.out | apply below_alloc | apply pw_below_drewN | apply below_drew1 | refine below_set ?_ GE683.out) | exact HB.out))) : w.heap.size ≤ gb684)); have n5_ := Aside0.mk ((by rw [hg]; exact Nat.ne_of_lt (blk_lt (g := gb683) (o := .cells #[.string a0_0, .int .i64 a0_1] 62 (0, 0)) (kB_ BK683.out)) : gb683 ≠ gb684)); have n6_ := Aside0.mk ((by rw [hg]; exact Nat.ne_of_gt (blk_lt (g := gb683) (o := .cells #[.string a0_0, .int .i64 a0_1] 62 (0, 0)) (kB_ BK683.out)) : gb684 ≠ gb683)); clear BK683; clear HB; have BK683 := n0_; have HB := n1_; have BK684 := n2_; have GW684 := n3_; have GE684 := n4_; have NB683_684 := n5_; have NB684_683 := n6_; clear n0_ n1_ n2_ n3_ n4_ n5_ n6_; clear hb hbox hg; have hnb17 := NB683_684.out; have hnc17 := NB684_683.out; have hcz18_0 : w16.cell? ⟨gb683, 0, none⟩ = some (.string a0_0) := (blk_cell BK683.out 0).trans rfl; have hcz18_1 : w16.cell? ⟨gb683, 1, none⟩ = some (.int .i64 a0_1) := (blk_cell BK683.out 1).trans rfl; have hfz18_0 := blk_frozen BK683.out 0; have hfz18_1 := blk_frozen BK683.out 1; have hcz19_0 : w16.cell? ⟨gb684, 0, none⟩ = some (.string a1_0) := (blk_cell BK684.out 0).trans rfl; have hcz19_1 : w16.cell? ⟨gb684, 1, none⟩ = some (.int .i64 a1_1) := (blk_cell BK684.out 1).trans rfl; have hfz19_0 := blk_frozen BK684.out 0; have hfz19_1 := blk_frozen BK684.out 1))
  go_ret
  exact ⟨er_, by repeat (first | (with_reducible first | exact HB.out | apply below_alloc | apply pw_below_drewN | apply below_drew1 | refine below_set ?_ GE683.out | refine below_set ?_ GE684.out) | exact HB.out)⟩
/-! ### laws_eqChangeS: function 25 -/
def laws_eqChangeS.l0 : Nat → List (S62) → List (S62) → Int → Option (Bool)
 | 0, _, _, _ => none
 | k + 1, x0, x1, x5 => if x5 < (x0.length : Int) then (if 0 ≤ x5 then (if x5 < (x1.length : Int) then ((laws_eqChange.f ((rd_T62 x0 x5).f0) ((rd_T62 x0 x5).f1) ((rd_T62 x1 x5).f0) ((rd_T62 x1 x5).f1)).bind fun t687 => (if t687 = true then (laws_eqChangeS.l0 k x0 x1 (wrap64 (x5 + 1))) else (some false))) else (none)) else (none)) else (some true)
def laws_eqChangeS.f (k : Nat) (l0 : List (S62)) (l1 : List (S62)) : Option (Bool) := if (l0.length : Int) = (l1.length : Int) then (laws_eqChangeS.l0 k l0 l1 0) else (some false)
theorem laws_eqChangeS.mono_l : ∀ k, (∀ y0 y1 y2, LeO (laws_eqChangeS.l0 k y0 y1 y2) (laws_eqChangeS.l0 (k + 1) y0 y1 y2))
 | 0 => fun _ _ _ r h => by simp [laws_eqChangeS.l0] at h
 | k + 1 => by
  have ih0 := laws_eqChangeS.mono_l k
  ·intro y0 y1 y2
   unfold laws_eqChangeS.l0
   repeat' first
   | (with_reducible exact ih0 _ _ _)
   | (with_reducible exact LeO.refl _)
   | (with_reducible exact LeO.none _)
   | (with_reducible refine LeO.ite ?_ ?_)
   | (with_reducible refine LeO.bind ?_ (fun _ => ?_))
   | exact ih0 _ _ _
   | exact LeO.none _
   | refine LeO.ite ?_ ?_
   | refine LeO.bind ?_ (fun _ => ?_)
theorem laws_eqChangeS.mono : ∀ a0 a1 k, LeO (laws_eqChangeS.f k a0 a1) (laws_eqChangeS.f (k + 1) a0 a1) := by
 intro a0 a1 k
 have ih0 := laws_eqChangeS.mono_l k
 unfold laws_eqChangeS.f
 repeat' first
   | (with_reducible exact ih0 _ _ _)
   | (with_reducible exact LeO.refl _)
   | (with_reducible exact LeO.none _)
   | (with_reducible refine LeO.ite ?_ ?_)
   | (with_reducible refine LeO.bind ?_ (fun _ => ?_))
   | exact ih0 _ _ _
   | exact LeO.none _
   | refine LeO.ite ?_ ?_
   | refine LeO.bind ?_ (fun _ => ?_)
def laws_eqChangeS.T6 : Bool × List (List Nat × List Nat) := (true, [([], []), ([], []), ([0, 1], [0, 1]), ([2], [2]), ([], []), ([], []), ([4, 5], [4, 5]), ([6], [6]), ([3, 7], [3, 7]), ([8], [8])])
def laws_eqChangeS.B6 : List Nat := [0, 0, 3, 7, 0, 0, 48, 112, 255, 511]
theorem laws_eqChangeS.tab6 : rtab .any (opsOf Tryz.f25 6) = laws_eqChangeS.T6 := by kernel_rfl
theorem laws_eqChangeS.bits6 : waitsOk laws_eqChangeS.T6.2 laws_eqChangeS.B6 = true := by kernel_rfl
set_option maxHeartbeats 8000000 in
set_option maxRecDepth 100000 in
theorem laws_eqChangeS.calls (k : Nat) (A0 : Option Addr) (c0 : Nat) (l0 : List (S62)) (A1 : Option Addr) (c1 : Nat) (l1 : List (S62)) (r : Bool) (w : World) (hr0 : Kd.C k62 w A0 l0.length l0) (hc0 : l0.length ≤ c0) (hr1 : Kd.C k62 w A1 l1.length l1) (hc1 : l1.length ≤ c1) (h : laws_eqChangeS.f k l0 l1 = some r) :
  Calls Tryz.prog 25 #[.slice A0 l0.length c0, .slice A1 l1.length c1] w fun e w' => e = .returned (.bool r) ∧ Below w.heap.size w w' := by
 have hu62 := Tryz.underlying62
 have HR0 := Aside0.mk hr0
 have HC0 := Aside0.mk hc0
 clear hr0 hc0
 have HR1 := Aside0.mk hr1
 have HC1 := Aside0.mk hc1
 clear hr1 hc1
 have HB := Aside0.mk (Below.refl w.heap.size w)
 have H : (if (l0.length : Int) = (l1.length : Int) then (laws_eqChangeS.l0 k l0 l1 0) else (some false)) = some r := h
 clear h
 by_cases c3 : (l0.length : Int) = (l1.length : Int)
 ·rw [if_pos c3] at H
  have c3b0 : ((l0.length : Int) == (l1.length : Int)) = true := beq_iff_eq.mpr c3
  have c3b1 : ((l0.length : Int) != (l1.length : Int)) = false := bne_eq_false_iff_eq.mpr c3
  have c3b2 : (l0.length == l1.length) = true := by first | simpa using c3 | (simp at c3 ⊢; omega)
  clear c3
  have H' := Aside0.mk H
  clear H
  go_enter Tryz.func25, Tryz.ntmps25
  go_wp2
  go_loopg [5] k (fun kq v5 w' => ∃ (x5_1 : Int), v5 = .int .i64 x5_1 ∧ Aside0 (laws_eqChangeS.l0 kq l0 l1 x5_1 = some r) ∧ Aside0 (kq ≤ k) ∧ Aside0 (Below w.heap.size w w'))
  case atStart => exact ⟨(0), (by first | rfl | (simp; done) | (simp [*]; done)), H', ⟨Nat.le_refl _⟩, ⟨hb_⟩⟩
  case round =>
   clear H'
   try clear c1
   try clear c2
   try clear p2
   try clear c3
   try clear c3b0
   try clear c3b1
   try clear c3b2
   obtain ⟨x5_1, rfl, HA, HK1, HB⟩ := hrel
   cases gk with
   | zero => exact absurd HA.out (by simp [laws_eqChangeS.l0])
   | succ k1 =>
    have H := HA.out
    clear HA
    simp only [laws_eqChangeS.l0] at H
    by_cases c4 : x5_1 < (l0.length : Int)
    ·rw [if_pos c4] at H
     have c4b0 : decide (x5_1 < (l0.length : Int)) = true := decide_eq_true c4
     clear c4
     by_cases c5 : 0 ≤ x5_1
     ·rw [if_pos c5] at H
      have c5b0 : decide (0 ≤ x5_1) = true := decide_eq_true c5
      clear c5
      by_cases c6 : x5_1 < (l1.length : Int)
      ·rw [if_pos c6] at H
       have c6b0 : decide (x5_1 < (l1.length : Int)) = true := decide_eq_true c6
       clear c6
       replace H := Option.bind_eq_some_iff.mp H
       obtain ⟨t687, A70, H⟩ := H
       replace H : (if t687 = true then (laws_eqChangeS.l0 k1 l0 l1 (wrap64 (x5_1 + 1))) else (some false)) = some r := H
       have A7 := Aside0.mk A70
       clear A70
       by_cases c8 : t687 = true
       ·subst c8
        have H1 : (laws_eqChangeS.l0 k1 l0 l1 (wrap64 (x5_1 + 1))) = some r := by rw [if_pos rfl] at H; exact H
        clear H
        have H := H1
        clear H1
        have H' := Aside0.mk H
        clear H
        try go_wp2
        have n0_ := Aside0.mk (below_drew1 HB.out)
        clear HB
        have HB := n0_
        clear n0_
        have p685 : 0 ≤ (x5_1 : Int) := of_decide_eq_true ma_
        have q685 : x5_1 < (l0.length : Int) := of_decide_eq_true ma_
        obtain ⟨ad685, e685, hx685_0, hx685_1⟩ := at_T62 HR0.out x5_1 p685 q685
        have hw685_1 := hx685_1
        have hw685_0 := hx685_0
        cases e685
        replace hx685_0 := (HB.out.cell (World.block_lt_of_cell? w _ hx685_0)).trans hx685_0
        replace hx685_1 := (HB.out.cell (World.block_lt_of_cell? w _ hx685_1)).trans hx685_1
        replace p685 := eq_true p685
        replace q685 := eq_true q685
        have p686 : 0 ≤ (x5_1 : Int) := of_decide_eq_true ma_
        have q686 : x5_1 < (l1.length : Int) := of_decide_eq_true ma_
        obtain ⟨ad686, e686, hx686_0, hx686_1⟩ := at_T62 HR1.out x5_1 p686 q686
        have hw686_1 := hx686_1
        have hw686_0 := hx686_0
        cases e686
        replace hx686_0 := (HB.out.cell (World.block_lt_of_cell? w _ hx686_0)).trans hx686_0
        replace hx686_1 := (HB.out.cell (World.block_lt_of_cell? w _ hx686_1)).trans hx686_1
        replace p686 := eq_true p686
        replace q686 := eq_true q686
        refine start_ (n := 10) (S := fun w' => w'.cell? (ad685.add ((x5_1).toNat * 2)) = some (.string ((rd_T62 l0 x5_1).f0)) ∧ w'.cell? ⟨(ad685.add ((x5_1).toNat * 2)).block, (ad685.add ((x5_1).toNat * 2)).off + 1, none⟩ = some (.int .i64 ((rd_T62 l0 x5_1).f1)) ∧ w'.cell? (ad686.add ((x5_1).toNat * 2)) = some (.string ((rd_T62 l1 x5_1).f0)) ∧ w'.cell? ⟨(ad686.add ((x5_1).toNat * 2)).block, (ad686.add ((x5_1).toNat * 2)).off + 1, none⟩ = some (.int .i64 ((rd_T62 l1 x5_1).f1))) (ds := []) (tf_ 0 10) (by kernel_rfl) rfl rfl ⟨((HB.out.cell (World.block_lt_of_cell? w _ hw685_0)).trans hw685_0), ((HB.out.cell (World.block_lt_of_cell? w _ hw685_1)).trans hw685_1), ((HB.out.cell (World.block_lt_of_cell? w _ hw686_0)).trans hw686_0), ((HB.out.cell (World.block_lt_of_cell? w _ hw686_1)).trans hw686_1)⟩ (fun hHeld => ?_); refine with_tabW laws_eqChangeS.tab6 laws_eqChangeS.bits6 (fun HT_ HW_ => ?_)
        generalize wr.drew = w9 at HB hx685_0 hx685_1 hx686_0 hx686_1 hHeld ⊢
        refine pa_ (i := 0) (N := some 17) (tf_ 1 9) ?_
        refine pa_ (i := 1) (N := some 18) (tf_ 2 8) ?_
        refine pa_ (i := 2) (N := some 19) (tf_ 3 7) ?_
        refine pure_ (i := 4) (N := some 21) (v := ?_) (a' := ?_) #[true, true, true, false, true, false, false, false, false, false] rfl rfl (any_of HT_.out (by kernel_rfl)) (fun _ _ _ h => h) (Or.inl ⟨by rfl, ?_⟩) ?_ ?_; rotate_left; (intro w'; go_simp; with_reducible rfl); rotate_left; (simp only [Act.put, List.setIfInBounds_toArray, List.set_cons_zero, List.set_cons_succ, i64_w, i32_w]; rfl)
        refine pure_ (i := 5) (N := some 22) (v := ?_) (a' := ?_) #[true, true, true, false, true, true, false, false, false, false] rfl rfl (any_of HT_.out (by kernel_rfl)) (fun _ _ _ h => h) (Or.inl ⟨by rfl, ?_⟩) ?_ ?_; rotate_left; (intro w'; go_simp; with_reducible rfl); rotate_left; (simp only [Act.put, List.setIfInBounds_toArray, List.set_cons_zero, List.set_cons_succ, i64_w, i32_w]; rfl)
        refine pure_ (i := 6) (N := some 23) (v := ?_) (a' := ?_) #[true, true, true, false, true, true, true, false, false, false] rfl rfl (any_of HT_.out (by kernel_rfl)) (fun _ _ _ h => h) (Or.inl ⟨by rfl, ?_⟩) ?_ ?_; rotate_left; (intro w'; go_simp; with_reducible rfl); rotate_left; (simp only [Act.put, List.setIfInBounds_toArray, List.set_cons_zero, List.set_cons_succ, i64_w, i32_w]; rfl)
        refine take_ (i := 3) (N := some 20) (v := ?_) (a' := ?_) (tf_ 7 3) rfl rfl (take_ofW HT_.out HW_.out (by kernel_rfl)) (fun _ _ _ h => h) (Or.inl ⟨by rfl, ?_⟩) hHeld ?_ ?_
        rotate_left
        ·rintro w' ⟨s0, s1, s2, s3⟩
         go_simp
         with_reducible rfl
        rotate_left
        ·simp only [Act.put, List.setIfInBounds_toArray, List.set_cons_zero, List.set_cons_succ, i64_w, i32_w]
         rfl
        refine take_ (i := 7) (N := some 24) (v := ?_) (a' := ?_) (tf_ 8 2) rfl rfl (take_ofW HT_.out HW_.out (by kernel_rfl)) (fun _ _ _ h => h) (Or.inl ⟨by rfl, ?_⟩) hHeld ?_ ?_
        rotate_left
        ·rintro w' ⟨s0, s1, s2, s3⟩
         go_simp
         with_reducible rfl
        rotate_left
        ·simp only [Act.put, List.setIfInBounds_toArray, List.set_cons_zero, List.set_cons_succ, i64_w, i32_w]
         rfl
        refine one_ (i := 8) (N := some 25) (tf_ 9 1) rfl rfl (one_of HT_.out (by kernel_rfl)) (by decide) (fun K hK => ?_)
        refine goes_ Tryz.func47 (by kernel_rfl) rfl #[.agg #[.string ((rd_T62 l0 x5_1).f0), .int .i64 ((rd_T62 l0 x5_1).f1)], .agg #[.string ((rd_T62 l1 x5_1).f0), .int .i64 ((rd_T62 l1 x5_1).f1)]] (by rfl) rfl rfl sl_ ?_
        with_reducible refine (laws_eqChange.calls ((rd_T62 l0 x5_1).f0) ((rd_T62 l0 x5_1).f1) ((rd_T62 l1 x5_1).f0) ((rd_T62 l1 x5_1).f1) true _ A7.out).mono ?_
        rintro e w10 ⟨rfl, hb⟩
        refine ⟨_, rfl, ?_⟩
        have n0_ := Aside0.mk (below_step hb_ hb)
        clear HB
        have HB := n0_
        clear n0_
        (try clear hb)
        (try clear hb2)
        (try clear hk)
        (try clear hi)
        refine hK.out _ _ ⟨((HB.out.cell (World.block_lt_of_cell? w _ hw685_0)).trans hw685_0), ((HB.out.cell (World.block_lt_of_cell? w _ hw685_1)).trans hw685_1), ((HB.out.cell (World.block_lt_of_cell? w _ hw686_0)).trans hw686_0), ((HB.out.cell (World.block_lt_of_cell? w _ hw686_1)).trans hw686_1)⟩ (fun hHeld => ?_)
        clear hK K
        refine norm_ (a' := ?_) ?_ ?_
        rotate_left
        ·show Act.put _ (some 25) _ = _
         simp only [Act.put, List.setIfInBounds_toArray, List.set_cons_zero, List.set_cons_succ, i64_w, i32_w]
         rfl
        refine pa_ (i := 9) (N := some 26) (tf_ 10 0) ?_
        refine done_ (done_of HT_.out (by kernel_rfl)) ?_
        try go_wp2
        go_roundg k1
        case measure => have := HK1.out; omega
        case rel => exact ⟨(wrap64 (x5_1 + 1)), (by first | rfl | (simp; done) | (simp [*]; done)), H', ⟨by have := HK1.out; omega⟩, ⟨hb_⟩⟩
       ·replace c8 := Bool.eq_false_iff.mpr c8
        subst c8
        have H1 : (some false) = some r := by rw [if_neg (show ¬ (false = true) by decide)] at H; exact H
        clear H
        have H := H1
        clear H1
        obtain rfl := Option.some.inj H
        try go_wp2
        have n0_ := Aside0.mk (below_drew1 HB.out)
        clear HB
        have HB := n0_
        clear n0_
        have p685 : 0 ≤ (x5_1 : Int) := of_decide_eq_true ma_
        have q685 : x5_1 < (l0.length : Int) := of_decide_eq_true ma_
        obtain ⟨ad685, e685, hx685_0, hx685_1⟩ := at_T62 HR0.out x5_1 p685 q685
        have hw685_1 := hx685_1
        have hw685_0 := hx685_0
        cases e685
        replace hx685_0 := (HB.out.cell (World.block_lt_of_cell? w _ hx685_0)).trans hx685_0
        replace hx685_1 := (HB.out.cell (World.block_lt_of_cell? w _ hx685_1)).trans hx685_1
        replace p685 := eq_true p685
        replace q685 := eq_true q685
        have p686 : 0 ≤ (x5_1 : Int) := of_decide_eq_true ma_
        have q686 : x5_1 < (l1.length : Int) := of_decide_eq_true ma_
        obtain ⟨ad686, e686, hx686_0, hx686_1⟩ := at_T62 HR1.out x5_1 p686 q686
        have hw686_1 := hx686_1
        have hw686_0 := hx686_0
        cases e686
        replace hx686_0 := (HB.out.cell (World.block_lt_of_cell? w _ hx686_0)).trans hx686_0
        replace hx686_1 := (HB.out.cell (World.block_lt_of_cell? w _ hx686_1)).trans hx686_1
        replace p686 := eq_true p686
        replace q686 := eq_true q686
        refine start_ (n := 10) (S := fun w' => w'.cell? (ad685.add ((x5_1).toNat * 2)) = some (.string ((rd_T62 l0 x5_1).f0)) ∧ w'.cell? ⟨(ad685.add ((x5_1).toNat * 2)).block, (ad685.add ((x5_1).toNat * 2)).off + 1, none⟩ = some (.int .i64 ((rd_T62 l0 x5_1).f1)) ∧ w'.cell? (ad686.add ((x5_1).toNat * 2)) = some (.string ((rd_T62 l1 x5_1).f0)) ∧ w'.cell? ⟨(ad686.add ((x5_1).toNat * 2)).block, (ad686.add ((x5_1).toNat * 2)).off + 1, none⟩ = some (.int .i64 ((rd_T62 l1 x5_1).f1))) (ds := []) (tf_ 0 10) (by kernel_rfl) rfl rfl ⟨((HB.out.cell (World.block_lt_of_cell? w _ hw685_0)).trans hw685_0), ((HB.out.cell (World.block_lt_of_cell? w _ hw685_1)).trans hw685_1), ((HB.out.cell (World.block_lt_of_cell? w _ hw686_0)).trans hw686_0), ((HB.out.cell (World.block_lt_of_cell? w _ hw686_1)).trans hw686_1)⟩ (fun hHeld => ?_); refine with_tabW laws_eqChangeS.tab6 laws_eqChangeS.bits6 (fun HT_ HW_ => ?_)
        generalize wr.drew = w11 at HB hx685_0 hx685_1 hx686_0 hx686_1 hHeld ⊢
        refine pa_ (i := 0) (N := some 17) (tf_ 1 9) ?_
        refine pa_ (i := 1) (N := some 18) (tf_ 2 8) ?_
        refine pa_ (i := 2) (N := some 19) (tf_ 3 7) ?_
        refine pure_ (i := 4) (N := some 21) (v := ?_) (a' := ?_) #[true, true, true, false, true, false, false, false, false, false] rfl rfl (any_of HT_.out (by kernel_rfl)) (fun _ _ _ h => h) (Or.inl ⟨by rfl, ?_⟩) ?_ ?_; rotate_left; (intro w'; go_simp; with_reducible rfl); rotate_left; (simp only [Act.put, List.setIfInBounds_toArray, List.set_cons_zero, List.set_cons_succ, i64_w, i32_w]; rfl)
        refine pure_ (i := 5) (N := some 22) (v := ?_) (a' := ?_) #[true, true, true, false, true, true, false, false, false, false] rfl rfl (any_of HT_.out (by kernel_rfl)) (fun _ _ _ h => h) (Or.inl ⟨by rfl, ?_⟩) ?_ ?_; rotate_left; (intro w'; go_simp; with_reducible rfl); rotate_left; (simp only [Act.put, List.setIfInBounds_toArray, List.set_cons_zero, List.set_cons_succ, i64_w, i32_w]; rfl)
        refine pure_ (i := 6) (N := some 23) (v := ?_) (a' := ?_) #[true, true, true, false, true, true, true, false, false, false] rfl rfl (any_of HT_.out (by kernel_rfl)) (fun _ _ _ h => h) (Or.inl ⟨by rfl, ?_⟩) ?_ ?_; rotate_left; (intro w'; go_simp; with_reducible rfl); rotate_left; (simp only [Act.put, List.setIfInBounds_toArray, List.set_cons_zero, List.set_cons_succ, i64_w, i32_w]; rfl)
        refine take_ (i := 3) (N := some 20) (v := ?_) (a' := ?_) (tf_ 7 3) rfl rfl (take_ofW HT_.out HW_.out (by kernel_rfl)) (fun _ _ _ h => h) (Or.inl ⟨by rfl, ?_⟩) hHeld ?_ ?_
        rotate_left
        ·rintro w' ⟨s0, s1, s2, s3⟩
         go_simp
         with_reducible rfl
        rotate_left
        ·simp only [Act.put, List.setIfInBounds_toArray, List.set_cons_zero, List.set_cons_succ, i64_w, i32_w]
         rfl
        refine take_ (i := 7) (N := some 24) (v := ?_) (a' := ?_) (tf_ 8 2) rfl rfl (take_ofW HT_.out HW_.out (by kernel_rfl)) (fun _ _ _ h => h) (Or.inl ⟨by rfl, ?_⟩) hHeld ?_ ?_
        rotate_left
        ·rintro w' ⟨s0, s1, s2, s3⟩
         go_simp
         with_reducible rfl
        rotate_left
        ·simp only [Act.put, List.setIfInBounds_toArray, List.set_cons_zero, List.set_cons_succ, i64_w, i32_w]
         rfl
        refine one_ (i := 8) (N := some 25) (tf_ 9 1) rfl rfl (one_of HT_.out (by kernel_rfl)) (by decide) (fun K hK => ?_)
        refine goes_ Tryz.func47 (by kernel_rfl) rfl #[.agg #[.string ((rd_T62 l0 x5_1).f0), .int .i64 ((rd_T62 l0 x5_1).f1)], .agg #[.string ((rd_T62 l1 x5_1).f0), .int .i64 ((rd_T62 l1 x5_1).f1)]] (by rfl) rfl rfl sl_ ?_
        with_reducible refine (laws_eqChange.calls ((rd_T62 l0 x5_1).f0) ((rd_T62 l0 x5_1).f1) ((rd_T62 l1 x5_1).f0) ((rd_T62 l1 x5_1).f1) false _ A7.out).mono ?_
        rintro e w12 ⟨rfl, hb⟩
        refine ⟨_, rfl, ?_⟩
        have n0_ := Aside0.mk (below_step hb_ hb)
        clear HB
        have HB := n0_
        clear n0_
        (try clear hb)
        (try clear hb2)
        (try clear hk)
        (try clear hi)
        refine hK.out _ _ ⟨((HB.out.cell (World.block_lt_of_cell? w _ hw685_0)).trans hw685_0), ((HB.out.cell (World.block_lt_of_cell? w _ hw685_1)).trans hw685_1), ((HB.out.cell (World.block_lt_of_cell? w _ hw686_0)).trans hw686_0), ((HB.out.cell (World.block_lt_of_cell? w _ hw686_1)).trans hw686_1)⟩ (fun hHeld => ?_)
        clear hK K
        refine norm_ (a' := ?_) ?_ ?_
        rotate_left
        ·show Act.put _ (some 25) _ = _
         simp only [Act.put, List.setIfInBounds_toArray, List.set_cons_zero, List.set_cons_succ, i64_w, i32_w]
         rfl
        refine pa_ (i := 9) (N := some 26) (tf_ 10 0) ?_
        refine done_ (done_of HT_.out (by kernel_rfl)) ?_
        try go_wp2
        go_ret
        exact ⟨er_, hb_⟩
      ·rw [if_neg c6] at H
       exact absurd H (by simp)
     ·rw [if_neg c5] at H
      exact absurd H (by simp)
    ·rw [if_neg c4] at H
     have c4b0 : decide (x5_1 < (l0.length : Int)) = false := decide_eq_false c4
     clear c4
     obtain rfl := Option.some.inj H
     go_wp2
     go_ret
     exact ⟨er_, hb_⟩
 ·rw [if_neg c3] at H
  have c3b0 : ((l0.length : Int) == (l1.length : Int)) = false := beq_eq_false_iff_ne.mpr c3
  have c3b1 : ((l0.length : Int) != (l1.length : Int)) = true := bne_iff_ne.mpr c3
  have c3b2 : (l0.length == l1.length) = false := by first | simpa using c3 | (simp at c3 ⊢; omega)
  obtain rfl := Option.some.inj H
  go_enter Tryz.func25, Tryz.ntmps25
  go_wp2
  go_ret
  exact ⟨er_, hb_⟩
end Go.Proofs.YtjgbidklkhohfaaGreatDoor.P
