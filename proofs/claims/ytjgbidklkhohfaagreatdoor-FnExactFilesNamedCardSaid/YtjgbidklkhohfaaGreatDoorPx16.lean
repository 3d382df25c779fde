-- The functions of the seat as plain Lean functions, made by the kit's print.py for all laws at once. Not trusted: Lean checks it.
import Derived.Test.YtjgbidklkhohfaaGreatDoorPx0
import Derived.Test.YtjgbidklkhohfaaGreatDoorPx3
import Derived.Test.YtjgbidklkhohfaaGreatDoorPx5
import Derived.Test.YtjgbidklkhohfaaGreatDoorPx7
import Derived.Test.YtjgbidklkhohfaaGreatDoorPx8
import Derived.Test.YtjgbidklkhohfaaGreatDoorPx9
import Derived.Test.YtjgbidklkhohfaaGreatDoorPx11
namespace Go.Proofs.YtjgbidklkhohfaaGreatDoor.P
open Go.RowKit Go.Proofs.YtjgbidklkhohfaaGreatDoorW.PrintWords Go.Proofs.YtjgbidklkhohfaaGreatDoorW.PrintLast Go.Proofs.YtjgbidklkhohfaaGreatDoorW.PrintMore
attribute [local go_sem] max2_int min2_int max_two min_two max_three min_three max_four min_four   -- for this text's walks alone
set_option linter.unusedVariables false
set_option linter.unusedSimpArgs false
/-! ### spec_FilesNamed: function 9 -/
def spec_FilesNamed.l0 : Nat → ByteArray → List ByteArray → List ByteArray → Int → Option (List ByteArray)
 | 0, _, _, _, _ => none
 | k + 1, x2, x7, x8, x9 => if x9 < (x8.length : Int) then (if 0 ≤ x9 then ((spec_PathParts.f k (rdOf ByteArray.empty x8 x9)).bind fun bt216 => (if (bt216.1.length : Int) > 0 then (if 0 ≤ (wrap64 ((bt216.1.length : Int) - 1)) then (if (wrap64 ((bt216.1.length : Int) - 1)) < (bt216.1.length : Int) then (if (rdOf ByteArray.empty bt216.1 (wrap64 ((bt216.1.length : Int) - 1))).toList = x2.toList then (if x7.length < 8796093022208 then (spec_FilesNamed.l0 k x2 (x7 ++ [rdOf ByteArray.empty x8 x9]) x8 (wrap64 (x9 + 1))) else (none)) else (spec_FilesNamed.l0 k x2 x7 x8 (wrap64 (x9 + 1)))) else (none)) else (none)) else (spec_FilesNamed.l0 k x2 x7 x8 (wrap64 (x9 + 1))))) else (none)) else (some x7)
def spec_FilesNamed.f (k : Nat) (l0 : List (S46)) (a1 : Int) (a2 : ByteArray) : Option (List ByteArray) := (spec_AllFiles.f k l0 a1).bind fun t212 => (spec_FilesNamed.l0 k a2 (([] : List ByteArray)) t212 0)
theorem spec_FilesNamed.mono_l : ∀ k, (∀ y0 y1 y2 y3, LeO (spec_FilesNamed.l0 k y0 y1 y2 y3) (spec_FilesNamed.l0 (k + 1) y0 y1 y2 y3))
 | 0 => fun _ _ _ _ r h => by simp [spec_FilesNamed.l0] at h
 | k + 1 => by
  have ih0 := spec_FilesNamed.mono_l k
  ·intro y0 y1 y2 y3
   unfold spec_FilesNamed.l0
   repeat' first
   | (with_reducible exact ih0 _ _ _ _)
   | (with_reducible exact spec_AllFiles.mono _ _ _)
   | (with_reducible exact spec_PathParts.mono _ _)
   | (with_reducible exact LeO.refl _)
   | (with_reducible exact LeO.none _)
   | (with_reducible refine LeO.ite ?_ ?_)
   | (with_reducible refine LeO.bind ?_ (fun _ => ?_))
   | exact ih0 _ _ _ _
   | exact spec_AllFiles.mono _ _ _
   | exact spec_PathParts.mono _ _
   | exact LeO.none _
   | refine LeO.ite ?_ ?_
   | refine LeO.bind ?_ (fun _ => ?_)
theorem spec_FilesNamed.mono : ∀ a0 a1 a2 k, LeO (spec_FilesNamed.f k a0 a1 a2) (spec_FilesNamed.f (k + 1) a0 a1 a2) := by
 intro a0 a1 a2 k
 have ih0 := spec_FilesNamed.mono_l k
 unfold spec_FilesNamed.f
 repeat' first
   | (with_reducible exact ih0 _ _ _ _)
   | (with_reducible exact spec_AllFiles.mono _ _ _)
   | (with_reducible exact spec_PathParts.mono _ _)
   | (with_reducible exact LeO.refl _)
   | (with_reducible exact LeO.none _)
   | (with_reducible refine LeO.ite ?_ ?_)
   | (with_reducible refine LeO.bind ?_ (fun _ => ?_))
   | exact ih0 _ _ _ _
   | exact spec_AllFiles.mono _ _ _
   | exact spec_PathParts.mono _ _
   | exact LeO.none _
   | refine LeO.ite ?_ ?_
   | refine LeO.bind ?_ (fun _ => ?_)
set_option maxHeartbeats 8000000 in
set_option maxRecDepth 100000 in
theorem spec_FilesNamed.calls (k : Nat) (A0 : Option Addr) (c0 : Nat) (l0 : List (S46)) (a1 : Int) (a2 : ByteArray) (r : List ByteArray) (w : World) (hr0 : Kd.C k46 w A0 l0.length l0) (hc0 : l0.length ≤ c0) (h : spec_FilesNamed.f k l0 a1 a2 = some r) :
  Calls Tryz.prog 9 #[.slice A0 l0.length c0, .int .i64 a1, .string a2] w fun e w' => ∃ v0_ : Value, e = .returned (v0_) ∧ Kd.R Kd.string 9 w' w.heap.size (fun _ => True) v0_ r ∧ Below w.heap.size w w' := by
 have HR0 := Aside0.mk hr0
 have HC0 := Aside0.mk hc0
 clear hr0 hc0
 have HB := Aside0.mk (Below.refl w.heap.size w)
 have H : ((spec_AllFiles.f k l0 a1).bind fun t212 => (spec_FilesNamed.l0 k a2 (([] : List ByteArray)) t212 0)) = some r := h
 clear h
 obtain ⟨y209, hy209⟩ : ∃ y_ : List ByteArray, y_ = (([] : List ByteArray)) := ⟨_, rfl⟩
 replace H : ((spec_AllFiles.f k l0 a1).bind fun t212 => (spec_FilesNamed.l0 k a2 y209 t212 0)) = some r := by first | (rw [hy209]; with_reducible exact H) | (have H2_ := (Option.bind_some _ _).symm.trans H; rw [hy209]; with_reducible exact H2_) | (have H2_ := (Option.bind_some _ _).symm.trans H; with_reducible exact H2_) | with_reducible exact H | (rw [hy209]; exact H) | exact H
 have Ny209 := Aside0.mk hy209
 clear hy209
 replace H := Option.bind_eq_some_iff.mp H
 obtain ⟨t212, A40, H⟩ := H
 replace H : (spec_FilesNamed.l0 k a2 y209 t212 0) = some r := H
 have A4 := Aside0.mk A40
 clear A40
 have H' := Aside0.mk H
 clear H
 go_enter Tryz.func9, Tryz.ntmps9
 go_wp2_with (first | ((with_reducible refine gate_dst (N := 12) rfl ?_); refine Kd.R_lit Kd.string _ 9 ?hg (N := 12) ?hd (xs := ([] : List ByteArray)) (inner := []) (ok := fun _ => True) (okp := fun _ => True) ?hr ?hp (fun _ hk => hk) trivial (Below.refl _ _) (Nat.le_refl _) (by simp) ?_; (case hd => rfl); (case hg => rfl); (case hr => first | (go_simp; done) | (go_simp; rfl)); (case hp => exact (Reps.none _ _)); intro v210 w5 ho6 hb hg_ hnew_; clear hg_ hnew_; (first | rw [← Ny209.out] at ho6 | (simp only [Int.reduceToNat] at ho6; rw [← Ny209.out] at ho6)); have HO211 := Aside0.mk (Kd.R_lower ho6 (below_size hb_)); replace HB := Aside0.mk (below_step hb_ hb); clear hb ho6) | ((with_reducible refine gate_callee (f := 29) rfl ?_); refine goesL_ (some 15) rfl rfl Tryz.func29 (by kernel_rfl) rfl #[.slice A0 l0.length c0, .int .i64 a1] rfl sl_ ?_; (with_reducible refine (spec_AllFiles.calls k _ _ l0 a1 t212 _ ?side1 ?side2 A4.out).mono ?_); (case side1 => exact kC_ (Kd.C_below HR0.out HB.out)); (case side2 => exact HC0.out); rintro e w7 ⟨v213, rfl, ho0, hb⟩; refine ⟨_, rfl, ?_⟩; have HO214 := Aside0.mk (Kd.R_lower (Kd.R_new' ho0 (Kd.R_lt (kR_ HO211.out))) (below_size hb_)); replace HO211 := Aside0.mk (Kd.R_elder' (kR_ HO211.out) (Kd.R_base ho0) hb); replace HB := Aside0.mk (below_step hb_ hb); (try clear hb); (try clear hk); (try clear ho0)))
 go_loopg [7, 9] k (fun kq v7 v9 w' => ∃ (x7_1 : List ByteArray) (x9_1 : Int), v9 = .int .i64 x9_1 ∧ Aside0 (spec_FilesNamed.l0 kq a2 x7_1 t212 x9_1 = some r) ∧ Aside0 (kq ≤ k) ∧ Aside0 (Kd.R Kd.string 9 w' w.heap.size (fun k_ => some k_ ≠ (v213 : Value).ownBlock) v7 x7_1) ∧ Aside0 (Kd.R Kd.string 9 w' w.heap.size (fun k_ => some k_ ≠ (v7 : Value).ownBlock) v213 t212) ∧ Aside0 (Below w.heap.size w w'))
 case atStart => exact ⟨(y209), (0), (by first | rfl | (simp; done) | (simp [*]; done)), H', ⟨Nat.le_refl _⟩, ⟨by (with_reducible repeat (first | apply Kd.R_alloc | apply Kd.R_drewN | apply Kd.R_drew)); exact Kd.R_mono HO211.out (fun _ hk => hk.2)⟩, ⟨by (with_reducible repeat (first | apply Kd.R_alloc | apply Kd.R_drewN | apply Kd.R_drew)); exact Kd.R_mono HO214.out (fun _ hk => hk.2)⟩, ⟨hb_⟩⟩
 case round =>
  clear H'
  try clear c2
  try clear p2
  obtain ⟨x7_1, x9_1, rfl, HA, HK1, HO_7, HO_8, HB⟩ := hrel
  cases gk with
  | zero => exact absurd HA.out (by simp [spec_FilesNamed.l0])
  | succ k1 =>
   have H := HA.out
   clear HA
   simp only [spec_FilesNamed.l0] at H
   by_cases c8 : x9_1 < (t212.length : Int)
   ·rw [if_pos c8] at H
    have c8b0 : decide (x9_1 < (t212.length : Int)) = true := decide_eq_true c8
    clear c8
    by_cases c9 : 0 ≤ x9_1
    ·rw [if_pos c9] at H
     have c9b0 : decide (0 ≤ x9_1) = true := decide_eq_true c9
     clear c9
     replace H := Option.bind_eq_some_iff.mp H
     obtain ⟨⟨t216, t217⟩, A100, H⟩ := H
     replace H : (if (t216.length : Int) > 0 then (if 0 ≤ (wrap64 ((t216.length : Int) - 1)) then (if (wrap64 ((t216.length : Int) - 1)) < (t216.length : Int) then (if (rdOf ByteArray.empty t216 (wrap64 ((t216.length : Int) - 1))).toList = a2.toList then (if x7_1.length < 8796093022208 then (spec_FilesNamed.l0 k1 a2 (x7_1 ++ [rdOf ByteArray.empty t212 x9_1]) t212 (wrap64 (x9_1 + 1))) else (none)) else (spec_FilesNamed.l0 k1 a2 x7_1 t212 (wrap64 (x9_1 + 1)))) else (none)) else (none)) else (spec_FilesNamed.l0 k1 a2 x7_1 t212 (wrap64 (x9_1 + 1)))) = some r := H
     have A10 := Aside0.mk A100
     clear A100
     by_cases c11 : (t216.length : Int) > 0
     ·rw [if_pos c11] at H
      have c11b0 : decide (0 < (t216.length : Int)) = true := decide_eq_true c11
      have c11b1 : decide (0 < t216.length) = true := decide_eq_true (by omega)
      clear c11
      obtain ⟨ji12, hji12⟩ : ∃ j_ : Int, (wrap64 ((t216.length : Int) - 1)) = j_ := ⟨_, rfl⟩
      replace H : (if 0 ≤ (ji12) then (if (ji12) < (t216.length : Int) then (if (rdOf ByteArray.empty t216 (ji12)).toList = a2.toList then (if x7_1.length < 8796093022208 then (spec_FilesNamed.l0 k1 a2 (x7_1 ++ [rdOf ByteArray.empty t212 x9_1]) t212 (wrap64 (x9_1 + 1))) else (none)) else (spec_FilesNamed.l0 k1 a2 x7_1 t212 (wrap64 (x9_1 + 1)))) else (none)) else (none)) = some r := by first | (rw [hji12] at H; exact H) | (simp only [hji12] at H ⊢; exact H)
      (try rw [hji12] at A10)
      have hji12w : (IntKind.i64.wrap ((t216.length : Int) - 1)) = ji12 := (i64_w _).trans hji12
      by_cases c13 : 0 ≤ (ji12)
      ·rw [if_pos c13] at H
       have c13b0 : decide (0 ≤ (ji12)) = true := decide_eq_true c13
       clear c13
       by_cases c14 : (ji12) < (t216.length : Int)
       ·rw [if_pos c14] at H
        have c14b0 : decide ((ji12) < (t216.length : Int)) = true := decide_eq_true c14
        clear c14
        by_cases c15 : (rdOf ByteArray.empty t216 (ji12)).toList = a2.toList
        ·rw [if_pos c15] at H
         have c15b0 : ((rdOf ByteArray.empty t216 (ji12)).toList == a2.toList) = true := beq_iff_eq.mpr c15
         have c15b1 : ((rdOf ByteArray.empty t216 (ji12)).toList != a2.toList) = false := bne_eq_false_iff_eq.mpr c15
         clear c15
         by_cases c16 : x7_1.length < 8796093022208
         ·rw [if_pos c16] at H
          have LMc16 := Aside0.mk c16
          clear c16
          obtain ⟨y222, hy222⟩ : ∃ y_ : List ByteArray, y_ = (x7_1 ++ [rdOf ByteArray.empty t212 x9_1]) := ⟨_, rfl⟩
          replace H : (spec_FilesNamed.l0 k1 a2 y222 t212 (wrap64 (x9_1 + 1))) = some r := by first | (rw [hy222]; with_reducible exact H) | (have H2_ := (Option.bind_some _ _).symm.trans H; rw [hy222]; with_reducible exact H2_) | (have H2_ := (Option.bind_some _ _).symm.trans H; with_reducible exact H2_) | with_reducible exact H | (rw [hy222]; exact H) | exact H
          have Ny222 := Aside0.mk hy222
          clear hy222
          have H' := Aside0.mk H
          clear H
          obtain ⟨Ao17, co17, eo17⟩ := Kd.R_slice HO_8.out
          subst eo17
          have p215 : 0 ≤ (x9_1 : Int) := of_decide_eq_true ma_
          have q215 : x9_1 < (t212.length : Int) := of_decide_eq_true ma_
          obtain ⟨ad215, e215, hx215_0⟩ := Kd.at_string (Kd.R_reads' HO_8.out).2.2 x9_1 p215 q215
          cases e215
          replace p215 := eq_true p215
          replace q215 := eq_true q215
          go_wp2_with (first | ((with_reducible refine gate_callee (f := 30) rfl ?_); refine goesL_ (some 27) rfl rfl Tryz.func30 (by kernel_rfl) rfl #[.string (rdOf ByteArray.empty t212 x9_1)] rfl sl_ ?_; (with_reducible refine (spec_PathParts.calls k1 (rdOf ByteArray.empty t212 x9_1) t216 t217 _ A10.out).mono ?_); rintro e w18 ⟨v218, rfl, ho0, hb⟩; refine ⟨_, rfl, ?_⟩; have HO219 := Aside0.mk (Kd.R_lower (Kd.R_new' (Kd.R_new' ho0 (Kd.R_lt (kR_ HO_7.out))) (Kd.R_lt (kR_ HO_8.out))) (below_size hb_)); replace HO_7 := Aside0.mk (Kd.R_elder' (kR_ HO_7.out) (Kd.R_base ho0) hb); replace HO_8 := Aside0.mk (Kd.R_elder' (kR_ HO_8.out) (Kd.R_base ho0) hb); replace HB := Aside0.mk (below_step hb_ hb); (try clear hb); (try clear hk); (try clear ho0); obtain ⟨Ao19, co19, eo19⟩ := Kd.R_slice HO219.out; subst eo19; have p220 : 0 ≤ ((ji12) : Int) := of_decide_eq_true ma_; have q220 : (ji12) < (t216.length : Int) := of_decide_eq_true ma_; obtain ⟨ad220, e220, hx220_0⟩ := Kd.at_string (Kd.R_reads' HO219.out).2.2 (ji12) p220 q220; cases e220; replace p220 := eq_true p220; replace q220 := eq_true q220; have p221 : 0 ≤ (x9_1 : Int) := of_decide_eq_true ma_; have q221 : x9_1 < (t212.length : Int) := of_decide_eq_true ma_; obtain ⟨ad221, e221, hx221_0⟩ := Kd.at_string (Kd.R_reads' HO_8.out).2.2 x9_1 p221 q221; obtain rfl : ad215 = ad221 := (by injection e221); replace p221 := eq_true p221; replace q221 := eq_true q221) | ((with_reducible refine gate_builtin (b := .append) (xs := #[.tmp 43, .tmp 48]) rfl ?_); at_builtin; refine Kd.R_append Kd.string (w0 := w) w.heap.size rfl (.tmp 43) (.tmp 48) 24 9 (.string ⟨#[]⟩) 16 rfl Tryz.underlying24 info9 rfl (by decide) (by omega) u7 x7_1 (rdOf ByteArray.empty t212 x9_1) [.string (rdOf ByteArray.empty t212 x9_1)] (fun k_ => some k_ ≠ (.slice (some ad215) t212.length co17 : Value).ownBlock ∧ some k_ ≠ (.slice (some ad220) t216.length co19 : Value).ownBlock) (fun _ => False) rfl rfl ?aP (fun _ hk => hk.elim) ?aF ?aO ?aB ?aS ?aL ?_; (case aP => exact rfl); (case aB => exact hb_); (case aF => exact (fun k_ hk => ⟨Kd.fresh' (Kd.R_lt (kR_ HO_8.out)) k_ hk, Kd.fresh' (Kd.R_lt (kR_ HO219.out)) k_ hk⟩)); (case aO => exact (kR_ HO_7.out)); (case aS => exact (below_size hb_)); (case aL => have := LMc16.out; omega); intro v223 w20 ho hb hg hat; rw [← Ny222.out] at ho; have n0_ := Aside0.mk (Kd.R_after (ok := (fun k_ => some k_ ≠ (.slice (some ad220) t216.length co19 : Value).ownBlock)) (by (with_reducible repeat (first | apply Kd.R_alloc | apply Kd.R_drewN | apply Kd.R_drew)); exact Kd.R_mono HO_8.out (fun _ hk => ⟨hk.2, hk.1⟩)) hg hat); have n1_ := Aside0.mk (Kd.R_after (ok := (fun k_ => some k_ ≠ (.slice (some ad215) t212.length co17 : Value).ownBlock)) (by (with_reducible repeat (first | apply Kd.R_alloc | apply Kd.R_drewN | apply Kd.R_drew)); exact Kd.R_mono HO219.out (fun _ hk => ⟨hk.2, hk.1.2⟩)) hg hat); have n2_ := Aside0.mk (hb); have n3_ := Aside0.mk (ho); clear HO_8; clear HO219; clear HB; clear HO_7; have HO_8 := n0_; have HO219 := n1_; have HB := n2_; have HO224 := n3_; clear n0_ n1_ n2_ n3_; clear ho hb hg hat))
          go_roundg k1
          case measure => have := HK1.out; omega
          case rel => exact ⟨(y222), (wrap64 (x9_1 + 1)), (by first | rfl | (simp; done) | (simp [*]; done)), H', ⟨by have := HK1.out; omega⟩, ⟨by (with_reducible repeat (first | apply Kd.R_alloc | apply Kd.R_drewN | apply Kd.R_drew)); exact Kd.R_mono HO224.out (fun _ hk => hk.1)⟩, ⟨by (with_reducible repeat (first | apply Kd.R_alloc | apply Kd.R_drewN | apply Kd.R_drew)); exact Kd.R_mono HO_8.out (fun _ hk => hk.2)⟩, ⟨hb_⟩⟩
         ·rw [if_neg c16] at H
          exact absurd H (by simp)
        ·rw [if_neg c15] at H
         have c15b0 : ((rdOf ByteArray.empty t216 (ji12)).toList == a2.toList) = false := beq_eq_false_iff_ne.mpr c15
         have c15b1 : ((rdOf ByteArray.empty t216 (ji12)).toList != a2.toList) = true := bne_iff_ne.mpr c15
         have H' := Aside0.mk H
         clear H
         obtain ⟨Ao21, co21, eo21⟩ := Kd.R_slice HO_8.out
         subst eo21
         have p215 : 0 ≤ (x9_1 : Int) := of_decide_eq_true ma_
         have q215 : x9_1 < (t212.length : Int) := of_decide_eq_true ma_
         obtain ⟨ad215, e215, hx215_0⟩ := Kd.at_string (Kd.R_reads' HO_8.out).2.2 x9_1 p215 q215
         cases e215
         replace p215 := eq_true p215
         replace q215 := eq_true q215
         go_wp2_with (first | ((with_reducible refine gate_callee (f := 30) rfl ?_); refine goesL_ (some 27) rfl rfl Tryz.func30 (by kernel_rfl) rfl #[.string (rdOf ByteArray.empty t212 x9_1)] rfl sl_ ?_; (with_reducible refine (spec_PathParts.calls k1 (rdOf ByteArray.empty t212 x9_1) t216 t217 _ A10.out).mono ?_); rintro e w22 ⟨v218, rfl, ho0, hb⟩; refine ⟨_, rfl, ?_⟩; have HO219 := Aside0.mk (Kd.R_lower (Kd.R_new' (Kd.R_new' ho0 (Kd.R_lt (kR_ HO_7.out))) (Kd.R_lt (kR_ HO_8.out))) (below_size hb_)); replace HO_7 := Aside0.mk (Kd.R_elder' (kR_ HO_7.out) (Kd.R_base ho0) hb); replace HO_8 := Aside0.mk (Kd.R_elder' (kR_ HO_8.out) (Kd.R_base ho0) hb); replace HB := Aside0.mk (below_step hb_ hb); (try clear hb); (try clear ho0); obtain ⟨Ao23, co23, eo23⟩ := Kd.R_slice HO219.out; subst eo23; have p220 : 0 ≤ ((ji12) : Int) := of_decide_eq_true ma_; have q220 : (ji12) < (t216.length : Int) := of_decide_eq_true ma_; obtain ⟨ad220, e220, hx220_0⟩ := Kd.at_string (Kd.R_reads' HO219.out).2.2 (ji12) p220 q220; cases e220; replace p220 := eq_true p220; replace q220 := eq_true q220))
         go_roundg k1
         case measure => have := HK1.out; omega
         case rel => exact ⟨(x7_1), (wrap64 (x9_1 + 1)), (by first | rfl | (simp; done) | (simp [*]; done)), H', ⟨by have := HK1.out; omega⟩, ⟨by (with_reducible repeat (first | apply Kd.R_alloc | apply Kd.R_drewN | apply Kd.R_drew)); exact Kd.R_mono HO_7.out (fun _ hk => hk.1)⟩, ⟨by (with_reducible repeat (first | apply Kd.R_alloc | apply Kd.R_drewN | apply Kd.R_drew)); exact Kd.R_mono HO_8.out (fun _ hk => hk.1)⟩, ⟨hb_⟩⟩
       ·rw [if_neg c14] at H
        exact absurd H (by simp)
      ·rw [if_neg c13] at H
       exact absurd H (by simp)
     ·rw [if_neg c11] at H
      have c11b0 : decide (0 < (t216.length : Int)) = false := decide_eq_false c11
      have c11b1 : decide (0 < t216.length) = false := decide_eq_false (by omega)
      clear c11
      have H' := Aside0.mk H
      clear H
      obtain ⟨Ao24, co24, eo24⟩ := Kd.R_slice HO_8.out
      subst eo24
      have p215 : 0 ≤ (x9_1 : Int) := of_decide_eq_true ma_
      have q215 : x9_1 < (t212.length : Int) := of_decide_eq_true ma_
      obtain ⟨ad215, e215, hx215_0⟩ := Kd.at_string (Kd.R_reads' HO_8.out).2.2 x9_1 p215 q215
      cases e215
      replace p215 := eq_true p215
      replace q215 := eq_true q215
      go_wp2_with (first | ((with_reducible refine gate_callee (f := 30) rfl ?_); refine goesL_ (some 27) rfl rfl Tryz.func30 (by kernel_rfl) rfl #[.string (rdOf ByteArray.empty t212 x9_1)] rfl sl_ ?_; (with_reducible refine (spec_PathParts.calls k1 (rdOf ByteArray.empty t212 x9_1) t216 t217 _ A10.out).mono ?_); rintro e w25 ⟨v218, rfl, ho0, hb⟩; refine ⟨_, rfl, ?_⟩; have HO219 := Aside0.mk (Kd.R_lower (Kd.R_new' (Kd.R_new' ho0 (Kd.R_lt (kR_ HO_7.out))) (Kd.R_lt (kR_ HO_8.out))) (below_size hb_)); replace HO_7 := Aside0.mk (Kd.R_elder' (kR_ HO_7.out) (Kd.R_base ho0) hb); replace HO_8 := Aside0.mk (Kd.R_elder' (kR_ HO_8.out) (Kd.R_base ho0) hb); replace HB := Aside0.mk (below_step hb_ hb); (try clear hb); (try clear ho0); obtain ⟨Ao26, co26, eo26⟩ := Kd.R_slice HO219.out; subst eo26))
      go_roundg k1
      case measure => have := HK1.out; omega
      case rel => exact ⟨(x7_1), (wrap64 (x9_1 + 1)), (by first | rfl | (simp; done) | (simp [*]; done)), H', ⟨by have := HK1.out; omega⟩, ⟨by (with_reducible repeat (first | apply Kd.R_alloc | apply Kd.R_drewN | apply Kd.R_drew)); exact Kd.R_mono HO_7.out (fun _ hk => hk.1)⟩, ⟨by (with_reducible repeat (first | apply Kd.R_alloc | apply Kd.R_drewN | apply Kd.R_drew)); exact Kd.R_mono HO_8.out (fun _ hk => hk.1)⟩, ⟨hb_⟩⟩
    ·rw [if_neg c9] at H
     exact absurd H (by simp)
   ·rw [if_neg c8] at H
    have c8b0 : decide (x9_1 < (t212.length : Int)) = false := decide_eq_false c8
    clear c8
    obtain rfl := Option.some.inj H
    obtain ⟨Ao27, co27, eo27⟩ := Kd.R_slice HO_8.out
    subst eo27
    go_wp2
    go_ret
    exact ⟨_, er_, by (with_reducible repeat (first | apply Kd.R_alloc | apply Kd.R_drewN | apply Kd.R_drew)); exact Kd.R_mono HO_7.out (fun _ hk => trivial), hb_⟩
/-! ### impl_FilesNamed: function 11 -/
def impl_FilesNamed.l0 : Nat → ByteArray → List ByteArray → List ByteArray → Int → Int → Option (List ByteArray)
 | 0, _, _, _, _, _ => none
 | k + 1, x2, x7, x14, x15, x16 => if x16 < x15 then (if 0 ≤ x16 then (if x16 < (x14.length : Int) then ((impl_PathParts.f k (rdOf ByteArray.empty x14 x16)).bind fun bt341 => (if 0 ≤ (wrap64 ((bt341.1.length : Int) - 1)) then (if (wrap64 ((bt341.1.length : Int) - 1)) < (bt341.1.length : Int) then (if (rdOf ByteArray.empty bt341.1 (wrap64 ((bt341.1.length : Int) - 1))).toList = x2.toList then (if x7.length < 8796093022208 then (impl_FilesNamed.l0 k x2 (x7 ++ [rdOf ByteArray.empty x14 x16]) x14 x15 (wrap64 (x16 + 1))) else (none)) else (impl_FilesNamed.l0 k x2 x7 x14 x15 (wrap64 (x16 + 1)))) else (none)) else (none))) else (none)) else (none)) else (some x7)
def impl_FilesNamed.f (k : Nat) (l0 : List (S46)) (a1 : Int) (a2 : ByteArray) : Option (List ByteArray) := (impl_AllFiles.f k l0 a1).bind fun t337 => (impl_FilesNamed.l0 k a2 ([] : List ByteArray) t337 (t337.length : Int) 0)
theorem impl_FilesNamed.mono_l : ∀ k, (∀ y0 y1 y2 y3 y4, LeO (impl_FilesNamed.l0 k y0 y1 y2 y3 y4) (impl_FilesNamed.l0 (k + 1) y0 y1 y2 y3 y4))
 | 0 => fun _ _ _ _ _ r h => by simp [impl_FilesNamed.l0] at h
 | k + 1 => by
  have ih0 := impl_FilesNamed.mono_l k
  ·intro y0 y1 y2 y3 y4
   unfold impl_FilesNamed.l0
   repeat' first
   | (with_reducible exact ih0 _ _ _ _ _)
   | (with_reducible exact impl_AllFiles.mono _ _ _)
   | (with_reducible exact impl_PathParts.mono _ _)
   | (with_reducible exact LeO.refl _)
   | (with_reducible exact LeO.none _)
   | (with_reducible refine LeO.ite ?_ ?_)
   | (with_reducible refine LeO.bind ?_ (fun _ => ?_))
   | exact ih0 _ _ _ _ _
   | exact impl_AllFiles.mono _ _ _
   | exact impl_PathParts.mono _ _
   | exact LeO.none _
   | refine LeO.ite ?_ ?_
   | refine LeO.bind ?_ (fun _ => ?_)
theorem impl_FilesNamed.mono : ∀ a0 a1 a2 k, LeO (impl_FilesNamed.f k a0 a1 a2) (impl_FilesNamed.f (k + 1) a0 a1 a2) := by
 intro a0 a1 a2 k
 have ih0 := impl_FilesNamed.mono_l k
 unfold impl_FilesNamed.f
 repeat' first
   | (with_reducible exact ih0 _ _ _ _ _)
   | (with_reducible exact impl_AllFiles.mono _ _ _)
   | (with_reducible exact impl_PathParts.mono _ _)
   | (with_reducible exact LeO.refl _)
   | (with_reducible exact LeO.none _)
   | (with_reducible refine LeO.ite ?_ ?_)
   | (with_reducible refine LeO.bind ?_ (fun _ => ?_))
   | exact ih0 _ _ _ _ _
   | exact impl_AllFiles.mono _ _ _
   | exact impl_PathParts.mono _ _
   | exact LeO.none _
   | refine LeO.ite ?_ ?_
   | refine LeO.bind ?_ (fun _ => ?_)
set_option maxHeartbeats 8000000 in
set_option maxRecDepth 100000 in
theorem impl_FilesNamed.calls (k : Nat) (A0 : Option Addr) (c0 : Nat) (l0 : List (S46)) (a1 : Int) (a2 : ByteArray) (r : List ByteArray) (w : World) (hr0 : Kd.C k46 w A0 l0.length l0) (hc0 : l0.length ≤ c0) (hG : GT w) (h : impl_FilesNamed.f k l0 a1 a2 = some r) :
  Calls Tryz.prog 11 #[.slice A0 l0.length c0, .int .i64 a1, .string a2] w fun e w' => ∃ v0_ : Value, e = .returned (v0_) ∧ Kd.R Kd.string 9 w' w.heap.size (fun _ => True) v0_ r ∧ Below w.heap.size w w' := by
 have HR0 := Aside0.mk hr0
 have HC0 := Aside0.mk hc0
 clear hr0 hc0
 have HB := Aside0.mk (Below.refl w.heap.size w)
 have H : ((impl_AllFiles.f k l0 a1).bind fun t337 => (impl_FilesNamed.l0 k a2 ([] : List ByteArray) t337 (t337.length : Int) 0)) = some r := h
 clear h
 replace H := Option.bind_eq_some_iff.mp H
 obtain ⟨t337, A40, H⟩ := H
 replace H : (impl_FilesNamed.l0 k a2 ([] : List ByteArray) t337 (t337.length : Int) 0) = some r := H
 have A4 := Aside0.mk A40
 clear A40
 have H' := Aside0.mk H
 clear H
 go_enter Tryz.func11, Tryz.ntmps11
 go_wp2_with (first | ((with_reducible refine gate_callee (f := 32) rfl ?_); refine goesL_ (some 14) rfl rfl Tryz.func32 (by kernel_rfl) rfl #[.slice A0 l0.length c0, .int .i64 a1] rfl sl_ ?_; (with_reducible refine (impl_AllFiles.calls k _ _ l0 a1 t337 _ ?side1 ?side2 (GT_on hb_ hG) A4.out).mono ?_); (case side1 => exact kC_ HR0.out); (case side2 => exact HC0.out); rintro e w5 ⟨v338, rfl, ho0, hb⟩; refine ⟨_, rfl, ?_⟩; have HO339 := Aside0.mk (Kd.R_lower ho0 (below_size hb_)); replace HB := Aside0.mk (below_step hb_ hb); (try clear hb); (try clear ho0); obtain ⟨Ao6, co6, eo6⟩ := Kd.R_slice HO339.out; subst eo6))
 go_loopg [7, 16] k (fun kq v7 v16 w' => ∃ (x7_1 : List ByteArray) (x16_1 : Int), v16 = .int .i64 x16_1 ∧ Aside0 (impl_FilesNamed.l0 kq a2 x7_1 t337 (t337.length : Int) x16_1 = some r) ∧ Aside0 (kq ≤ k) ∧ Aside0 (Kd.R Kd.string 9 w' w.heap.size (fun k_ => some k_ ≠ ((.slice Ao6 t337.length co6) : Value).ownBlock) v7 x7_1) ∧ Aside0 (Kd.R Kd.string 9 w' w.heap.size (fun k_ => some k_ ≠ (v7 : Value).ownBlock) (.slice Ao6 t337.length co6) t337) ∧ Aside0 (Below w.heap.size w w'))
 case atStart => exact ⟨(([] : List ByteArray)), (0), (by first | rfl | (simp; done) | (simp [*]; done)), H', ⟨Nat.le_refl _⟩, ⟨by first | exact Kd.R_nil _ _ _ _ _ | exact Kd.N_nil _ _ _ _ _ | exact Kd.V_nil _ _ _ _ _ | exact Kd.Q_nil _ _ _ _ _ | exact Kd.S_nil _ _ _ _ _⟩, ⟨by (with_reducible repeat (first | apply Kd.R_alloc | apply Kd.R_drewN | apply Kd.R_drew)); exact Kd.R_mono HO339.out (fun _ hk => (by simp [Value.ownBlock]))⟩, ⟨hb_⟩⟩
 case round =>
  clear H'
  try clear c1
  try clear p2
  try clear c3
  obtain ⟨x7_1, x16_1, rfl, HA, HK1, HO_7, HO_14, HB⟩ := hrel
  cases gk with
  | zero => exact absurd HA.out (by simp [impl_FilesNamed.l0])
  | succ k1 =>
   have H := HA.out
   clear HA
   simp only [impl_FilesNamed.l0] at H
   by_cases c7 : x16_1 < (t337.length : Int)
   ·rw [if_pos c7] at H
    have c7b0 : decide (x16_1 < (t337.length : Int)) = true := decide_eq_true c7
    clear c7
    by_cases c8 : 0 ≤ x16_1
    ·rw [if_pos c8] at H
     have c8b0 : decide (0 ≤ x16_1) = true := decide_eq_true c8
     clear c8
     by_cases c9 : x16_1 < (t337.length : Int)
     ·rw [if_pos c9] at H
      have c9b0 : decide (x16_1 < (t337.length : Int)) = true := decide_eq_true c9
      clear c9
      replace H := Option.bind_eq_some_iff.mp H
      obtain ⟨⟨t341, t342⟩, A100, H⟩ := H
      replace H : (if 0 ≤ (wrap64 ((t341.length : Int) - 1)) then (if (wrap64 ((t341.length : Int) - 1)) < (t341.length : Int) then (if (rdOf ByteArray.empty t341 (wrap64 ((t341.length : Int) - 1))).toList = a2.toList then (if x7_1.length < 8796093022208 then (impl_FilesNamed.l0 k1 a2 (x7_1 ++ [rdOf ByteArray.empty t337 x16_1]) t337 (t337.length : Int) (wrap64 (x16_1 + 1))) else (none)) else (impl_FilesNamed.l0 k1 a2 x7_1 t337 (t337.length : Int) (wrap64 (x16_1 + 1)))) else (none)) else (none)) = some r := H
      have A10 := Aside0.mk A100
      clear A100
      obtain ⟨ji11, hji11⟩ : ∃ j_ : Int, (wrap64 ((t341.length : Int) - 1)) = j_ := ⟨_, rfl⟩
      replace H : (if 0 ≤ (ji11) then (if (ji11) < (t341.length : Int) then (if (rdOf ByteArray.empty t341 (ji11)).toList = a2.toList then (if x7_1.length < 8796093022208 then (impl_FilesNamed.l0 k1 a2 (x7_1 ++ [rdOf ByteArray.empty t337 x16_1]) t337 (t337.length : Int) (wrap64 (x16_1 + 1))) else (none)) else (impl_FilesNamed.l0 k1 a2 x7_1 t337 (t337.length : Int) (wrap64 (x16_1 + 1)))) else (none)) else (none)) = some r := by first | (rw [hji11] at H; exact H) | (simp only [hji11] at H ⊢; exact H)
      (try rw [hji11] at A10)
      have hji11w : (IntKind.i64.wrap ((t341.length : Int) - 1)) = ji11 := (i64_w _).trans hji11
      by_cases c12 : 0 ≤ (ji11)
      ·rw [if_pos c12] at H
       have c12b0 : decide (0 ≤ (ji11)) = true := decide_eq_true c12
       clear c12
       by_cases c13 : (ji11) < (t341.length : Int)
       ·rw [if_pos c13] at H
        have c13b0 : decide ((ji11) < (t341.length : Int)) = true := decide_eq_true c13
        clear c13
        by_cases c14 : (rdOf ByteArray.empty t341 (ji11)).toList = a2.toList
        ·rw [if_pos c14] at H
         have c14b0 : ((rdOf ByteArray.empty t341 (ji11)).toList == a2.toList) = true := beq_iff_eq.mpr c14
         have c14b1 : ((rdOf ByteArray.empty t341 (ji11)).toList != a2.toList) = false := bne_eq_false_iff_eq.mpr c14
         clear c14
         by_cases c15 : x7_1.length < 8796093022208
         ·rw [if_pos c15] at H
          have LMc15 := Aside0.mk c15
          clear c15
          obtain ⟨y346, hy346⟩ : ∃ y_ : List ByteArray, y_ = (x7_1 ++ [rdOf ByteArray.empty t337 x16_1]) := ⟨_, rfl⟩
          replace H : (impl_FilesNamed.l0 k1 a2 y346 t337 (t337.length : Int) (wrap64 (x16_1 + 1))) = some r := by first | (rw [hy346]; with_reducible exact H) | (have H2_ := (Option.bind_some _ _).symm.trans H; rw [hy346]; with_reducible exact H2_) | (have H2_ := (Option.bind_some _ _).symm.trans H; with_reducible exact H2_) | with_reducible exact H | (rw [hy346]; exact H) | exact H
          have Ny346 := Aside0.mk hy346
          clear hy346
          have H' := Aside0.mk H
          clear H
          have p340 : 0 ≤ (x16_1 : Int) := of_decide_eq_true ma_
          have q340 : x16_1 < (t337.length : Int) := of_decide_eq_true ma_
          obtain ⟨ad340, e340, hx340_0⟩ := Kd.at_string (Kd.R_reads' HO_14.out).2.2 x16_1 p340 q340
          cases e340
          replace p340 := eq_true p340
          replace q340 := eq_true q340
          go_wp2_with (first | ((with_reducible refine gate_callee (f := 33) rfl ?_); refine goesL_ (some 22) rfl rfl Tryz.func33 (by kernel_rfl) rfl #[.string (rdOf ByteArray.empty t337 x16_1)] rfl sl_ ?_; (with_reducible refine (impl_PathParts.calls k1 (rdOf ByteArray.empty t337 x16_1) t341 t342 _ A10.out).mono ?_); rintro e w16 ⟨v343, rfl, ho0, hb⟩; refine ⟨_, rfl, ?_⟩; have HO344 := Aside0.mk (Kd.R_lower (Kd.R_new' (Kd.R_new' ho0 (Kd.R_lt (kR_ HO_7.out))) (Kd.R_lt (kR_ HO_14.out))) (below_size hb_)); replace HO_7 := Aside0.mk (Kd.R_elder' (kR_ HO_7.out) (Kd.R_base ho0) hb); replace HO_14 := Aside0.mk (Kd.R_elder' (kR_ HO_14.out) (Kd.R_base ho0) hb); replace HB := Aside0.mk (below_step hb_ hb); (try clear hb); (try clear hk); (try clear ho0); obtain ⟨Ao17, co17, eo17⟩ := Kd.R_slice HO344.out; subst eo17; have p345 : 0 ≤ ((ji11) : Int) := of_decide_eq_true ma_; have q345 : (ji11) < (t341.length : Int) := of_decide_eq_true ma_; obtain ⟨ad345, e345, hx345_0⟩ := Kd.at_string (Kd.R_reads' HO344.out).2.2 (ji11) p345 q345; cases e345; replace p345 := eq_true p345; replace q345 := eq_true q345) | ((with_reducible refine gate_builtin (b := .append) (xs := #[.tmp 33, .tmp 35]) rfl ?_); at_builtin; refine Kd.R_append Kd.string (w0 := w) w.heap.size rfl (.tmp 33) (.tmp 35) 24 9 (.string ⟨#[]⟩) 16 rfl Tryz.underlying24 info9 rfl (by decide) (by omega) u7 x7_1 (rdOf ByteArray.empty t337 x16_1) [.string (rdOf ByteArray.empty t337 x16_1)] (fun k_ => some k_ ≠ (.slice (some ad340) t337.length co6 : Value).ownBlock ∧ some k_ ≠ (.slice (some ad345) t341.length co17 : Value).ownBlock) (fun _ => False) rfl rfl ?aP (fun _ hk => hk.elim) ?aF ?aO ?aB ?aS ?aL ?_; (case aP => exact rfl); (case aB => exact hb_); (case aF => exact (fun k_ hk => ⟨Kd.fresh' (Kd.R_lt (kR_ HO_14.out)) k_ hk, Kd.fresh' (Kd.R_lt (kR_ HO344.out)) k_ hk⟩)); (case aO => exact (kR_ HO_7.out)); (case aS => exact (below_size hb_)); (case aL => have := LMc15.out; omega); intro v347 w18 ho hb hg hat; rw [← Ny346.out] at ho; have n0_ := Aside0.mk (Kd.R_after (ok := (fun k_ => some k_ ≠ (.slice (some ad345) t341.length co17 : Value).ownBlock)) (by (with_reducible repeat (first | apply Kd.R_alloc | apply Kd.R_drewN | apply Kd.R_drew)); exact Kd.R_mono HO_14.out (fun _ hk => ⟨hk.2, hk.1⟩)) hg hat); have n1_ := Aside0.mk (Kd.R_after (ok := (fun k_ => some k_ ≠ (.slice (some ad340) t337.length co6 : Value).ownBlock)) (by (with_reducible repeat (first | apply Kd.R_alloc | apply Kd.R_drewN | apply Kd.R_drew)); exact Kd.R_mono HO344.out (fun _ hk => ⟨hk.2, hk.1.2⟩)) hg hat); have n2_ := Aside0.mk (hb); have n3_ := Aside0.mk (ho); clear HO_14; clear HO344; clear HB; clear HO_7; have HO_14 := n0_; have HO344 := n1_; have HB := n2_; have HO348 := n3_; clear n0_ n1_ n2_ n3_; clear ho hb hg hat))
          go_roundg k1
          case measure => have := HK1.out; omega
          case rel => exact ⟨(y346), (wrap64 (x16_1 + 1)), (by first | rfl | (simp; done) | (simp [*]; done)), H', ⟨by have := HK1.out; omega⟩, ⟨by (with_reducible repeat (first | apply Kd.R_alloc | apply Kd.R_drewN | apply Kd.R_drew)); exact Kd.R_mono HO348.out (fun _ hk => hk.1)⟩, ⟨by (with_reducible repeat (first | apply Kd.R_alloc | apply Kd.R_drewN | apply Kd.R_drew)); exact Kd.R_mono HO_14.out (fun _ hk => hk.2)⟩, ⟨hb_⟩⟩
         ·rw [if_neg c15] at H
          exact absurd H (by simp)
        ·rw [if_neg c14] at H
         have c14b0 : ((rdOf ByteArray.empty t341 (ji11)).toList == a2.toList) = false := beq_eq_false_iff_ne.mpr c14
         have c14b1 : ((rdOf ByteArray.empty t341 (ji11)).toList != a2.toList) = true := bne_iff_ne.mpr c14
         have H' := Aside0.mk H
         clear H
         have p340 : 0 ≤ (x16_1 : Int) := of_decide_eq_true ma_
         have q340 : x16_1 < (t337.length : Int) := of_decide_eq_true ma_
         obtain ⟨ad340, e340, hx340_0⟩ := Kd.at_string (Kd.R_reads' HO_14.out).2.2 x16_1 p340 q340
         cases e340
         replace p340 := eq_true p340
         replace q340 := eq_true q340
         go_wp2_with (first | ((with_reducible refine gate_callee (f := 33) rfl ?_); refine goesL_ (some 22) rfl rfl Tryz.func33 (by kernel_rfl) rfl #[.string (rdOf ByteArray.empty t337 x16_1)] rfl sl_ ?_; (with_reducible refine (impl_PathParts.calls k1 (rdOf ByteArray.empty t337 x16_1) t341 t342 _ A10.out).mono ?_); rintro e w19 ⟨v343, rfl, ho0, hb⟩; refine ⟨_, rfl, ?_⟩; have HO344 := Aside0.mk (Kd.R_lower (Kd.R_new' (Kd.R_new' ho0 (Kd.R_lt (kR_ HO_7.out))) (Kd.R_lt (kR_ HO_14.out))) (below_size hb_)); replace HO_7 := Aside0.mk (Kd.R_elder' (kR_ HO_7.out) (Kd.R_base ho0) hb); replace HO_14 := Aside0.mk (Kd.R_elder' (kR_ HO_14.out) (Kd.R_base ho0) hb); replace HB := Aside0.mk (below_step hb_ hb); (try clear hb); (try clear ho0); obtain ⟨Ao20, co20, eo20⟩ := Kd.R_slice HO344.out; subst eo20; have p345 : 0 ≤ ((ji11) : Int) := of_decide_eq_true ma_; have q345 : (ji11) < (t341.length : Int) := of_decide_eq_true ma_; obtain ⟨ad345, e345, hx345_0⟩ := Kd.at_string (Kd.R_reads' HO344.out).2.2 (ji11) p345 q345; cases e345; replace p345 := eq_true p345; replace q345 := eq_true q345))
         go_roundg k1
         case measure => have := HK1.out; omega
         case rel => exact ⟨(x7_1), (wrap64 (x16_1 + 1)), (by first | rfl | (simp; done) | (simp [*]; done)), H', ⟨by have := HK1.out; omega⟩, ⟨by (with_reducible repeat (first | apply Kd.R_alloc | apply Kd.R_drewN | apply Kd.R_drew)); exact Kd.R_mono HO_7.out (fun _ hk => hk.1)⟩, ⟨by (with_reducible repeat (first | apply Kd.R_alloc | apply Kd.R_drewN | apply Kd.R_drew)); exact Kd.R_mono HO_14.out (fun _ hk => hk.1)⟩, ⟨hb_⟩⟩
       ·rw [if_neg c13] at H
        exact absurd H (by simp)
      ·rw [if_neg c12] at H
       exact absurd H (by simp)
     ·rw [if_neg c9] at H
      exact absurd H (by simp)
    ·rw [if_neg c8] at H
     exact absurd H (by simp)
   ·rw [if_neg c7] at H
    have c7b0 : decide (x16_1 < (t337.length : Int)) = false := decide_eq_false c7
    clear c7
    obtain rfl := Option.some.inj H
    go_wp2
    go_ret
    exact ⟨_, er_, by (with_reducible repeat (first | apply Kd.R_alloc | apply Kd.R_drewN | apply Kd.R_drew)); exact Kd.R_mono HO_7.out (fun _ hk => trivial), hb_⟩
/-! ### laws_FnExactFilesNamed: function 3 -/
def laws_FnExactFilesNamed.j0 : Nat → List (S42) → Int → ByteArray → List ByteArray → List ByteArray → Bool → Option (Bool)
 | 0, _, _, _, _, _, _ => none
 | k + 1, x0, x1, x2, x8, x10, x53 => if x53 = true then (some false) else ((laws_markStringS.f k x10 1).bind fun bt387 => ((laws_heldStringS.f k bt387.2 1).bind fun t389 => (if t389 < 0 then (some false) else (if t389 = bt387.1 then ((laws_toPieceS.f k x0).bind fun t390 => ((impl_FilesNamed.f k t390 x1 x2).bind fun t393 => ((laws_eqStringS.f k t393 x8).bind fun t396 => (if t396 = true then ((laws_heldStringS.f k bt387.2 1).bind fun t397 => (if t397 < 0 then (some false) else (if t397 = bt387.1 then (some true) else (some false)))) else (some false))))) else (some false)))))
def laws_FnExactFilesNamed.f (k : Nat) (l0 : List (S42)) (a1 : Int) (a2 : ByteArray) : Option (Bool) := if (a2.size : Int) > 1048576 then (some true) else ((laws_szPieceS.f k l0 1048576).bind fun t366 => (if t366 < 0 then (some true) else ((laws_toPieceS.f k l0).bind fun t367 => ((spec_FilesNamed.f k t367 a1 a2).bind fun t370 => ((laws_toPieceS.f k l0).bind fun t373 => ((impl_FilesNamed.f k t373 a1 a2).bind fun t376 => ((laws_eqStringS.f k t376 t370).bind fun t379 => (if t379 = true then ((laws_toPieceS.f k l0).bind fun t380 => ((laws_eqPieceS.f k t373 t380).bind fun t383 => (if t383 = true then ((laws_markPieceS.f k t373 1).bind fun bt384 => (if bt384.1 < 0 then (laws_FnExactFilesNamed.j0 k l0 a1 a2 t370 t376 true) else ((laws_eqStringS.f k t376 t370).bind fun t386 => (laws_FnExactFilesNamed.j0 k l0 a1 a2 t370 t376 (!t386))))) else (some false)))) else (some false)))))))))
theorem laws_FnExactFilesNamed.mono_l : ∀ k, (∀ y0 y1 y2 y3 y4 y5, LeO (laws_FnExactFilesNamed.j0 k y0 y1 y2 y3 y4 y5) (laws_FnExactFilesNamed.j0 (k + 1) y0 y1 y2 y3 y4 y5))
 | 0 => fun _ _ _ _ _ _ r h => by simp [laws_FnExactFilesNamed.j0] at h
 | k + 1 => by
  have ih0 := laws_FnExactFilesNamed.mono_l k
  ·intro y0 y1 y2 y3 y4 y5
   unfold laws_FnExactFilesNamed.j0
   repeat' first
   | (with_reducible exact ih0 _ _ _ _ _ _)
   | (with_reducible exact impl_FilesNamed.mono _ _ _ _)
   | (with_reducible exact laws_eqPieceS.mono _ _ _)
   | (with_reducible exact laws_eqStringS.mono _ _ _)
   | (with_reducible exact laws_heldStringS.mono _ _ _)
   | (with_reducible exact laws_markPieceS.mono _ _ _)
   | (with_reducible exact laws_markStringS.mono _ _ _)
   | (with_reducible exact laws_szPieceS.mono _ _ _)
   | (with_reducible exact laws_toPieceS.mono _ _)
   | (with_reducible exact spec_FilesNamed.mono _ _ _ _)
   | (with_reducible exact LeO.refl _)
   | (with_reducible exact LeO.none _)
   | (with_reducible refine LeO.ite ?_ ?_)
   | (with_reducible refine LeO.bind ?_ (fun _ => ?_))
   | exact ih0 _ _ _ _ _ _
   | exact impl_FilesNamed.mono _ _ _ _
   | exact laws_eqPieceS.mono _ _ _
   | exact laws_eqStringS.mono _ _ _
   | exact laws_heldStringS.mono _ _ _
   | exact laws_markPieceS.mono _ _ _
   | exact laws_markStringS.mono _ _ _
   | exact laws_szPieceS.mono _ _ _
   | exact laws_toPieceS.mono _ _
   | exact spec_FilesNamed.mono _ _ _ _
   | exact LeO.none _
   | refine LeO.ite ?_ ?_
   | refine LeO.bind ?_ (fun _ => ?_)
theorem laws_FnExactFilesNamed.mono : ∀ a0 a1 a2 k, LeO (laws_FnExactFilesNamed.f k a0 a1 a2) (laws_FnExactFilesNamed.f (k + 1) a0 a1 a2) := by
 intro a0 a1 a2 k
 have ih0 := laws_FnExactFilesNamed.mono_l k
 unfold laws_FnExactFilesNamed.f
 repeat' first
   | (with_reducible exact ih0 _ _ _ _ _ _)
   | (with_reducible exact impl_FilesNamed.mono _ _ _ _)
   | (with_reducible exact laws_eqPieceS.mono _ _ _)
   | (with_reducible exact laws_eqStringS.mono _ _ _)
   | (with_reducible exact laws_heldStringS.mono _ _ _)
   | (with_reducible exact laws_markPieceS.mono _ _ _)
   | (with_reducible exact laws_markStringS.mono _ _ _)
   | (with_reducible exact laws_szPieceS.mono _ _ _)
   | (with_reducible exact laws_toPieceS.mono _ _)
   | (with_reducible exact spec_FilesNamed.mono _ _ _ _)
   | (with_reducible exact LeO.refl _)
   | (with_reducible exact LeO.none _)
   | (with_reducible refine LeO.ite ?_ ?_)
   | (with_reducible refine LeO.bind ?_ (fun _ => ?_))
   | exact ih0 _ _ _ _ _ _
   | exact impl_FilesNamed.mono _ _ _ _
   | exact laws_eqPieceS.mono _ _ _
   | exact laws_eqStringS.mono _ _ _
   | exact laws_heldStringS.mono _ _ _
   | exact laws_markPieceS.mono _ _ _
   | exact laws_markStringS.mono _ _ _
   | exact laws_szPieceS.mono _ _ _
   | exact laws_toPieceS.mono _ _
   | exact spec_FilesNamed.mono _ _ _ _
   | exact LeO.none _
   | refine LeO.ite ?_ ?_
   | refine LeO.bind ?_ (fun _ => ?_)
set_option maxHeartbeats 8000000 in
set_option maxRecDepth 100000 in
theorem laws_FnExactFilesNamed.calls (k : Nat) (A0 : Option Addr) (c0 : Nat) (l0 : List (S42)) (a1 : Int) (a2 : ByteArray) (r : Bool) (w : World) (hr0 : Kd.C k42 w A0 l0.length l0) (hc0 : l0.length ≤ c0) (hG : GT w) (h : laws_FnExactFilesNamed.f k l0 a1 a2 = some r) (hrt : r = true) :
  Calls Tryz.prog 3 #[.slice A0 l0.length c0, .int .i64 a1, .string a2] w fun e w' => e = .returned (.bool r) ∧ Below w.heap.size w w' := by
 have HR0 := Aside0.mk hr0
 have HC0 := Aside0.mk hc0
 clear hr0 hc0
 have HB := Aside0.mk (Below.refl w.heap.size w)
 have H : (if (a2.size : Int) > 1048576 then (some true) else ((laws_szPieceS.f k l0 1048576).bind fun t366 => (if t366 < 0 then (some true) else ((laws_toPieceS.f k l0).bind fun t367 => ((spec_FilesNamed.f k t367 a1 a2).bind fun t370 => ((laws_toPieceS.f k l0).bind fun t373 => ((impl_FilesNamed.f k t373 a1 a2).bind fun t376 => ((laws_eqStringS.f k t376 t370).bind fun t379 => (if t379 = true then ((laws_toPieceS.f k l0).bind fun t380 => ((laws_eqPieceS.f k t373 t380).bind fun t383 => (if t383 = true then ((laws_markPieceS.f k t373 1).bind fun bt384 => (if bt384.1 < 0 then (laws_FnExactFilesNamed.j0 k l0 a1 a2 t370 t376 true) else ((laws_eqStringS.f k t376 t370).bind fun t386 => (laws_FnExactFilesNamed.j0 k l0 a1 a2 t370 t376 (!t386))))) else (some false)))) else (some false)))))))))) = some r := h
 clear h
 by_cases c4 : (a2.size : Int) > 1048576
 ·rw [if_pos c4] at H
  have c4b0 : decide (1048576 < (a2.size : Int)) = true := decide_eq_true c4
  have c4b1 : decide (1048576 < a2.size) = true := decide_eq_true (by omega)
  clear c4
  obtain rfl := Option.some.inj H
  go_enter Tryz.func3, Tryz.ntmps3
  go_wp2
  go_ret
  exact ⟨er_, hb_⟩
 ·rw [if_neg c4] at H
  have c4b0 : decide (1048576 < (a2.size : Int)) = false := decide_eq_false c4
  have c4b1 : decide (1048576 < a2.size) = false := decide_eq_false (by omega)
  clear c4
  replace H := Option.bind_eq_some_iff.mp H
  obtain ⟨t366, A50, H⟩ := H
  replace H : (if t366 < 0 then (some true) else ((laws_toPieceS.f k l0).bind fun t367 => ((spec_FilesNamed.f k t367 a1 a2).bind fun t370 => ((laws_toPieceS.f k l0).bind fun t373 => ((impl_FilesNamed.f k t373 a1 a2).bind fun t376 => ((laws_eqStringS.f k t376 t370).bind fun t379 => (if t379 = true then ((laws_toPieceS.f k l0).bind fun t380 => ((laws_eqPieceS.f k t373 t380).bind fun t383 => (if t383 = true then ((laws_markPieceS.f k t373 1).bind fun bt384 => (if bt384.1 < 0 then (laws_FnExactFilesNamed.j0 k l0 a1 a2 t370 t376 true) else ((laws_eqStringS.f k t376 t370).bind fun t386 => (laws_FnExactFilesNamed.j0 k l0 a1 a2 t370 t376 (!t386))))) else (some false)))) else (some false)))))))) = some r := H
  have A5 := Aside0.mk A50
  clear A50
  by_cases c6 : t366 < 0
  ·rw [if_pos c6] at H
   have c6b0 : decide (t366 < 0) = true := decide_eq_true c6
   clear c6
   obtain rfl := Option.some.inj H
   go_enter Tryz.func3, Tryz.ntmps3
   go_wp2_with (first | ((with_reducible refine gate_callee (f := 8) rfl ?_); refine goesL_ (some 20) rfl rfl Tryz.func8 (by kernel_rfl) rfl #[.slice A0 l0.length c0, .int .i64 1048576] rfl sl_ ?_; (with_reducible refine (laws_szPieceS.calls k _ _ l0 1048576 t366 _ ?side1 ?side2 A5.out).mono ?_); (case side1 => exact kC_ HR0.out); (case side2 => exact HC0.out); rintro e w7 ⟨rfl, hb⟩; refine ⟨_, rfl, ?_⟩; replace HB := Aside0.mk (below_step hb_ hb); (try clear hb)))
   go_ret
   exact ⟨er_, hb_⟩
  ·rw [if_neg c6] at H
   have c6b0 : decide (t366 < 0) = false := decide_eq_false c6
   clear c6
   replace H := Option.bind_eq_some_iff.mp H
   obtain ⟨t367, A80, H⟩ := H
   replace H : ((spec_FilesNamed.f k t367 a1 a2).bind fun t370 => ((laws_toPieceS.f k l0).bind fun t373 => ((impl_FilesNamed.f k t373 a1 a2).bind fun t376 => ((laws_eqStringS.f k t376 t370).bind fun t379 => (if t379 = true then ((laws_toPieceS.f k l0).bind fun t380 => ((laws_eqPieceS.f k t373 t380).bind fun t383 => (if t383 = true then ((laws_markPieceS.f k t373 1).bind fun bt384 => (if bt384.1 < 0 then (laws_FnExactFilesNamed.j0 k l0 a1 a2 t370 t376 true) else ((laws_eqStringS.f k t376 t370).bind fun t386 => (laws_FnExactFilesNamed.j0 k l0 a1 a2 t370 t376 (!t386))))) else (some false)))) else (some false)))))) = some r := H
   have A8 := Aside0.mk A80
   clear A80
   replace H := Option.bind_eq_some_iff.mp H
   obtain ⟨t370, A90, H⟩ := H
   replace H : ((laws_toPieceS.f k l0).bind fun t373 => ((impl_FilesNamed.f k t373 a1 a2).bind fun t376 => ((laws_eqStringS.f k t376 t370).bind fun t379 => (if t379 = true then ((laws_toPieceS.f k l0).bind fun t380 => ((laws_eqPieceS.f k t373 t380).bind fun t383 => (if t383 = true then ((laws_markPieceS.f k t373 1).bind fun bt384 => (if bt384.1 < 0 then (laws_FnExactFilesNamed.j0 k l0 a1 a2 t370 t376 true) else ((laws_eqStringS.f k t376 t370).bind fun t386 => (laws_FnExactFilesNamed.j0 k l0 a1 a2 t370 t376 (!t386))))) else (some false)))) else (some false))))) = some r := H
   have A9 := Aside0.mk A90
   clear A90
   replace H := Option.bind_eq_some_iff.mp H
   obtain ⟨t373, A100, H⟩ := H
   replace H : ((impl_FilesNamed.f k t373 a1 a2).bind fun t376 => ((laws_eqStringS.f k t376 t370).bind fun t379 => (if t379 = true then ((laws_toPieceS.f k l0).bind fun t380 => ((laws_eqPieceS.f k t373 t380).bind fun t383 => (if t383 = true then ((laws_markPieceS.f k t373 1).bind fun bt384 => (if bt384.1 < 0 then (laws_FnExactFilesNamed.j0 k l0 a1 a2 t370 t376 true) else ((laws_eqStringS.f k t376 t370).bind fun t386 => (laws_FnExactFilesNamed.j0 k l0 a1 a2 t370 t376 (!t386))))) else (some false)))) else (some false)))) = some r := H
   have A10 := Aside0.mk A100
   clear A100
   replace H := Option.bind_eq_some_iff.mp H
   obtain ⟨t376, A110, H⟩ := H
   replace H : ((laws_eqStringS.f k t376 t370).bind fun t379 => (if t379 = true then ((laws_toPieceS.f k l0).bind fun t380 => ((laws_eqPieceS.f k t373 t380).bind fun t383 => (if t383 = true then ((laws_markPieceS.f k t373 1).bind fun bt384 => (if bt384.1 < 0 then (laws_FnExactFilesNamed.j0 k l0 a1 a2 t370 t376 true) else ((laws_eqStringS.f k t376 t370).bind fun t386 => (laws_FnExactFilesNamed.j0 k l0 a1 a2 t370 t376 (!t386))))) else (some false)))) else (some false))) = some r := H
   have A11 := Aside0.mk A110
   clear A110
   replace H := Option.bind_eq_some_iff.mp H
   obtain ⟨t379, A120, H⟩ := H
   replace H : (if t379 = true then ((laws_toPieceS.f k l0).bind fun t380 => ((laws_eqPieceS.f k t373 t380).bind fun t383 => (if t383 = true then ((laws_markPieceS.f k t373 1).bind fun bt384 => (if bt384.1 < 0 then (laws_FnExactFilesNamed.j0 k l0 a1 a2 t370 t376 true) else ((laws_eqStringS.f k t376 t370).bind fun t386 => (laws_FnExactFilesNamed.j0 k l0 a1 a2 t370 t376 (!t386))))) else (some false)))) else (some false)) = some r := H
   have A12 := Aside0.mk A120
   clear A120
   by_cases c13 : t379 = true
   ·subst c13
    have H1 : ((laws_toPieceS.f k l0).bind fun t380 => ((laws_eqPieceS.f k t373 t380).bind fun t383 => (if t383 = true then ((laws_markPieceS.f k t373 1).bind fun bt384 => (if bt384.1 < 0 then (laws_FnExactFilesNamed.j0 k l0 a1 a2 t370 t376 true) else ((laws_eqStringS.f k t376 t370).bind fun t386 => (laws_FnExactFilesNamed.j0 k l0 a1 a2 t370 t376 (!t386))))) else (some false)))) = some r := by rw [if_pos rfl] at H; exact H
    clear H
    have H := H1
    clear H1
    replace H := Option.bind_eq_some_iff.mp H
    obtain ⟨t380, A140, H⟩ := H
    replace H : ((laws_eqPieceS.f k t373 t380).bind fun t383 => (if t383 = true then ((laws_markPieceS.f k t373 1).bind fun bt384 => (if bt384.1 < 0 then (laws_FnExactFilesNamed.j0 k l0 a1 a2 t370 t376 true) else ((laws_eqStringS.f k t376 t370).bind fun t386 => (laws_FnExactFilesNamed.j0 k l0 a1 a2 t370 t376 (!t386))))) else (some false))) = some r := H
    have A14 := Aside0.mk A140
    clear A140
    replace H := Option.bind_eq_some_iff.mp H
    obtain ⟨t383, A150, H⟩ := H
    replace H : (if t383 = true then ((laws_markPieceS.f k t373 1).bind fun bt384 => (if bt384.1 < 0 then (laws_FnExactFilesNamed.j0 k l0 a1 a2 t370 t376 true) else ((laws_eqStringS.f k t376 t370).bind fun t386 => (laws_FnExactFilesNamed.j0 k l0 a1 a2 t370 t376 (!t386))))) else (some false)) = some r := H
    have A15 := Aside0.mk A150
    clear A150
    by_cases c16 : t383 = true
    ·subst c16
     have H1 : ((laws_markPieceS.f k t373 1).bind fun bt384 => (if bt384.1 < 0 then (laws_FnExactFilesNamed.j0 k l0 a1 a2 t370 t376 true) else ((laws_eqStringS.f k t376 t370).bind fun t386 => (laws_FnExactFilesNamed.j0 k l0 a1 a2 t370 t376 (!t386))))) = some r := by rw [if_pos rfl] at H; exact H
     clear H
     have H := H1
     clear H1
     replace H := Option.bind_eq_some_iff.mp H
     obtain ⟨⟨t384, t385⟩, A170, H⟩ := H
     replace H : (if t384 < 0 then (laws_FnExactFilesNamed.j0 k l0 a1 a2 t370 t376 true) else ((laws_eqStringS.f k t376 t370).bind fun t386 => (laws_FnExactFilesNamed.j0 k l0 a1 a2 t370 t376 (!t386)))) = some r := H
     have A17 := Aside0.mk A170
     clear A170
     have HC18 := Aside0.mk H
     clear H
     go_enter Tryz.func3, Tryz.ntmps3
     go_upto_region 16 with (first | ((with_reducible refine gate_callee (f := 8) rfl ?_); refine goesL_ (some 20) rfl rfl Tryz.func8 (by kernel_rfl) rfl #[.slice A0 l0.length c0, .int .i64 1048576] rfl sl_ ?_; (with_reducible refine (laws_szPieceS.calls k _ _ l0 1048576 t366 _ ?side1 ?side2 A5.out).mono ?_); (case side1 => exact kC_ HR0.out); (case side2 => exact HC0.out); rintro e w19 ⟨rfl, hb⟩; refine ⟨_, rfl, ?_⟩; replace HB := Aside0.mk (below_step hb_ hb); (try clear hb)) | ((with_reducible refine gate_callee (f := 10) rfl ?_); refine goesL_ (some 24) rfl rfl Tryz.func10 (by kernel_rfl) rfl #[.slice A0 l0.length c0] rfl sl_ ?_; (with_reducible refine (laws_toPieceS.calls k _ _ l0 t367 _ ?side1 ?side2 A8.out).mono ?_); (case side1 => exact kC_ (Kd.C_below HR0.out HB.out)); (case side2 => exact HC0.out); rintro e w20 ⟨v368, rfl, ho0, hb⟩; refine ⟨_, rfl, ?_⟩; have HO369 := Aside0.mk (Kd.R_lower ho0 (below_size hb_)); replace HB := Aside0.mk (below_step hb_ hb); (try clear hb); (try clear ho0); obtain ⟨Ao21, co21, eo21⟩ := Kd.R_slice HO369.out; subst eo21) | ((with_reducible refine gate_callee (f := 9) rfl ?_); refine goesL_ (some 27) rfl rfl Tryz.func9 (by kernel_rfl) rfl #[.slice Ao21 t367.length co21, .int .i64 a1, .string a2] rfl sl_ ?_; (with_reducible refine (spec_FilesNamed.calls k _ _ t367 a1 a2 t370 _ ?side1 ?side2 A9.out).mono ?_); (case side1 => exact kC_ ((Kd.R_reads' HO369.out).2.2)); (case side2 => exact (Kd.R_reads' HO369.out).2.1); rintro e w22 ⟨v371, rfl, ho0, hb⟩; refine ⟨_, rfl, ?_⟩; replace HO369 := Aside0.mk (Kd.R_below (kR_ HO369.out) hb); have HO372 := Aside0.mk (Kd.R_lower ho0 (below_size hb_)); replace HB := Aside0.mk (below_step hb_ hb); (try clear hb); (try clear ho0)) | ((with_reducible refine gate_callee (f := 10) rfl ?_); refine goesL_ (some 29) rfl rfl Tryz.func10 (by kernel_rfl) rfl #[.slice A0 l0.length c0] rfl sl_ ?_; (with_reducible refine (laws_toPieceS.calls k _ _ l0 t373 _ ?side1 ?side2 A10.out).mono ?_); (case side1 => exact kC_ (Kd.C_below HR0.out HB.out)); (case side2 => exact HC0.out); rintro e w23 ⟨v374, rfl, ho0, hb⟩; refine ⟨_, rfl, ?_⟩; replace HO372 := Aside0.mk (Kd.R_below (kR_ HO372.out) hb); have HO375 := Aside0.mk (Kd.R_lower (Kd.R_new' ho0 (Kd.R_lt (kR_ HO369.out))) (below_size hb_)); replace HO369 := Aside0.mk (Kd.R_elder' (kR_ HO369.out) (Kd.R_base ho0) hb); replace HB := Aside0.mk (below_step hb_ hb); (try clear hb); (try clear ho0); obtain ⟨Ao24, co24, eo24⟩ := Kd.R_slice HO375.out; subst eo24) | ((with_reducible refine gate_callee (f := 11) rfl ?_); refine goesL_ (some 33) rfl rfl Tryz.func11 (by kernel_rfl) rfl #[.slice Ao24 t373.length co24, .int .i64 a1, .string a2] rfl sl_ ?_; (with_reducible refine (impl_FilesNamed.calls k _ _ t373 a1 a2 t376 _ ?side1 ?side2 (GT_on hb_ hG) A11.out).mono ?_); (case side1 => exact kC_ ((Kd.R_reads' HO375.out).2.2)); (case side2 => exact (Kd.R_reads' HO375.out).2.1); rintro e w25 ⟨v377, rfl, ho0, hb⟩; refine ⟨_, rfl, ?_⟩; replace HO369 := Aside0.mk (Kd.R_below (kR_ HO369.out) hb); replace HO375 := Aside0.mk (Kd.R_below (kR_ HO375.out) hb); have HO378 := Aside0.mk (Kd.R_lower (Kd.R_new' ho0 (Kd.R_lt (kR_ HO372.out))) (below_size hb_)); replace HO372 := Aside0.mk (Kd.R_elder' (kR_ HO372.out) (Kd.R_base ho0) hb); replace HB := Aside0.mk (below_step hb_ hb); (try clear hb); (try clear ho0); obtain ⟨Ao26, co26, eo26⟩ := Kd.R_slice HO378.out; subst eo26; obtain ⟨Ao27, co27, eo27⟩ := Kd.R_slice HO372.out; subst eo27) | ((with_reducible refine gate_callee (f := 12) rfl ?_); refine goesL_ (some 36) rfl rfl Tryz.func12 (by kernel_rfl) rfl #[.slice Ao26 t376.length co26, .slice Ao27 t370.length co27] rfl sl_ ?_; (with_reducible refine (laws_eqStringS.calls k _ _ t376 _ _ t370 true _ ?side1 ?side2 ?side3 ?side4 A12.out).mono ?_); (case side1 => exact kC_ ((Kd.R_reads' HO378.out).2.2)); (case side2 => exact (Kd.R_reads' HO378.out).2.1); (case side3 => exact kC_ ((Kd.R_reads' HO372.out).2.2)); (case side4 => exact (Kd.R_reads' HO372.out).2.1); rintro e w' ⟨rfl, ⟨nd, rfl⟩⟩; refine ⟨_, rfl, ?_⟩) | ((with_reducible refine gate_callee (f := 10) rfl ?_); refine goesL_ (some 40) rfl rfl Tryz.func10 (by kernel_rfl) rfl #[.slice A0 l0.length c0] rfl sl_ ?_; (with_reducible refine (laws_toPieceS.calls k _ _ l0 t380 _ ?side1 ?side2 A14.out).mono ?_); (case side1 => exact kC_ (Kd.C_below HR0.out hb_)); (case side2 => exact HC0.out); rintro e w28 ⟨v381, rfl, ho0, hb⟩; refine ⟨_, rfl, ?_⟩; replace HO372 := Aside0.mk (Kd.R_below (kR_ HO372.out) hb); replace HO378 := Aside0.mk (Kd.R_below (kR_ HO378.out) hb); have HO382 := Aside0.mk (Kd.R_lower (Kd.R_new' (Kd.R_new' ho0 (Kd.R_lt (kR_ HO369.out))) (Kd.R_lt (kR_ HO375.out))) (below_size hb_)); replace HO369 := Aside0.mk (Kd.R_elder' (kR_ HO369.out) (Kd.R_base ho0) hb); replace HO375 := Aside0.mk (Kd.R_elder' (kR_ HO375.out) (Kd.R_base ho0) hb); replace HB := Aside0.mk (below_step hb_ hb); (try clear hb); (try clear ho0); obtain ⟨Ao29, co29, eo29⟩ := Kd.R_slice HO382.out; subst eo29) | ((with_reducible refine gate_callee (f := 13) rfl ?_); refine goesL_ (some 41) rfl rfl Tryz.func13 (by kernel_rfl) rfl #[.slice Ao24 t373.length co24, .slice Ao29 t380.length co29] rfl sl_ ?_; (with_reducible refine (laws_eqPieceS.calls k _ _ t373 _ _ t380 true _ ?side1 ?side2 ?side3 ?side4 A15.out).mono ?_); (case side1 => exact kC_ ((Kd.R_reads' HO375.out).2.2)); (case side2 => exact (Kd.R_reads' HO375.out).2.1); (case side3 => exact kC_ ((Kd.R_reads' HO382.out).2.2)); (case side4 => exact (Kd.R_reads' HO382.out).2.1); rintro e w30 ⟨rfl, hb⟩; refine ⟨_, rfl, ?_⟩; replace HO369 := Aside0.mk (Kd.R_below (kR_ HO369.out) hb); replace HO372 := Aside0.mk (Kd.R_below (kR_ HO372.out) hb); replace HO375 := Aside0.mk (Kd.R_below (kR_ HO375.out) hb); replace HO378 := Aside0.mk (Kd.R_below (kR_ HO378.out) hb); replace HO382 := Aside0.mk (Kd.R_below (kR_ HO382.out) hb); replace HB := Aside0.mk (below_step hb_ hb); (try clear hb)) | ((with_reducible refine gate_callee (f := 14) rfl ?_); refine goesL_ (some 45) rfl rfl Tryz.func14 (by kernel_rfl) rfl #[.slice Ao24 t373.length co24, .int .i64 1] rfl sl_ ?_; (with_reducible refine (laws_markPieceS.calls k (fun k_ => some k_ = (.slice Ao24 t373.length co24 : Value).ownBlock) (.slice Ao24 t373.length co24) t373 1 t384 t385 w _ ?side1 ?side2 A17.out).mono ?_); (case side1 => repeat (first | (with_reducible first | exact HB.out | apply below_alloc | apply pw_below_drewN | apply below_drew1) | exact HB.out)); (case side2 => exact Kd.R_tight rfl HO375.out); rintro e w31 ⟨rfl, hy0, hb, hkp⟩; refine ⟨_, rfl, ?_⟩; replace HO369 := Aside0.mk (Kd.R_mono (ok' := fun k_ => some k_ ≠ (.slice Ao24 t373.length co24 : Value).ownBlock ∧ some k_ ≠ (.slice Ao29 t380.length co29 : Value).ownBlock) (Kd.R_keptB (HO369.out) hkp (fun k_ hk_ hs_ => (hk_.1.2) hs_)) (fun k_ hk_ => ⟨hk_.1.1.2, hk_.1.2⟩)); replace HO372 := Aside0.mk (Kd.R_mono (ok' := fun k_ => some k_ ≠ (.slice Ao26 t376.length co26 : Value).ownBlock) (Kd.R_keptB ((Kd.R_apart' HO372.out (Kd.R_typed HO375.out) (by decide))) hkp (fun k_ hk_ hs_ => (hk_.2) hs_)) (fun k_ hk_ => hk_.1.1.2)); replace HO378 := Aside0.mk (Kd.R_mono (ok' := fun k_ => some k_ ≠ (.slice Ao27 t370.length co27 : Value).ownBlock) (Kd.R_keptB ((Kd.R_apart' HO378.out (Kd.R_typed HO375.out) (by decide))) hkp (fun k_ hk_ hs_ => (hk_.2) hs_)) (fun k_ hk_ => hk_.1.1.2)); replace HO375 := Aside0.mk (Kd.R_reok rfl hy0 (fun k_ e_ => HO375.out.1 k_ e_)); replace HO382 := Aside0.mk (Kd.R_mono (ok' := fun k_ => some k_ ≠ (.slice Ao21 t367.length co21 : Value).ownBlock ∧ some k_ ≠ (.slice Ao24 t373.length co24 : Value).ownBlock) (Kd.R_keptB (HO382.out) hkp (fun k_ hk_ hs_ => (hk_.2) hs_)) (fun k_ hk_ => ⟨hk_.1.1.2, hk_.1.2⟩)); replace HB := Aside0.mk (hb); (try clear hb); (try clear hkp); (try clear hy0)))
     (try simp only [Act.put, List.setIfInBounds_toArray, List.set_cons_zero, List.set_cons_succ])
     go_cut [53] (fun v53 wc => ∃ (kq : Nat) (x53_17 : Bool), v53 = .bool x53_17 ∧ Aside0 (laws_FnExactFilesNamed.j0 kq l0 a1 a2 t370 t376 x53_17 = some r) ∧ Aside0 (kq ≤ k) ∧ Aside0 (Kd.R Kd.string 9 wc w.heap.size (fun k_ => some k_ ≠ ((.slice Ao26 t376.length co26) : Value).ownBlock) (.slice Ao27 t370.length co27) t370) ∧ Aside0 (Kd.R Kd.string 9 wc w.heap.size (fun k_ => some k_ ≠ ((.slice Ao27 t370.length co27) : Value).ownBlock) (.slice Ao26 t376.length co26) t376) ∧ Aside0 (Below w.heap.size w wc))
     case first =>
      have H := HC18.out
      clear HC18
      by_cases c32 : t384 < 0
      ·rw [if_pos c32] at H
       have c32b0 : decide (t384 < 0) = true := decide_eq_true c32
       clear c32
       (first | rw [c32b0] | (simp only [i64_w, i32_w]; rw [c32b0]) | skip)
       have H' := Aside0.mk H
       clear H
       go_wp2
       go_meet
       case rel => exact ⟨_, (true), (by first | rfl | (simp; done) | (simp [*]; done)), H', ⟨by first | omega | exact Nat.le_refl _⟩, ⟨by (with_reducible repeat (first | apply Kd.R_alloc | apply Kd.R_drewN | apply Kd.R_drew)); exact HO372.out⟩, ⟨by (with_reducible repeat (first | apply Kd.R_alloc | apply Kd.R_drewN | apply Kd.R_drew)); exact HO378.out⟩, ⟨hb_⟩⟩
      ·rw [if_neg c32] at H
       have c32b0 : decide (t384 < 0) = false := decide_eq_false c32
       clear c32
       (first | rw [c32b0] | (simp only [i64_w, i32_w]; rw [c32b0]) | skip)
       replace H := Option.bind_eq_some_iff.mp H
       obtain ⟨t386, A330, H⟩ := H
       replace H : (laws_FnExactFilesNamed.j0 k l0 a1 a2 t370 t376 (!t386)) = some r := H
       have A33 := Aside0.mk A330
       clear A330
       have H' := Aside0.mk H
       clear H
       go_wp2_with (first | (go_at_call 12; (with_reducible refine (laws_eqStringS.calls k _ _ t376 _ _ t370 t386 _ ?side1 ?side2 ?side3 ?side4 A33.out).mono ?_); (case side1 => exact kC_ ((Kd.R_reads' HO378.out).2.2)); (case side2 => exact (Kd.R_reads' HO378.out).2.1); (case side3 => exact kC_ ((Kd.R_reads' HO372.out).2.2)); (case side4 => exact (Kd.R_reads' HO372.out).2.1); rintro e w' ⟨rfl, ⟨nd, rfl⟩⟩))
       go_meet
       case rel => exact ⟨_, (!t386), (by first | rfl | (simp; done) | (simp [*]; done)), H', ⟨by first | omega | exact Nat.le_refl _⟩, ⟨by (with_reducible repeat (first | apply Kd.R_alloc | apply Kd.R_drewN | apply Kd.R_drew)); exact HO372.out⟩, ⟨by (with_reducible repeat (first | apply Kd.R_alloc | apply Kd.R_drewN | apply Kd.R_drew)); exact HO378.out⟩, ⟨hb_⟩⟩
     case rest =>
      clear HC18
      try clear c1
      try clear p2
      try clear c3
      try clear c4
      try clear c4b0
      try clear c4b1
      try clear c6
      try clear c6b0
      try clear c8
      try clear c9
      try clear c10
      try clear c11
      try clear c12
      try clear c13
      try clear c14
      try clear c16
      try clear c32
      try clear c32b0
      obtain ⟨kq, x53_17, rfl, HA, HJ17, HO_8, HO_10, HB⟩ := hcut
      cases kq with
      | zero => exact absurd HA.out (by simp [laws_FnExactFilesNamed.j0])
      | succ kj17 =>
       have H := HA.out
       clear HA
       simp only [laws_FnExactFilesNamed.j0] at H
       by_cases c34 : x53_17 = true
       ·subst c34
        have H1 : (some false) = some r := by rw [if_pos rfl] at H; exact H
        clear H
        have H := H1
        clear H1
        exact absurd H (by subst hrt; decide)
       ·replace c34 := Bool.eq_false_iff.mpr c34
        subst c34
        have H1 : ((laws_markStringS.f kj17 t376 1).bind fun bt387 => ((laws_heldStringS.f kj17 bt387.2 1).bind fun t389 => (if t389 < 0 then (some false) else (if t389 = bt387.1 then ((laws_toPieceS.f kj17 l0).bind fun t390 => ((impl_FilesNamed.f kj17 t390 a1 a2).bind fun t393 => ((laws_eqStringS.f kj17 t393 t370).bind fun t396 => (if t396 = true then ((laws_heldStringS.f kj17 bt387.2 1).bind fun t397 => (if t397 < 0 then (some false) else (if t397 = bt387.1 then (some true) else (some false)))) else (some false))))) else (some false))))) = some r := by rw [if_neg (show ¬ (false = true) by decide)] at H; exact H
        clear H
        have H := H1
        clear H1
        replace H := Option.bind_eq_some_iff.mp H
        obtain ⟨⟨t387, t388⟩, A350, H⟩ := H
        replace H : ((laws_heldStringS.f kj17 t388 1).bind fun t389 => (if t389 < 0 then (some false) else (if t389 = t387 then ((laws_toPieceS.f kj17 l0).bind fun t390 => ((impl_FilesNamed.f kj17 t390 a1 a2).bind fun t393 => ((laws_eqStringS.f kj17 t393 t370).bind fun t396 => (if t396 = true then ((laws_heldStringS.f kj17 t388 1).bind fun t397 => (if t397 < 0 then (some false) else (if t397 = t387 then (some true) else (some false)))) else (some false))))) else (some false)))) = some r := H
        have A35 := Aside0.mk A350
        clear A350
        replace H := Option.bind_eq_some_iff.mp H
        obtain ⟨t389, A360, H⟩ := H
        replace H : (if t389 < 0 then (some false) else (if t389 = t387 then ((laws_toPieceS.f kj17 l0).bind fun t390 => ((impl_FilesNamed.f kj17 t390 a1 a2).bind fun t393 => ((laws_eqStringS.f kj17 t393 t370).bind fun t396 => (if t396 = true then ((laws_heldStringS.f kj17 t388 1).bind fun t397 => (if t397 < 0 then (some false) else (if t397 = t387 then (some true) else (some false)))) else (some false))))) else (some false))) = some r := H
        have A36 := Aside0.mk A360
        clear A360
        by_cases c37 : t389 < 0
        ·rw [if_pos c37] at H
         have c37b0 : decide (t389 < 0) = true := decide_eq_true c37
         clear c37
         exact absurd H (by subst hrt; decide)
        ·rw [if_neg c37] at H
         have c37b0 : decide (t389 < 0) = false := decide_eq_false c37
         clear c37
         by_cases c40 : t389 = t387
         ·rw [if_pos c40] at H
          have c40b0 : (t389 == t387) = true := beq_iff_eq.mpr c40
          have c40b1 : (t389 != t387) = false := bne_eq_false_iff_eq.mpr c40
          clear c40
          replace H := Option.bind_eq_some_iff.mp H
          obtain ⟨t390, A410, H⟩ := H
          replace H : ((impl_FilesNamed.f kj17 t390 a1 a2).bind fun t393 => ((laws_eqStringS.f kj17 t393 t370).bind fun t396 => (if t396 = true then ((laws_heldStringS.f kj17 t388 1).bind fun t397 => (if t397 < 0 then (some false) else (if t397 = t387 then (some true) else (some false)))) else (some false)))) = some r := H
          have A41 := Aside0.mk A410
          clear A410
          replace H := Option.bind_eq_some_iff.mp H
          obtain ⟨t393, A420, H⟩ := H
          replace H : ((laws_eqStringS.f kj17 t393 t370).bind fun t396 => (if t396 = true then ((laws_heldStringS.f kj17 t388 1).bind fun t397 => (if t397 < 0 then (some false) else (if t397 = t387 then (some true) else (some false)))) else (some false))) = some r := H
          have A42 := Aside0.mk A420
          clear A420
          replace H := Option.bind_eq_some_iff.mp H
          obtain ⟨t396, A430, H⟩ := H
          replace H : (if t396 = true then ((laws_heldStringS.f kj17 t388 1).bind fun t397 => (if t397 < 0 then (some false) else (if t397 = t387 then (some true) else (some false)))) else (some false)) = some r := H
          have A43 := Aside0.mk A430
          clear A430
          by_cases c44 : t396 = true
          ·subst c44
           have H1 : ((laws_heldStringS.f kj17 t388 1).bind fun t397 => (if t397 < 0 then (some false) else (if t397 = t387 then (some true) else (some false)))) = some r := by rw [if_pos rfl] at H; exact H
           clear H
           have H := H1
           clear H1
           replace H := Option.bind_eq_some_iff.mp H
           obtain ⟨t397, A450, H⟩ := H
           replace H : (if t397 < 0 then (some false) else (if t397 = t387 then (some true) else (some false))) = some r := H
           have A45 := Aside0.mk A450
           clear A450
           by_cases c46 : t397 < 0
           ·rw [if_pos c46] at H
            have c46b0 : decide (t397 < 0) = true := decide_eq_true c46
            clear c46
            exact absurd H (by subst hrt; decide)
           ·rw [if_neg c46] at H
            have c46b0 : decide (t397 < 0) = false := decide_eq_false c46
            clear c46
            by_cases c54 : t397 = t387
            ·rw [if_pos c54] at H
             have c54b0 : (t397 == t387) = true := beq_iff_eq.mpr c54
             have c54b1 : (t397 != t387) = false := bne_eq_false_iff_eq.mpr c54
             clear c54
             obtain rfl := Option.some.inj H
             go_wp2_with (first | ((with_reducible refine gate_callee (f := 15) rfl ?_); refine goesL_ (some 56) rfl rfl Tryz.func15 (by kernel_rfl) rfl #[.slice Ao26 t376.length co26, .int .i64 1] rfl sl_ ?_; (with_reducible refine (laws_markStringS.calls kj17 (fun k_ => some k_ = (.slice Ao26 t376.length co26 : Value).ownBlock) (.slice Ao26 t376.length co26) t376 1 t387 t388 w _ ?side1 ?side2 A35.out).mono ?_); (case side1 => repeat (first | (with_reducible first | exact HB.out | apply below_alloc | apply pw_below_drewN | apply below_drew1) | exact HB.out)); (case side2 => exact Kd.R_tight rfl HO_10.out); rintro e w55 ⟨rfl, hy0, hb, hkp⟩; refine ⟨_, rfl, ?_⟩; replace HO_8 := Aside0.mk (Kd.R_mono (ok' := fun k_ => some k_ ≠ (.slice Ao26 t376.length co26 : Value).ownBlock) (Kd.R_keptB (HO_8.out) hkp (fun k_ hk_ hs_ => (hk_) hs_)) (fun k_ hk_ => hk_.1)); replace HO_10 := Aside0.mk (Kd.R_reok rfl hy0 (fun k_ e_ => HO_10.out.1 k_ e_)); replace HB := Aside0.mk (hb); (try clear hb); (try clear hkp); (try clear hy0)) | ((with_reducible refine gate_callee (f := 16) rfl ?_); refine goesL_ (some 59) rfl rfl Tryz.func16 (by kernel_rfl) rfl #[.slice Ao26 t388.length co26, .int .i64 1] rfl (by (try simp only [List.map_toArray, List.map_cons, List.map_nil]); first | done | (rw [show t388.length = t376.length from (Kd.R_reads' HO_10.out).1.symm] <;> rfl) | rfl | (simp only [List.length_drop, List.length_take]; rfl)) ?_; (with_reducible refine (laws_heldStringS.calls kj17 _ _ t388 1 t389 _ ?side1 ?side2 A36.out).mono ?_); (case side1 => exact kC_ ((Kd.R_reads' HO_10.out).2.2)); (case side2 => rw [show t388.length = t376.length from (Kd.R_reads' HO_10.out).1.symm]; exact (Kd.R_reads' HO_10.out).2.1); rintro e w56 ⟨rfl, hb⟩; refine ⟨_, rfl, ?_⟩; replace HO_8 := Aside0.mk (Kd.R_below (kR_ HO_8.out) hb); replace HO_10 := Aside0.mk (Kd.R_below (kR_ HO_10.out) hb); replace HB := Aside0.mk (below_step hb_ hb); (try clear hb)) | ((with_reducible refine gate_callee (f := 10) rfl ?_); refine goesL_ (some 66) rfl rfl Tryz.func10 (by kernel_rfl) rfl #[.slice A0 l0.length c0] rfl sl_ ?_; (with_reducible refine (laws_toPieceS.calls kj17 _ _ l0 t390 _ ?side1 ?side2 A41.out).mono ?_); (case side1 => exact kC_ (Kd.C_below HR0.out HB.out)); (case side2 => exact HC0.out); rintro e w57 ⟨v391, rfl, ho0, hb⟩; refine ⟨_, rfl, ?_⟩; replace HO_8 := Aside0.mk (Kd.R_below (kR_ HO_8.out) hb); replace HO_10 := Aside0.mk (Kd.R_below (kR_ HO_10.out) hb); have HO392 := Aside0.mk (Kd.R_lower ho0 (below_size hb_)); replace HB := Aside0.mk (below_step hb_ hb); (try clear hb); (try clear ho0); obtain ⟨Ao58, co58, eo58⟩ := Kd.R_slice HO392.out; subst eo58) | ((with_reducible refine gate_callee (f := 11) rfl ?_); refine goesL_ (some 69) rfl rfl Tryz.func11 (by kernel_rfl) rfl #[.slice Ao58 t390.length co58, .int .i64 a1, .string a2] rfl sl_ ?_; (with_reducible refine (impl_FilesNamed.calls kj17 _ _ t390 a1 a2 t393 _ ?side1 ?side2 (GT_on hb_ hG) A42.out).mono ?_); (case side1 => exact kC_ ((Kd.R_reads' HO392.out).2.2)); (case side2 => exact (Kd.R_reads' HO392.out).2.1); rintro e w59 ⟨v394, rfl, ho0, hb⟩; refine ⟨_, rfl, ?_⟩; replace HO392 := Aside0.mk (Kd.R_below (kR_ HO392.out) hb); have HO395 := Aside0.mk (Kd.R_lower (Kd.R_new' (Kd.R_new' ho0 (Kd.R_lt (kR_ HO_8.out))) (Kd.R_lt (kR_ HO_10.out))) (below_size hb_)); replace HO_8 := Aside0.mk (Kd.R_elder' (kR_ HO_8.out) (Kd.R_base ho0) hb); replace HO_10 := Aside0.mk (Kd.R_elder' (kR_ HO_10.out) (Kd.R_base ho0) hb); replace HB := Aside0.mk (below_step hb_ hb); (try clear hb); (try clear ho0); obtain ⟨Ao60, co60, eo60⟩ := Kd.R_slice HO395.out; subst eo60) | ((with_reducible refine gate_callee (f := 12) rfl ?_); refine goesL_ (some 72) rfl rfl Tryz.func12 (by kernel_rfl) rfl #[.slice Ao60 t393.length co60, .slice Ao27 t370.length co27] rfl sl_ ?_; (with_reducible refine (laws_eqStringS.calls kj17 _ _ t393 _ _ t370 true _ ?side1 ?side2 ?side3 ?side4 A43.out).mono ?_); (case side1 => exact kC_ ((Kd.R_reads' HO395.out).2.2)); (case side2 => exact (Kd.R_reads' HO395.out).2.1); (case side3 => exact kC_ ((Kd.R_reads' HO_8.out).2.2)); (case side4 => exact (Kd.R_reads' HO_8.out).2.1); rintro e w' ⟨rfl, ⟨nd, rfl⟩⟩; refine ⟨_, rfl, ?_⟩) | ((with_reducible refine gate_callee (f := 16) rfl ?_); refine goesL_ (some 76) rfl rfl Tryz.func16 (by kernel_rfl) rfl #[.slice Ao26 t388.length co26, .int .i64 1] rfl (by (try simp only [List.map_toArray, List.map_cons, List.map_nil]); first | done | (rw [show t388.length = t376.length from (Kd.R_reads' HO_10.out).1.symm] <;> rfl) | rfl | (simp only [List.length_drop, List.length_take]; rfl)) ?_; (with_reducible refine (laws_heldStringS.calls kj17 _ _ t388 1 t397 _ ?side1 ?side2 A45.out).mono ?_); (case side1 => exact kC_ ((Kd.R_reads' HO_10.out).2.2)); (case side2 => rw [show t388.length = t376.length from (Kd.R_reads' HO_10.out).1.symm]; exact (Kd.R_reads' HO_10.out).2.1); rintro e w61 ⟨rfl, hb⟩; refine ⟨_, rfl, ?_⟩; replace HO_8 := Aside0.mk (Kd.R_below (kR_ HO_8.out) hb); replace HO_10 := Aside0.mk (Kd.R_below (kR_ HO_10.out) hb); replace HO392 := Aside0.mk (Kd.R_below (kR_ HO392.out) hb); replace HO395 := Aside0.mk (Kd.R_below (kR_ HO395.out) hb); replace HB := Aside0.mk (below_step hb_ hb); (try clear hb)))
             go_ret
             exact ⟨er_, hb_⟩
            ·rw [if_neg c54] at H
             have c54b0 : (t397 == t387) = false := beq_eq_false_iff_ne.mpr c54
             have c54b1 : (t397 != t387) = true := bne_iff_ne.mpr c54
             obtain rfl := Option.some.inj H
             go_wp2_with (first | ((with_reducible refine gate_callee (f := 15) rfl ?_); refine goesL_ (some 56) rfl rfl Tryz.func15 (by kernel_rfl) rfl #[.slice Ao26 t376.length co26, .int .i64 1] rfl sl_ ?_; (with_reducible refine (laws_markStringS.calls kj17 (fun k_ => some k_ = (.slice Ao26 t376.length co26 : Value).ownBlock) (.slice Ao26 t376.length co26) t376 1 t387 t388 w _ ?side1 ?side2 A35.out).mono ?_); (case side1 => repeat (first | (with_reducible first | exact HB.out | apply below_alloc | apply pw_below_drewN | apply below_drew1) | exact HB.out)); (case side2 => exact Kd.R_tight rfl HO_10.out); rintro e w62 ⟨rfl, hy0, hb, hkp⟩; refine ⟨_, rfl, ?_⟩; replace HO_8 := Aside0.mk (Kd.R_mono (ok' := fun k_ => some k_ ≠ (.slice Ao26 t376.length co26 : Value).ownBlock) (Kd.R_keptB (HO_8.out) hkp (fun k_ hk_ hs_ => (hk_) hs_)) (fun k_ hk_ => hk_.1)); replace HO_10 := Aside0.mk (Kd.R_reok rfl hy0 (fun k_ e_ => HO_10.out.1 k_ e_)); replace HB := Aside0.mk (hb); (try clear hb); (try clear hkp); (try clear hy0)) | ((with_reducible refine gate_callee (f := 16) rfl ?_); refine goesL_ (some 59) rfl rfl Tryz.func16 (by kernel_rfl) rfl #[.slice Ao26 t388.length co26, .int .i64 1] rfl (by (try simp only [List.map_toArray, List.map_cons, List.map_nil]); first | done | (rw [show t388.length = t376.length from (Kd.R_reads' HO_10.out).1.symm] <;> rfl) | rfl | (simp only [List.length_drop, List.length_take]; rfl)) ?_; (with_reducible refine (laws_heldStringS.calls kj17 _ _ t388 1 t389 _ ?side1 ?side2 A36.out).mono ?_); (case side1 => exact kC_ ((Kd.R_reads' HO_10.out).2.2)); (case side2 => rw [show t388.length = t376.length from (Kd.R_reads' HO_10.out).1.symm]; exact (Kd.R_reads' HO_10.out).2.1); rintro e w63 ⟨rfl, hb⟩; refine ⟨_, rfl, ?_⟩; replace HO_8 := Aside0.mk (Kd.R_below (kR_ HO_8.out) hb); replace HO_10 := Aside0.mk (Kd.R_below (kR_ HO_10.out) hb); replace HB := Aside0.mk (below_step hb_ hb); (try clear hb)) | ((with_reducible refine gate_callee (f := 10) rfl ?_); refine goesL_ (some 66) rfl rfl Tryz.func10 (by kernel_rfl) rfl #[.slice A0 l0.length c0] rfl sl_ ?_; (with_reducible refine (laws_toPieceS.calls kj17 _ _ l0 t390 _ ?side1 ?side2 A41.out).mono ?_); (case side1 => exact kC_ (Kd.C_below HR0.out HB.out)); (case side2 => exact HC0.out); rintro e w64 ⟨v391, rfl, ho0, hb⟩; refine ⟨_, rfl, ?_⟩; replace HO_8 := Aside0.mk (Kd.R_below (kR_ HO_8.out) hb); replace HO_10 := Aside0.mk (Kd.R_below (kR_ HO_10.out) hb); have HO392 := Aside0.mk (Kd.R_lower ho0 (below_size hb_)); replace HB := Aside0.mk (below_step hb_ hb); (try clear hb); (try clear ho0); obtain ⟨Ao65, co65, eo65⟩ := Kd.R_slice HO392.out; subst eo65) | ((with_reducible refine gate_callee (f := 11) rfl ?_); refine goesL_ (some 69) rfl rfl Tryz.func11 (by kernel_rfl) rfl #[.slice Ao65 t390.length co65, .int .i64 a1, .string a2] rfl sl_ ?_; (with_reducible refine (impl_FilesNamed.calls kj17 _ _ t390 a1 a2 t393 _ ?side1 ?side2 (GT_on hb_ hG) A42.out).mono ?_); (case side1 => exact kC_ ((Kd.R_reads' HO392.out).2.2)); (case side2 => exact (Kd.R_reads' HO392.out).2.1); rintro e w66 ⟨v394, rfl, ho0, hb⟩; refine ⟨_, rfl, ?_⟩; replace HO392 := Aside0.mk (Kd.R_below (kR_ HO392.out) hb); have HO395 := Aside0.mk (Kd.R_lower (Kd.R_new' (Kd.R_new' ho0 (Kd.R_lt (kR_ HO_8.out))) (Kd.R_lt (kR_ HO_10.out))) (below_size hb_)); replace HO_8 := Aside0.mk (Kd.R_elder' (kR_ HO_8.out) (Kd.R_base ho0) hb); replace HO_10 := Aside0.mk (Kd.R_elder' (kR_ HO_10.out) (Kd.R_base ho0) hb); replace HB := Aside0.mk (below_step hb_ hb); (try clear hb); (try clear ho0); obtain ⟨Ao67, co67, eo67⟩ := Kd.R_slice HO395.out; subst eo67) | ((with_reducible refine gate_callee (f := 12) rfl ?_); refine goesL_ (some 72) rfl rfl Tryz.func12 (by kernel_rfl) rfl #[.slice Ao67 t393.length co67, .slice Ao27 t370.length co27] rfl sl_ ?_; (with_reducible refine (laws_eqStringS.calls kj17 _ _ t393 _ _ t370 true _ ?side1 ?side2 ?side3 ?side4 A43.out).mono ?_); (case side1 => exact kC_ ((Kd.R_reads' HO395.out).2.2)); (case side2 => exact (Kd.R_reads' HO395.out).2.1); (case side3 => exact kC_ ((Kd.R_reads' HO_8.out).2.2)); (case side4 => exact (Kd.R_reads' HO_8.out).2.1); rintro e w' ⟨rfl, ⟨nd, rfl⟩⟩; refine ⟨_, rfl, ?_⟩) | ((with_reducible refine gate_callee (f := 16) rfl ?_); refine goesL_ (some 76) rfl rfl Tryz.func16 (by kernel_rfl) rfl #[.slice Ao26 t388.length co26, .int .i64 1] rfl (by (try simp only [List.map_toArray, List.map_cons, List.map_nil]); first | done | (rw [show t388.length = t376.length from (Kd.R_reads' HO_10.out).1.symm] <;> rfl) | rfl | (simp only [List.length_drop, List.length_take]; rfl)) ?_; (with_reducible refine (laws_heldStringS.calls kj17 _ _ t388 1 t397 _ ?side1 ?side2 A45.out).mono ?_); (case side1 => exact kC_ ((Kd.R_reads' HO_10.out).2.2)); (case side2 => rw [show t388.length = t376.length from (Kd.R_reads' HO_10.out).1.symm]; exact (Kd.R_reads' HO_10.out).2.1); rintro e w68 ⟨rfl, hb⟩; refine ⟨_, rfl, ?_⟩; replace HO_8 := Aside0.mk (Kd.R_below (kR_ HO_8.out) hb); replace HO_10 := Aside0.mk (Kd.R_below (kR_ HO_10.out) hb); replace HO392 := Aside0.mk (Kd.R_below (kR_ HO392.out) hb); replace HO395 := Aside0.mk (Kd.R_below (kR_ HO395.out) hb); replace HB := Aside0.mk (below_step hb_ hb); (try clear hb)))
             go_ret
             exact ⟨er_, hb_⟩
          ·replace c44 := Bool.eq_false_iff.mpr c44
           subst c44
           have H1 : (some false) = some r := by rw [if_neg (show ¬ (false = true) by decide)] at H; exact H
           clear H
           have H := H1
           clear H1
           exact absurd H (by subst hrt; decide)
         ·rw [if_neg c40] at H
          have c40b0 : (t389 == t387) = false := beq_eq_false_iff_ne.mpr c40
          have c40b1 : (t389 != t387) = true := bne_iff_ne.mpr c40
          exact absurd H (by subst hrt; decide)
    ·replace c16 := Bool.eq_false_iff.mpr c16
     subst c16
     have H1 : (some false) = some r := by rw [if_neg (show ¬ (false = true) by decide)] at H; exact H
     clear H
     have H := H1
     clear H1
     exact absurd H (by subst hrt; decide)
   ·replace c13 := Bool.eq_false_iff.mpr c13
    subst c13
    have H1 : (some false) = some r := by rw [if_neg (show ¬ (false = true) by decide)] at H; exact H
    clear H
    have H := H1
    clear H1
    exact absurd H (by subst hrt; decide)
end Go.Proofs.YtjgbidklkhohfaaGreatDoor.P
