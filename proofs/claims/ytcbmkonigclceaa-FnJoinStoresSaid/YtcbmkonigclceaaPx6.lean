-- The functions of the seat as plain Lean functions, made by the kit's print.py for all laws at once. Not trusted: Lean checks it.
import Derived.Test.YtcbmkonigclceaaPx0
import Derived.Test.YtcbmkonigclceaaPx1
import Derived.Test.YtcbmkonigclceaaPx2
import Derived.Test.YtcbmkonigclceaaPx3
import Derived.Test.YtcbmkonigclceaaPx4
import Derived.Test.YtcbmkonigclceaaPx5
namespace Go.Proofs.Ytcbmkonigclceaa.P
open Go.RowKit Go.Proofs.YtcbmkonigclceaaW.PrintWords Go.Proofs.YtcbmkonigclceaaW.PrintLast Go.Proofs.YtcbmkonigclceaaW.PrintMore
attribute [local go_sem] max2_int min2_int max_two min_two max_three min_three max_four min_four   -- for this text's walks alone
set_option linter.unusedVariables false
set_option linter.unusedSimpArgs false
/-! ### spec_l10Drop: function 106 -/
mutual
def spec_l10Drop.l0 : Nat → List (S65) → List ByteArray → List (S109) → Bool → Int → Int → Option ((List (S65)) × Int × Bool)
 | 0, _, _, _, _, _, _ => none
 | k + 1, x0, x2, x11, x12, x13, x14 => if x14 < (x11.length : Int) then (if x12 = true then (if 0 ≤ x14 then (if 0 < (x2.length : Int) then (if ((rd_T109 x11 x14).f0).toList = (rdOf ByteArray.empty x2 0).toList then (spec_l10Drop.l0 k x0 x2 x11 x12 ((rd_T109 x11 x14).f1) (wrap64 (x14 + 1))) else (spec_l10Drop.l0 k x0 x2 x11 x12 x13 (wrap64 (x14 + 1)))) else (none)) else (none)) else (spec_l10Drop.l0 k x0 x2 x11 x12 x13 (wrap64 (x14 + 1)))) else (if x13 < 0 then (some (x0, (-1), false)) else (if (x2.length : Int) > 1 then (if 1 ≤ (x2.length : Int) then ((spec_l10Drop.f k x0 x13 (x2.drop 1)).bind fun bt1052 => (if bt1052.2.2 = true then (spec_l10Drop.j1 k bt1052.1 x2 x11 bt1052.2.1) else (some (x0, (-1), false)))) else (none)) else (spec_l10Drop.j1 k x0 x2 x11 (-1))))
def spec_l10Drop.j1 : Nat → List (S65) → List ByteArray → List (S109) → Int → Option ((List (S65)) × Int × Bool)
 | 0, _, _, _, _ => none
 | k + 1, x0, x2, x11, x15 => if 0 < (x2.length : Int) then ((spec_DropEntry.f k x11 (rdOf ByteArray.empty x2 0)).bind fun bt1058 => (if x15 ≥ 0 then ((spec_PutEntry.f k x11 (rdOf ByteArray.empty x2 0) x15).bind fun bt1063 => (spec_l10Drop.j2 k x0 bt1063.1)) else (spec_l10Drop.j2 k x0 bt1058.1))) else (none)
def spec_l10Drop.j2 : Nat → List (S65) → List (S109) → Option ((List (S65)) × Int × Bool)
 | 0, _, _ => none
 | k + 1, x0, x19 => if (x19.length : Int) = 0 then (some (x0, (-1), true)) else ((spec_FolderText.f k x19).bind fun t1067 => ((spec_PutText.f k x0 t1067).bind fun bt1068 => (some (bt1068.1, bt1068.2.1, bt1068.2.2))))
def spec_l10Drop.f : Nat → List (S65) → Int → List ByteArray → Option ((List (S65)) × Int × Bool)
 | 0, _, _, _ => none
 | k + 1, l0, a1, l2 => (spec_l4Get.f k l0 a1).bind fun bt1042 => ((spec_ReadFolder.f k bt1042.1).bind fun bt1044 => (spec_l10Drop.l0 k l0 l2 bt1044.1 bt1044.2 (-1) 0))
end
set_option maxHeartbeats 8000000 in
set_option maxRecDepth 100000 in
theorem spec_l10Drop.calls (k : Nat) : ∀ (P0_ : Nat → Prop) (A0 : Option Addr) (c0 : Nat) (l0 : List (S65)) (a1 : Int) (A2 : Option Addr) (c2 : Nat) (l2 : List ByteArray) (r1 : List (S65)) (r2 : Int) (r3 : Bool) (w : World) (hs0 : Kd.V k65 65 w w.heap.size (fun k_ => P0_ k_) (.slice A0 l0.length c0) l0) (hr2 : Kd.C Kd.string w A2 l2.length l2) (hc2 : l2.length ≤ c2) (h : spec_l10Drop.f k l0 a1 l2 = some (r1, r2, r3)),
  Calls Try.prog 106 #[.slice A0 l0.length c0, .int .i64 a1, .slice A2 l2.length c2] w fun e w' => ∃ v0_ : Value, e = .returned (.tuple #[v0_, .int .i64 r2, .bool r3]) ∧ Kd.V k65 65 w' w.heap.size (fun k_ => (P0_ k_ ∨ w.heap.size ≤ k_)) v0_ r1 ∧ Below w.heap.size w w' := by
 induction k using Nat.strongRecOn with
 | _ k ih =>
 intro P0_ A0 c0 l0 a1 A2 c2 l2 r1 r2 r3 w hs0 hr2 hc2 h
 cases k with
 | zero => exact absurd h (by simp [spec_l10Drop.f])
 | succ k =>
 simp only [spec_l10Drop.f] at h
 have hu109 := Try.underlying109
 have HO0 := Aside0.mk (show Kd.V k65 65 w w.heap.size (fun k_ => (P0_ k_ ∨ w.heap.size ≤ k_)) (.slice A0 l0.length c0) l0 from Kd.V_mono hs0 (fun k_ hk => .inl hk))
 have HR2 := Aside0.mk hr2
 have HC2 := Aside0.mk hc2
 clear hr2 hc2
 have HB := Aside0.mk (Below.refl w.heap.size w)
 have H : ((spec_l4Get.f k l0 a1).bind fun bt1042 => ((spec_ReadFolder.f k bt1042.1).bind fun bt1044 => (spec_l10Drop.l0 k l0 l2 bt1044.1 bt1044.2 (-1) 0))) = some (r1, r2, r3) := h
 clear h
 replace H := Option.bind_eq_some_iff.mp H
 obtain ⟨⟨t1042, t1043⟩, A40, H⟩ := H
 replace H : ((spec_ReadFolder.f k t1042).bind fun bt1044 => (spec_l10Drop.l0 k l0 l2 bt1044.1 bt1044.2 (-1) 0)) = some (r1, r2, r3) := H
 have A4 := Aside0.mk A40
 clear A40
 replace H := Option.bind_eq_some_iff.mp H
 obtain ⟨⟨t1044, t1045⟩, A50, H⟩ := H
 replace H : (spec_l10Drop.l0 k l0 l2 t1044 t1045 (-1) 0) = some (r1, r2, r3) := H
 have A5 := Aside0.mk A50
 clear A50
 have H' := Aside0.mk H
 clear H
 go_enter Try.func106, Try.ntmps106
 go_wp2_with (first | (go_at_call 108; (with_reducible refine (spec_l4Get.calls k _ _ l0 a1 t1042 t1043 _ ?side1 ?side2 A4.out).mono ?_); (case side1 => exact kC_ ((Kd.V_reads' HO0.out).2.2)); (case side2 => exact (Kd.V_reads' HO0.out).2.1); rintro e w' ⟨rfl, ⟨nd, rfl⟩⟩; (try first | exact ⟨rfl, _, World.drewN_drewN _ _ _⟩ | exact ⟨rfl, _, Eq.trans (World.drewN_drewN _ _ _) (congrArg (World.drewN _) (Nat.add_assoc _ _ _))⟩)) | (go_at_call 114; (with_reducible refine (spec_ReadFolder.calls k t1042 t1044 t1045 _ A5.out).mono ?_); rintro e w6 ⟨v1046, rfl, ho0, hb⟩; have n0_ := Aside0.mk (Kd.V_elder' (kV_ HO0.out) (Kd.R_base ho0) hb); have n1_ := Aside0.mk (Kd.R_lower (Kd.R_newM (M := fun k_ => (w.heap.size ≤ k_)) ho0 (below_size hb_) (fun k_ h_ => h_)) (below_size hb_)); have n2_ := Aside0.mk (below_step hb_ hb); clear HO0; clear HB; have HO0 := n0_; have HO1047 := n1_; have HB := n2_; clear n0_ n1_ n2_; (try clear hb); (try clear ho0)))
 repeat (go_quiet (first | (go_at_call 108; (with_reducible refine (spec_l4Get.calls k _ _ l0 a1 t1042 t1043 _ ?side1 ?side2 A4.out).mono ?_); (case side1 => exact kC_ ((Kd.V_reads' HO0.out).2.2)); (case side2 => exact (Kd.V_reads' HO0.out).2.1); rintro e w' ⟨rfl, ⟨nd, rfl⟩⟩; (try first | exact ⟨rfl, _, World.drewN_drewN _ _ _⟩ | exact ⟨rfl, _, Eq.trans (World.drewN_drewN _ _ _) (congrArg (World.drewN _) (Nat.add_assoc _ _ _))⟩)) | (go_at_call 114; (with_reducible refine (spec_ReadFolder.calls k t1042 t1044 t1045 _ A5.out).mono ?_); rintro e w6 ⟨v1046, rfl, ho0, hb⟩; have n0_ := Aside0.mk (Kd.V_elder' (kV_ HO0.out) (Kd.R_base ho0) hb); have n1_ := Aside0.mk (Kd.R_lower (Kd.R_newM (M := fun k_ => (w.heap.size ≤ k_)) ho0 (below_size hb_) (fun k_ h_ => h_)) (below_size hb_)); have n2_ := Aside0.mk (below_step hb_ hb); clear HO0; clear HB; have HO0 := n0_; have HO1047 := n1_; have HB := n2_; clear n0_ n1_ n2_; (try clear hb); (try clear ho0))); try go_wp2_with (first | (go_at_call 108; (with_reducible refine (spec_l4Get.calls k _ _ l0 a1 t1042 t1043 _ ?side1 ?side2 A4.out).mono ?_); (case side1 => exact kC_ ((Kd.V_reads' HO0.out).2.2)); (case side2 => exact (Kd.V_reads' HO0.out).2.1); rintro e w' ⟨rfl, ⟨nd, rfl⟩⟩; (try first | exact ⟨rfl, _, World.drewN_drewN _ _ _⟩ | exact ⟨rfl, _, Eq.trans (World.drewN_drewN _ _ _) (congrArg (World.drewN _) (Nat.add_assoc _ _ _))⟩)) | (go_at_call 114; (with_reducible refine (spec_ReadFolder.calls k t1042 t1044 t1045 _ A5.out).mono ?_); rintro e w6 ⟨v1046, rfl, ho0, hb⟩; have n0_ := Aside0.mk (Kd.V_elder' (kV_ HO0.out) (Kd.R_base ho0) hb); have n1_ := Aside0.mk (Kd.R_lower (Kd.R_newM (M := fun k_ => (w.heap.size ≤ k_)) ho0 (below_size hb_) (fun k_ h_ => h_)) (below_size hb_)); have n2_ := Aside0.mk (below_step hb_ hb); clear HO0; clear HB; have HO0 := n0_; have HO1047 := n1_; have HB := n2_; clear n0_ n1_ n2_; (try clear hb); (try clear ho0))))
 go_loopg [13, 14] k (fun kq v13 v14 w' => ∃ (x13_1 : Int) (x14_1 : Int), v13 = .int .i64 x13_1 ∧ v14 = .int .i64 x14_1 ∧ Aside0 (spec_l10Drop.l0 kq l0 l2 t1044 t1045 x13_1 x14_1 = some (r1, r2, r3)) ∧ Aside0 (kq ≤ k) ∧ Aside0 (Kd.V k65 65 w' w.heap.size (fun k_ => (P0_ k_ ∨ w.heap.size ≤ k_) ∧ some k_ ≠ (v1046 : Value).ownBlock) (.slice A0 l0.length c0) l0) ∧ Aside0 (Kd.R k109 109 w' w.heap.size (fun k_ => (w.heap.size ≤ k_)) v1046 t1044) ∧ Aside0 (Below w.heap.size w w'))
 case atStart => exact ⟨((-1)), (0), rs_, rs_, H', ⟨Nat.le_refl _⟩, ⟨by refine kV_ ?_; exact HO0.out⟩, ⟨by refine kR_ ?_; exact Kd.R_mono HO1047.out (fun _ hk => hk.1)⟩, ⟨hb_⟩⟩
 case round =>
  clear H'
  try clear c1
  try clear c2
  try clear p2
  obtain ⟨x13_1, x14_1, rfl, rfl, HA, HK1, HO_0, HO_11, HB⟩ := hrel
  cases gk with
  | zero => exact absurd HA.out (by simp [spec_l10Drop.l0])
  | succ k1 =>
   have H := HA.out
   clear HA
   simp only [spec_l10Drop.l0] at H
   by_cases c7 : x14_1 < (t1044.length : Int)
   ·rw [if_pos c7] at H
    have c7b0 : decide (x14_1 < (t1044.length : Int)) = true := decide_eq_true c7
    clear c7
    by_cases c8 : t1045 = true
    ·subst c8
     have H1 : (if 0 ≤ x14_1 then (if 0 < (l2.length : Int) then (if ((rd_T109 t1044 x14_1).f0).toList = (rdOf ByteArray.empty l2 0).toList then (spec_l10Drop.l0 k1 l0 l2 t1044 true ((rd_T109 t1044 x14_1).f1) (wrap64 (x14_1 + 1))) else (spec_l10Drop.l0 k1 l0 l2 t1044 true x13_1 (wrap64 (x14_1 + 1)))) else (none)) else (none)) = some (r1, r2, r3) := by rw [if_pos rfl] at H; exact H
     clear H
     have H := H1
     clear H1
     by_cases c9 : 0 ≤ x14_1; rotate_left
     ·rw [if_neg c9] at H; exact absurd H (by simp)
     rw [if_pos c9] at H
     have c9b0 : decide (0 ≤ x14_1) = true := decide_eq_true c9
     clear c9
     by_cases c10 : 0 < (l2.length : Int); rotate_left
     ·rw [if_neg c10] at H; exact absurd H (by simp)
     rw [if_pos c10] at H
     have c10b0 : decide (0 < (l2.length : Int)) = true := decide_eq_true c10
     have c10b1 : decide (0 < l2.length) = true := decide_eq_true (by omega)
     clear c10
     by_cases c11 : ((rd_T109 t1044 x14_1).f0).toList = (rdOf ByteArray.empty l2 0).toList
     ·rw [if_pos c11] at H
      have c11b0 : (((rd_T109 t1044 x14_1).f0).toList == (rdOf ByteArray.empty l2 0).toList) = true := beq_iff_eq.mpr c11
      have c11b1 : (((rd_T109 t1044 x14_1).f0).toList != (rdOf ByteArray.empty l2 0).toList) = false := bne_eq_false_iff_eq.mpr c11
      clear c11
      have H' := Aside0.mk H
      clear H
      obtain ⟨Ao12, co12, eo12⟩ := Kd.R_slice HO_11.out
      subst eo12
      have p1048 : 0 ≤ (x14_1 : Int) := dt_
      have q1048 : x14_1 < (t1044.length : Int) := dt_
      obtain ⟨ad1048, e1048, hx1048_0, hx1048_1⟩ := at_T109 (Kd.R_reads' HO_11.out).2.2 x14_1 p1048 q1048
      cases e1048
      replace p1048 := eq_true p1048
      replace q1048 := eq_true q1048
      have p1049 : 0 ≤ (0 : Int) := (by omega)
      have q1049 : 0 < (l2.length : Int) := dt_
      obtain ⟨ad1049, e1049, hx1049_0⟩ := Kd.at_string HR2.out 0 p1049 q1049
      cases e1049
      have qi1049 : (0 < l2.length) = True := eq_true (by omega)
      (try rw [show ((0 : Int)).toNat = 0 from rfl] at hx1049_0)
      (try rw [Addr.add_zero'] at hx1049_0)
      replace hx1049_0 := cb_ HB.out hx1049_0
      replace p1049 := eq_true p1049
      replace q1049 := eq_true q1049
      have p1050 : 0 ≤ (x14_1 : Int) := dt_
      have q1050 : x14_1 < (t1044.length : Int) := dt_
      obtain ⟨ad1050, e1050, hx1050_0, hx1050_1⟩ := at_T109 (Kd.R_reads' HO_11.out).2.2 x14_1 p1050 q1050
      obtain rfl : ad1048 = ad1050 := (by injection e1050)
      replace p1050 := eq_true p1050
      replace q1050 := eq_true q1050
      go_wp2
      repeat (go_quiet (fail); try go_wp2)
      go_roundg k1
      case measure => have := HK1.out; omega
      case rel => exact ⟨((rd_T109 t1044 x14_1).f1), (wrap64 (x14_1 + 1)), rs_, rs_, H', ⟨by have := HK1.out; omega⟩, ⟨by refine kV_ ?_; exact HO_0.out⟩, ⟨by refine kR_ ?_; exact HO_11.out⟩, ⟨hb_⟩⟩
     ·rw [if_neg c11] at H
      have c11b0 : (((rd_T109 t1044 x14_1).f0).toList == (rdOf ByteArray.empty l2 0).toList) = false := beq_eq_false_iff_ne.mpr c11
      have c11b1 : (((rd_T109 t1044 x14_1).f0).toList != (rdOf ByteArray.empty l2 0).toList) = true := bne_iff_ne.mpr c11
      have H' := Aside0.mk H
      clear H
      obtain ⟨Ao13, co13, eo13⟩ := Kd.R_slice HO_11.out
      subst eo13
      have p1048 : 0 ≤ (x14_1 : Int) := dt_
      have q1048 : x14_1 < (t1044.length : Int) := dt_
      obtain ⟨ad1048, e1048, hx1048_0, hx1048_1⟩ := at_T109 (Kd.R_reads' HO_11.out).2.2 x14_1 p1048 q1048
      cases e1048
      replace p1048 := eq_true p1048
      replace q1048 := eq_true q1048
      have p1049 : 0 ≤ (0 : Int) := (by omega)
      have q1049 : 0 < (l2.length : Int) := dt_
      obtain ⟨ad1049, e1049, hx1049_0⟩ := Kd.at_string HR2.out 0 p1049 q1049
      cases e1049
      have qi1049 : (0 < l2.length) = True := eq_true (by omega)
      (try rw [show ((0 : Int)).toNat = 0 from rfl] at hx1049_0)
      (try rw [Addr.add_zero'] at hx1049_0)
      replace hx1049_0 := cb_ HB.out hx1049_0
      replace p1049 := eq_true p1049
      replace q1049 := eq_true q1049
      go_wp2
      repeat (go_quiet (fail); try go_wp2)
      go_roundg k1
      case measure => have := HK1.out; omega
      case rel => exact ⟨(x13_1), (wrap64 (x14_1 + 1)), rs_, rs_, H', ⟨by have := HK1.out; omega⟩, ⟨by refine kV_ ?_; exact HO_0.out⟩, ⟨by refine kR_ ?_; exact HO_11.out⟩, ⟨hb_⟩⟩
    ·replace c8 := Bool.eq_false_iff.mpr c8
     subst c8
     have H1 : (spec_l10Drop.l0 k1 l0 l2 t1044 false x13_1 (wrap64 (x14_1 + 1))) = some (r1, r2, r3) := by rw [if_neg (show ¬ (false = true) by decide)] at H; exact H
     clear H
     have H := H1
     clear H1
     have H' := Aside0.mk H
     clear H
     obtain ⟨Ao14, co14, eo14⟩ := Kd.R_slice HO_11.out
     subst eo14
     go_wp2
     repeat (go_quiet (fail); try go_wp2)
     go_roundg k1
     case measure => have := HK1.out; omega
     case rel => exact ⟨(x13_1), (wrap64 (x14_1 + 1)), rs_, rs_, H', ⟨by have := HK1.out; omega⟩, ⟨by refine kV_ ?_; exact HO_0.out⟩, ⟨by refine kR_ ?_; exact HO_11.out⟩, ⟨hb_⟩⟩
   ·rw [if_neg c7] at H
    have c7b0 : decide (x14_1 < (t1044.length : Int)) = false := decide_eq_false c7
    clear c7
    by_cases c15 : x13_1 < 0
    ·rw [if_pos c15] at H
     have c15b0 : decide (x13_1 < 0) = true := decide_eq_true c15
     clear c15
     simp only [Option.some.injEq, Prod.mk.injEq] at H
     obtain ⟨rfl, rfl, rfl⟩ := H
     obtain ⟨Ao16, co16, eo16⟩ := Kd.R_slice HO_11.out
     subst eo16
     go_wp2
     repeat (go_quiet (fail); try go_wp2)
     go_ret3
     exact ⟨_, er_, by refine kV_ ?_; exact Kd.V_mono HO_0.out (fun _ hk => hk.1), hb_⟩
    ·rw [if_neg c15] at H
     have c15b0 : decide (x13_1 < 0) = false := decide_eq_false c15
     clear c15
     have HC17 := Aside0.mk H
     clear H
     obtain ⟨Ao18, co18, eo18⟩ := Kd.R_slice HO_11.out
     subst eo18
     go_upto_if 60 with (fail)
     repeat (go_quiet (fail); go_upto_if 60 with (fail))
     go_cut [0, 15] (fun v0 v15 wc => ∃ (kq : Nat) (x0_16 : List (S65)) (x15_16 : Int), v15 = .int .i64 x15_16 ∧ Aside0 (spec_l10Drop.j1 kq x0_16 l2 t1044 x15_16 = some (r1, r2, r3)) ∧ Aside0 (kq ≤ k1) ∧ Aside0 (Kd.V k65 65 wc w.heap.size (fun k_ => (P0_ k_ ∨ w.heap.size ≤ k_) ∧ some k_ ≠ ((.slice Ao18 t1044.length co18) : Value).ownBlock) v0 x0_16) ∧ Aside0 (Kd.R k109 109 wc w.heap.size (fun k_ => (w.heap.size ≤ k_)) (.slice Ao18 t1044.length co18) t1044) ∧ Aside0 (Below w.heap.size w wc))
     case first =>
      have H := HC17.out
      clear HC17
      by_cases c19 : (l2.length : Int) > 1
      ·rw [if_pos c19] at H
       have c19b0 : decide (1 < (l2.length : Int)) = true := decide_eq_true c19
       have c19b1 : decide (1 < l2.length) = true := decide_eq_true (by omega)
       clear c19
       (first | rw [c19b0] | (simp only [i64_w, i32_w]; rw [c19b0]) | skip)
       by_cases c20 : 1 ≤ (l2.length : Int); rotate_left
       ·rw [if_neg c20] at H; exact absurd H (by simp)
       rw [if_pos c20] at H
       have c20b0 := eq_true c20
       have c20b1 : decide (1 ≤ (l2.length : Int)) = true := decide_eq_true c20
       clear c20
       replace H := Option.bind_eq_some_iff.mp H
       obtain ⟨⟨t1052, t1055, t1056⟩, A210, H⟩ := H
       replace H : (if t1056 = true then (spec_l10Drop.j1 k1 t1052 l2 t1044 t1055) else (some (l0, (-1), false))) = some (r1, r2, r3) := H
       have A21 := Aside0.mk A210
       clear A210
       by_cases c22 : t1056 = true
       ·subst c22
        have H1 : (spec_l10Drop.j1 k1 t1052 l2 t1044 t1055) = some (r1, r2, r3) := by rw [if_pos rfl] at H; exact H
        clear H
        have H := H1
        clear H1
        have H' := Aside0.mk H
        clear H
        obtain ⟨i023, hi023, _, hsz23, _⟩ := info_parts info9
        obtain ⟨A23, hcut23, hA23, hC23⟩ := print_drop_of (P := Try.prog) Value.string (⟨#[]⟩ : ByteArray) 29 9 .i64 Try.underlying29 hi023 hsz23 A2 c2 l2 1 (by omega) (dt_) HC2.out
        have HR1051 := Aside0.mk (Kd.C_of_reads (h1 := fun _ => rfl) (hA23 _ (Kd.reads_of_C HR2.out)))
        have HC1051 := Aside0.mk hC23
        clear hA23 hC23 hi023 hsz23
        go_wp2_with (first | (go_at_call 106; refine calls_of_args (args' := #[.slice A0 l0.length c0, .int .i64 x13_1, .slice A23 (l2.drop 1).length (c2 - 1)]) (by first | (simp only [List.length_drop, List.length_take] <;> rfl) | rfl) ?_; (with_reducible refine (ih k1 (by have := HK1.out; omega) (fun k_ => ((P0_ k_ ∨ w.heap.size ≤ k_) ∧ some k_ ≠ (.slice Ao18 t1044.length co18 : Value).ownBlock)) _ _ l0 x13_1 _ _ (l2.drop 1) t1052 t1055 true _ ?side1 ?side2 ?side3 A21.out).mono ?_); (case side1 => exact HO_0.out); (case side2 => exact kC_ (Kd.C_below HR1051.out HB.out)); (case side3 => exact HC1051.out); rintro e w24 ⟨v1053, rfl, ho0, hb⟩; have n0_ := Aside0.mk (Kd.V_below (kV_ HO_0.out) hb); have n1_ := Aside0.mk (Kd.R_below (kR_ HO_11.out) hb); have n2_ := Aside0.mk (Kd.V_lower (Kd.V_mono (ok' := fun k_ => (P0_ k_ ∨ w.heap.size ≤ k_) ∧ some k_ ≠ (.slice Ao18 t1044.length co18 : Value).ownBlock) ho0 (fun k_ hk_ => ⟨Or.elim hk_ (fun hs_ => hs_.1) (fun hn_ => (.inr (Nat.le_trans (below_size hb_) hn_))), Or.elim hk_ (fun hs_ => hs_.2) (fun hn_ => (Kd.fresh' (Kd.R_lt (kR_ HO_11.out)) k_ hn_))⟩)) (below_size hb_)); have n3_ := Aside0.mk (below_step hb_ hb); clear HO_0; clear HO_11; clear HB; have HO_0 := n0_; have HO_11 := n1_; have HO1054 := n2_; have HB := n3_; clear n0_ n1_ n2_ n3_; (try clear hb); (try clear ho0)))
        repeat (go_quiet (first | (go_at_call 106; refine calls_of_args (args' := #[.slice A0 l0.length c0, .int .i64 x13_1, .slice A23 (l2.drop 1).length (c2 - 1)]) (by first | (simp only [List.length_drop, List.length_take] <;> rfl) | rfl) ?_; (with_reducible refine (ih k1 (by have := HK1.out; omega) (fun k_ => ((P0_ k_ ∨ w.heap.size ≤ k_) ∧ some k_ ≠ (.slice Ao18 t1044.length co18 : Value).ownBlock)) _ _ l0 x13_1 _ _ (l2.drop 1) t1052 t1055 true _ ?side1 ?side2 ?side3 A21.out).mono ?_); (case side1 => exact HO_0.out); (case side2 => exact kC_ (Kd.C_below HR1051.out HB.out)); (case side3 => exact HC1051.out); rintro e w24 ⟨v1053, rfl, ho0, hb⟩; have n0_ := Aside0.mk (Kd.V_below (kV_ HO_0.out) hb); have n1_ := Aside0.mk (Kd.R_below (kR_ HO_11.out) hb); have n2_ := Aside0.mk (Kd.V_lower (Kd.V_mono (ok' := fun k_ => (P0_ k_ ∨ w.heap.size ≤ k_) ∧ some k_ ≠ (.slice Ao18 t1044.length co18 : Value).ownBlock) ho0 (fun k_ hk_ => ⟨Or.elim hk_ (fun hs_ => hs_.1) (fun hn_ => (.inr (Nat.le_trans (below_size hb_) hn_))), Or.elim hk_ (fun hs_ => hs_.2) (fun hn_ => (Kd.fresh' (Kd.R_lt (kR_ HO_11.out)) k_ hn_))⟩)) (below_size hb_)); have n3_ := Aside0.mk (below_step hb_ hb); clear HO_0; clear HO_11; clear HB; have HO_0 := n0_; have HO_11 := n1_; have HO1054 := n2_; have HB := n3_; clear n0_ n1_ n2_ n3_; (try clear hb); (try clear ho0))); try go_wp2_with (first | (go_at_call 106; refine calls_of_args (args' := #[.slice A0 l0.length c0, .int .i64 x13_1, .slice A23 (l2.drop 1).length (c2 - 1)]) (by first | (simp only [List.length_drop, List.length_take] <;> rfl) | rfl) ?_; (with_reducible refine (ih k1 (by have := HK1.out; omega) (fun k_ => ((P0_ k_ ∨ w.heap.size ≤ k_) ∧ some k_ ≠ (.slice Ao18 t1044.length co18 : Value).ownBlock)) _ _ l0 x13_1 _ _ (l2.drop 1) t1052 t1055 true _ ?side1 ?side2 ?side3 A21.out).mono ?_); (case side1 => exact HO_0.out); (case side2 => exact kC_ (Kd.C_below HR1051.out HB.out)); (case side3 => exact HC1051.out); rintro e w24 ⟨v1053, rfl, ho0, hb⟩; have n0_ := Aside0.mk (Kd.V_below (kV_ HO_0.out) hb); have n1_ := Aside0.mk (Kd.R_below (kR_ HO_11.out) hb); have n2_ := Aside0.mk (Kd.V_lower (Kd.V_mono (ok' := fun k_ => (P0_ k_ ∨ w.heap.size ≤ k_) ∧ some k_ ≠ (.slice Ao18 t1044.length co18 : Value).ownBlock) ho0 (fun k_ hk_ => ⟨Or.elim hk_ (fun hs_ => hs_.1) (fun hn_ => (.inr (Nat.le_trans (below_size hb_) hn_))), Or.elim hk_ (fun hs_ => hs_.2) (fun hn_ => (Kd.fresh' (Kd.R_lt (kR_ HO_11.out)) k_ hn_))⟩)) (below_size hb_)); have n3_ := Aside0.mk (below_step hb_ hb); clear HO_0; clear HO_11; clear HB; have HO_0 := n0_; have HO_11 := n1_; have HO1054 := n2_; have HB := n3_; clear n0_ n1_ n2_ n3_; (try clear hb); (try clear ho0))))
        go_meet
        case rel => exact ⟨_, (t1052), (t1055), rs_, H', ⟨by have := HK1.out; first | omega | exact Nat.le_refl _⟩, ⟨by refine kV_ ?_; exact HO1054.out⟩, ⟨by refine kR_ ?_; exact HO_11.out⟩, ⟨hb_⟩⟩
       ·replace c22 := Bool.eq_false_iff.mpr c22
        subst c22
        have H1 : (some (l0, (-1), false)) = some (r1, r2, r3) := by rw [if_neg (show ¬ (false = true) by decide)] at H; exact H
        clear H
        have H := H1
        clear H1
        simp only [Option.some.injEq, Prod.mk.injEq] at H
        obtain ⟨rfl, rfl, rfl⟩ := H
        obtain ⟨i025, hi025, _, hsz25, _⟩ := info_parts info9
        obtain ⟨A25, hcut25, hA25, hC25⟩ := print_drop_of (P := Try.prog) Value.string (⟨#[]⟩ : ByteArray) 29 9 .i64 Try.underlying29 hi025 hsz25 A2 c2 l2 1 (by omega) (dt_) HC2.out
        have HR1051 := Aside0.mk (Kd.C_of_reads (h1 := fun _ => rfl) (hA25 _ (Kd.reads_of_C HR2.out)))
        have HC1051 := Aside0.mk hC25
        clear hA25 hC25 hi025 hsz25
        go_wp2_with (first | (go_at_call 106; refine calls_of_args (args' := #[.slice A0 l0.length c0, .int .i64 x13_1, .slice A25 (l2.drop 1).length (c2 - 1)]) (by first | (simp only [List.length_drop, List.length_take] <;> rfl) | rfl) ?_; (with_reducible refine (ih k1 (by have := HK1.out; omega) (fun k_ => ((P0_ k_ ∨ w.heap.size ≤ k_) ∧ some k_ ≠ (.slice Ao18 t1044.length co18 : Value).ownBlock)) _ _ l0 x13_1 _ _ (l2.drop 1) t1052 t1055 false _ ?side1 ?side2 ?side3 A21.out).mono ?_); (case side1 => exact HO_0.out); (case side2 => exact kC_ (Kd.C_below HR1051.out HB.out)); (case side3 => exact HC1051.out); rintro e w26 ⟨v1053, rfl, ho0, hb⟩; have n0_ := Aside0.mk (Kd.V_below (kV_ HO_0.out) hb); have n1_ := Aside0.mk (Kd.R_below (kR_ HO_11.out) hb); have n2_ := Aside0.mk (Kd.V_lower (Kd.V_mono (ok' := fun k_ => (P0_ k_ ∨ w.heap.size ≤ k_) ∧ some k_ ≠ (.slice Ao18 t1044.length co18 : Value).ownBlock) ho0 (fun k_ hk_ => ⟨Or.elim hk_ (fun hs_ => hs_.1) (fun hn_ => (.inr (Nat.le_trans (below_size hb_) hn_))), Or.elim hk_ (fun hs_ => hs_.2) (fun hn_ => (Kd.fresh' (Kd.R_lt (kR_ HO_11.out)) k_ hn_))⟩)) (below_size hb_)); have n3_ := Aside0.mk (below_step hb_ hb); clear HO_0; clear HO_11; clear HB; have HO_0 := n0_; have HO_11 := n1_; have HO1054 := n2_; have HB := n3_; clear n0_ n1_ n2_ n3_; (try clear hb); (try clear ho0)))
        repeat (go_quiet (first | (go_at_call 106; refine calls_of_args (args' := #[.slice A0 l0.length c0, .int .i64 x13_1, .slice A25 (l2.drop 1).length (c2 - 1)]) (by first | (simp only [List.length_drop, List.length_take] <;> rfl) | rfl) ?_; (with_reducible refine (ih k1 (by have := HK1.out; omega) (fun k_ => ((P0_ k_ ∨ w.heap.size ≤ k_) ∧ some k_ ≠ (.slice Ao18 t1044.length co18 : Value).ownBlock)) _ _ l0 x13_1 _ _ (l2.drop 1) t1052 t1055 false _ ?side1 ?side2 ?side3 A21.out).mono ?_); (case side1 => exact HO_0.out); (case side2 => exact kC_ (Kd.C_below HR1051.out HB.out)); (case side3 => exact HC1051.out); rintro e w26 ⟨v1053, rfl, ho0, hb⟩; have n0_ := Aside0.mk (Kd.V_below (kV_ HO_0.out) hb); have n1_ := Aside0.mk (Kd.R_below (kR_ HO_11.out) hb); have n2_ := Aside0.mk (Kd.V_lower (Kd.V_mono (ok' := fun k_ => (P0_ k_ ∨ w.heap.size ≤ k_) ∧ some k_ ≠ (.slice Ao18 t1044.length co18 : Value).ownBlock) ho0 (fun k_ hk_ => ⟨Or.elim hk_ (fun hs_ => hs_.1) (fun hn_ => (.inr (Nat.le_trans (below_size hb_) hn_))), Or.elim hk_ (fun hs_ => hs_.2) (fun hn_ => (Kd.fresh' (Kd.R_lt (kR_ HO_11.out)) k_ hn_))⟩)) (below_size hb_)); have n3_ := Aside0.mk (below_step hb_ hb); clear HO_0; clear HO_11; clear HB; have HO_0 := n0_; have HO_11 := n1_; have HO1054 := n2_; have HB := n3_; clear n0_ n1_ n2_ n3_; (try clear hb); (try clear ho0))); try go_wp2_with (first | (go_at_call 106; refine calls_of_args (args' := #[.slice A0 l0.length c0, .int .i64 x13_1, .slice A25 (l2.drop 1).length (c2 - 1)]) (by first | (simp only [List.length_drop, List.length_take] <;> rfl) | rfl) ?_; (with_reducible refine (ih k1 (by have := HK1.out; omega) (fun k_ => ((P0_ k_ ∨ w.heap.size ≤ k_) ∧ some k_ ≠ (.slice Ao18 t1044.length co18 : Value).ownBlock)) _ _ l0 x13_1 _ _ (l2.drop 1) t1052 t1055 false _ ?side1 ?side2 ?side3 A21.out).mono ?_); (case side1 => exact HO_0.out); (case side2 => exact kC_ (Kd.C_below HR1051.out HB.out)); (case side3 => exact HC1051.out); rintro e w26 ⟨v1053, rfl, ho0, hb⟩; have n0_ := Aside0.mk (Kd.V_below (kV_ HO_0.out) hb); have n1_ := Aside0.mk (Kd.R_below (kR_ HO_11.out) hb); have n2_ := Aside0.mk (Kd.V_lower (Kd.V_mono (ok' := fun k_ => (P0_ k_ ∨ w.heap.size ≤ k_) ∧ some k_ ≠ (.slice Ao18 t1044.length co18 : Value).ownBlock) ho0 (fun k_ hk_ => ⟨Or.elim hk_ (fun hs_ => hs_.1) (fun hn_ => (.inr (Nat.le_trans (below_size hb_) hn_))), Or.elim hk_ (fun hs_ => hs_.2) (fun hn_ => (Kd.fresh' (Kd.R_lt (kR_ HO_11.out)) k_ hn_))⟩)) (below_size hb_)); have n3_ := Aside0.mk (below_step hb_ hb); clear HO_0; clear HO_11; clear HB; have HO_0 := n0_; have HO_11 := n1_; have HO1054 := n2_; have HB := n3_; clear n0_ n1_ n2_ n3_; (try clear hb); (try clear ho0))))
        go_ret3
        exact ⟨_, er_, by refine kV_ ?_; exact Kd.V_mono HO_0.out (fun _ hk => hk.1), hb_⟩
      ·rw [if_neg c19] at H
       have c19b0 : decide (1 < (l2.length : Int)) = false := decide_eq_false c19
       have c19b1 : decide (1 < l2.length) = false := decide_eq_false (by omega)
       clear c19
       (first | rw [c19b0] | (simp only [i64_w, i32_w]; rw [c19b0]) | skip)
       have H' := Aside0.mk H
       clear H
       go_wp2
       repeat (go_quiet (fail); try go_wp2)
       go_meet
       case rel => exact ⟨_, (l0), ((-1)), rs_, H', ⟨by have := HK1.out; first | omega | exact Nat.le_refl _⟩, ⟨by refine kV_ ?_; exact HO_0.out⟩, ⟨by refine kR_ ?_; exact HO_11.out⟩, ⟨hb_⟩⟩
     case rest =>
      clear HC17
      try clear c1
      try clear p1
      try clear q1
      try clear hx1
      try clear qi1
      try clear c2
      try clear p2
      try clear p6
      try clear c7
      try clear c7b0
      try clear c8
      try clear c9
      try clear c9b0
      try clear c10
      try clear c10b0
      try clear c10b1
      try clear p10
      try clear q10
      try clear hx10
      try clear qi10
      try clear c11
      try clear c11b0
      try clear c11b1
      try clear c15
      try clear c15b0
      try clear c19
      try clear c19b0
      try clear c19b1
      try clear c20
      try clear c20b0
      try clear c20b1
      try clear c22
      try clear hx1048_0
      try clear hx1048_1
      try clear hx1049_0
      try clear hx1050_0
      try clear hx1050_1
      try clear p1048
      try clear p1049
      try clear p1050
      try clear p2
      try clear q1048
      try clear q1049
      try clear q1050
      obtain ⟨kq, x0_16, x15_16, rfl, HA, HJ16, HO_0, HO_11, HB⟩ := hcut
      cases kq with
      | zero => exact absurd HA.out (by simp [spec_l10Drop.j1])
      | succ kj16 =>
       have H := HA.out
       clear HA
       simp only [spec_l10Drop.j1] at H
       by_cases c27 : 0 < (l2.length : Int); rotate_left
       ·rw [if_neg c27] at H; exact absurd H (by simp)
       rw [if_pos c27] at H
       have c27b0 : decide (0 < (l2.length : Int)) = true := decide_eq_true c27
       have c27b1 : decide (0 < l2.length) = true := decide_eq_true (by omega)
       clear c27
       replace H := Option.bind_eq_some_iff.mp H
       obtain ⟨⟨t1058, t1059⟩, A280, H⟩ := H
       replace H : (if x15_16 ≥ 0 then ((spec_PutEntry.f kj16 t1044 (rdOf ByteArray.empty l2 0) x15_16).bind fun bt1063 => (spec_l10Drop.j2 kj16 x0_16 bt1063.1)) else (spec_l10Drop.j2 kj16 x0_16 t1058)) = some (r1, r2, r3) := H
       have A28 := Aside0.mk A280
       clear A280
       have HC29 := Aside0.mk H
       clear H
       have p1057 : 0 ≤ (0 : Int) := (by omega)
       have q1057 : 0 < (l2.length : Int) := dt_
       obtain ⟨ad1057, e1057, hx1057_0⟩ := Kd.at_string HR2.out 0 p1057 q1057
       cases e1057
       have qi1057 : (0 < l2.length) = True := eq_true (by omega)
       (try rw [show ((0 : Int)).toNat = 0 from rfl] at hx1057_0)
       (try rw [Addr.add_zero'] at hx1057_0)
       replace hx1057_0 := cb_ HB.out hx1057_0
       replace p1057 := eq_true p1057
       replace q1057 := eq_true q1057
       go_upto_if 84 with (first | (go_at_call 115; (with_reducible refine (spec_DropEntry.calls kj16 _ _ t1044 (rdOf ByteArray.empty l2 0) t1058 t1059 _ ?side1 ?side2 A28.out).mono ?_); (case side1 => exact kC_ ((Kd.R_reads' HO_11.out).2.2)); (case side2 => exact (Kd.R_reads' HO_11.out).2.1); rintro e w30 ⟨v1060, rfl, ho0, hb⟩; have n0_ := Aside0.mk (Kd.V_elder' (kV_ HO_0.out) (Kd.R_base ho0) hb); have n1_ := Aside0.mk (Kd.R_elder' (kR_ HO_11.out) (Kd.R_base ho0) hb); have n2_ := Aside0.mk (Kd.R_lower (Kd.R_new' (Kd.R_newM (M := fun k_ => (w.heap.size ≤ k_)) ho0 (below_size hb_) (fun k_ h_ => h_)) (Kd.R_lt (kR_ HO_11.out))) (below_size hb_)); have n3_ := Aside0.mk (below_step hb_ hb); clear HO_0; clear HO_11; clear HB; have HO_0 := n0_; have HO_11 := n1_; have HO1061 := n2_; have HB := n3_; clear n0_ n1_ n2_ n3_; (try clear hb); (try clear ho0)))
       repeat (go_quiet (first | (go_at_call 115; (with_reducible refine (spec_DropEntry.calls kj16 _ _ t1044 (rdOf ByteArray.empty l2 0) t1058 t1059 _ ?side1 ?side2 A28.out).mono ?_); (case side1 => exact kC_ ((Kd.R_reads' HO_11.out).2.2)); (case side2 => exact (Kd.R_reads' HO_11.out).2.1); rintro e w30 ⟨v1060, rfl, ho0, hb⟩; have n0_ := Aside0.mk (Kd.V_elder' (kV_ HO_0.out) (Kd.R_base ho0) hb); have n1_ := Aside0.mk (Kd.R_elder' (kR_ HO_11.out) (Kd.R_base ho0) hb); have n2_ := Aside0.mk (Kd.R_lower (Kd.R_new' (Kd.R_newM (M := fun k_ => (w.heap.size ≤ k_)) ho0 (below_size hb_) (fun k_ h_ => h_)) (Kd.R_lt (kR_ HO_11.out))) (below_size hb_)); have n3_ := Aside0.mk (below_step hb_ hb); clear HO_0; clear HO_11; clear HB; have HO_0 := n0_; have HO_11 := n1_; have HO1061 := n2_; have HB := n3_; clear n0_ n1_ n2_ n3_; (try clear hb); (try clear ho0))); go_upto_if 84 with (first | (go_at_call 115; (with_reducible refine (spec_DropEntry.calls kj16 _ _ t1044 (rdOf ByteArray.empty l2 0) t1058 t1059 _ ?side1 ?side2 A28.out).mono ?_); (case side1 => exact kC_ ((Kd.R_reads' HO_11.out).2.2)); (case side2 => exact (Kd.R_reads' HO_11.out).2.1); rintro e w30 ⟨v1060, rfl, ho0, hb⟩; have n0_ := Aside0.mk (Kd.V_elder' (kV_ HO_0.out) (Kd.R_base ho0) hb); have n1_ := Aside0.mk (Kd.R_elder' (kR_ HO_11.out) (Kd.R_base ho0) hb); have n2_ := Aside0.mk (Kd.R_lower (Kd.R_new' (Kd.R_newM (M := fun k_ => (w.heap.size ≤ k_)) ho0 (below_size hb_) (fun k_ h_ => h_)) (Kd.R_lt (kR_ HO_11.out))) (below_size hb_)); have n3_ := Aside0.mk (below_step hb_ hb); clear HO_0; clear HO_11; clear HB; have HO_0 := n0_; have HO_11 := n1_; have HO1061 := n2_; have HB := n3_; clear n0_ n1_ n2_ n3_; (try clear hb); (try clear ho0))))
       (try simp only [Act.put, List.setIfInBounds_toArray, List.set_cons_zero, List.set_cons_succ])
       go_cut [19] (fun v19 wc => ∃ (kq : Nat) (x19_28 : List (S109)), Aside0 (spec_l10Drop.j2 kq x0_16 x19_28 = some (r1, r2, r3)) ∧ Aside0 (kq ≤ kj16) ∧ Aside0 (Kd.V k65 65 wc w.heap.size (fun k_ => (P0_ k_ ∨ w.heap.size ≤ k_) ∧ some k_ ≠ (v19 : Value).ownBlock) u0 x0_16) ∧ Aside0 (Kd.R k109 109 wc w.heap.size (fun k_ => (w.heap.size ≤ k_)) v19 x19_28) ∧ Aside0 (Below w.heap.size w wc))
       case first =>
        have H := HC29.out
        clear HC29
        by_cases c31 : x15_16 ≥ 0
        ·rw [if_pos c31] at H
         have c31b0 : decide (0 ≤ x15_16) = true := decide_eq_true c31
         clear c31
         (first | rw [c31b0] | (simp only [i64_w, i32_w]; rw [c31b0]) | skip)
         replace H := Option.bind_eq_some_iff.mp H
         obtain ⟨⟨t1063, t1066⟩, A320, H⟩ := H
         replace H : (spec_l10Drop.j2 kj16 x0_16 t1063) = some (r1, r2, r3) := H
         have A32 := Aside0.mk A320
         clear A320
         have H' := Aside0.mk H
         clear H
         have p1062 : 0 ≤ (0 : Int) := (by omega)
         have q1062 : 0 < (l2.length : Int) := dt_
         obtain ⟨ad1062, e1062, hx1062_0⟩ := Kd.at_string HR2.out 0 p1062 q1062
         obtain rfl : ad1057 = ad1062 := (by injection e1062)
         have qi1062 : (0 < l2.length) = True := eq_true (by omega)
         (try rw [show ((0 : Int)).toNat = 0 from rfl] at hx1062_0)
         (try rw [Addr.add_zero'] at hx1062_0)
         replace hx1062_0 := cb_ HB.out hx1062_0
         replace p1062 := eq_true p1062
         replace q1062 := eq_true q1062
         go_wp2_with (first | (go_at_call 116; (with_reducible refine (spec_PutEntry.calls kj16 (fun k_ => some k_ = (.slice Ao18 t1044.length co18 : Value).ownBlock) _ _ t1044 (rdOf ByteArray.empty l2 0) x15_16 t1063 t1066 _ ?side1 A32.out).mono ?_); (case side1 => exact Kd.R_V (Kd.R_tight rfl (HO_11.out))); rintro e w33 ⟨v1064, rfl, ho0, hb⟩; have n0_ := Aside0.mk (Kd.V_elder' (kV_ HO_0.out) (Kd.R_base ho0) hb); have n1_ := Aside0.mk (Kd.R_elder' (kR_ HO_11.out) (Kd.R_base ho0) hb); have n2_ := Aside0.mk (Kd.R_elder' (kR_ HO1061.out) (Kd.R_base ho0) hb); have n3_ := Aside0.mk (Kd.R_lower (Kd.R_new' (Kd.R_new' (Kd.R_newM (M := fun k_ => (w.heap.size ≤ k_)) (Kd.R_mono (ok' := fun k_ => True) ho0 (fun _ hk_ => trivial)) (below_size hb_) (fun k_ h_ => h_)) (Kd.R_lt (kR_ HO_11.out))) (Kd.R_lt (kR_ HO1061.out))) (below_size hb_)); have n4_ := Aside0.mk (below_step hb_ hb); clear HO_0; clear HO_11; clear HO1061; clear HB; have HO_0 := n0_; have HO_11 := n1_; have HO1061 := n2_; have HO1065 := n3_; have HB := n4_; clear n0_ n1_ n2_ n3_ n4_; (try clear hb); (try clear ho0)))
         repeat (go_quiet (first | (go_at_call 116; (with_reducible refine (spec_PutEntry.calls kj16 (fun k_ => some k_ = (.slice Ao18 t1044.length co18 : Value).ownBlock) _ _ t1044 (rdOf ByteArray.empty l2 0) x15_16 t1063 t1066 _ ?side1 A32.out).mono ?_); (case side1 => exact Kd.R_V (Kd.R_tight rfl (HO_11.out))); rintro e w33 ⟨v1064, rfl, ho0, hb⟩; have n0_ := Aside0.mk (Kd.V_elder' (kV_ HO_0.out) (Kd.R_base ho0) hb); have n1_ := Aside0.mk (Kd.R_elder' (kR_ HO_11.out) (Kd.R_base ho0) hb); have n2_ := Aside0.mk (Kd.R_elder' (kR_ HO1061.out) (Kd.R_base ho0) hb); have n3_ := Aside0.mk (Kd.R_lower (Kd.R_new' (Kd.R_new' (Kd.R_newM (M := fun k_ => (w.heap.size ≤ k_)) (Kd.R_mono (ok' := fun k_ => True) ho0 (fun _ hk_ => trivial)) (below_size hb_) (fun k_ h_ => h_)) (Kd.R_lt (kR_ HO_11.out))) (Kd.R_lt (kR_ HO1061.out))) (below_size hb_)); have n4_ := Aside0.mk (below_step hb_ hb); clear HO_0; clear HO_11; clear HO1061; clear HB; have HO_0 := n0_; have HO_11 := n1_; have HO1061 := n2_; have HO1065 := n3_; have HB := n4_; clear n0_ n1_ n2_ n3_ n4_; (try clear hb); (try clear ho0))); try go_wp2_with (first | (go_at_call 116; (with_reducible refine (spec_PutEntry.calls kj16 (fun k_ => some k_ = (.slice Ao18 t1044.length co18 : Value).ownBlock) _ _ t1044 (rdOf ByteArray.empty l2 0) x15_16 t1063 t1066 _ ?side1 A32.out).mono ?_); (case side1 => exact Kd.R_V (Kd.R_tight rfl (HO_11.out))); rintro e w33 ⟨v1064, rfl, ho0, hb⟩; have n0_ := Aside0.mk (Kd.V_elder' (kV_ HO_0.out) (Kd.R_base ho0) hb); have n1_ := Aside0.mk (Kd.R_elder' (kR_ HO_11.out) (Kd.R_base ho0) hb); have n2_ := Aside0.mk (Kd.R_elder' (kR_ HO1061.out) (Kd.R_base ho0) hb); have n3_ := Aside0.mk (Kd.R_lower (Kd.R_new' (Kd.R_new' (Kd.R_newM (M := fun k_ => (w.heap.size ≤ k_)) (Kd.R_mono (ok' := fun k_ => True) ho0 (fun _ hk_ => trivial)) (below_size hb_) (fun k_ h_ => h_)) (Kd.R_lt (kR_ HO_11.out))) (Kd.R_lt (kR_ HO1061.out))) (below_size hb_)); have n4_ := Aside0.mk (below_step hb_ hb); clear HO_0; clear HO_11; clear HO1061; clear HB; have HO_0 := n0_; have HO_11 := n1_; have HO1061 := n2_; have HO1065 := n3_; have HB := n4_; clear n0_ n1_ n2_ n3_ n4_; (try clear hb); (try clear ho0))))
         go_meet
         case rel => exact ⟨_, (t1063), H', ⟨by have := HK1.out; have := HJ16.out; first | omega | exact Nat.le_refl _⟩, ⟨by refine kV_ ?_; exact Kd.V_mono HO_0.out (fun _ hk => ⟨hk.1.1.1, hk.2⟩)⟩, ⟨by refine kR_ ?_; exact Kd.R_mono HO1065.out (fun _ hk => hk.1.1.1)⟩, ⟨hb_⟩⟩
        ·rw [if_neg c31] at H
         have c31b0 : decide (0 ≤ x15_16) = false := decide_eq_false c31
         clear c31
         (first | rw [c31b0] | (simp only [i64_w, i32_w]; rw [c31b0]) | skip)
         have H' := Aside0.mk H
         clear H
         go_wp2
         repeat (go_quiet (fail); try go_wp2)
         go_meet
         case rel => exact ⟨_, (t1058), H', ⟨by have := HK1.out; have := HJ16.out; first | omega | exact Nat.le_refl _⟩, ⟨by refine kV_ ?_; exact Kd.V_mono HO_0.out (fun _ hk => ⟨hk.1.1, hk.2⟩)⟩, ⟨by refine kR_ ?_; exact Kd.R_mono HO1061.out (fun _ hk => hk.1.1)⟩, ⟨hb_⟩⟩
       case rest =>
        clear HC29
        try clear c1
        try clear p1
        try clear q1
        try clear hx1
        try clear qi1
        try clear c2
        try clear p2
        try clear c3
        try clear p6
        try clear c7
        try clear c7b0
        try clear c8
        try clear c9
        try clear c9b0
        try clear c10
        try clear c10b0
        try clear c10b1
        try clear p10
        try clear q10
        try clear hx10
        try clear qi10
        try clear c11
        try clear c11b0
        try clear c11b1
        try clear c15
        try clear c15b0
        try clear c19
        try clear c19b0
        try clear c19b1
        try clear c20
        try clear c20b0
        try clear c20b1
        try clear c22
        try clear c27
        try clear c27b0
        try clear c27b1
        try clear c31
        try clear c31b0
        try clear hx1048_0
        try clear hx1048_1
        try clear hx1049_0
        try clear hx1050_0
        try clear hx1050_1
        try clear hx1057_0
        try clear hx1062_0
        try clear p1
        try clear p10
        try clear p1048
        try clear p1049
        try clear p1050
        try clear p1057
        try clear p1062
        try clear p2
        try clear p6
        try clear q1
        try clear q10
        try clear q1048
        try clear q1049
        try clear q1050
        try clear q1057
        try clear q1062
        obtain ⟨kq, x19_28, HA, HJ28, HO_0, HO_19, HB⟩ := hcut
        cases kq with
        | zero => exact absurd HA.out (by simp [spec_l10Drop.j2])
        | succ kj28 =>
         have H := HA.out
         clear HA
         simp only [spec_l10Drop.j2] at H
         by_cases c34 : (x19_28.length : Int) = 0
         ·rw [if_pos c34] at H
          have c34b0 : ((x19_28.length : Int) == 0) = true := beq_iff_eq.mpr c34
          have c34b1 : ((x19_28.length : Int) != 0) = false := bne_eq_false_iff_eq.mpr c34
          clear c34
          simp only [Option.some.injEq, Prod.mk.injEq] at H
          obtain ⟨rfl, rfl, rfl⟩ := H
          obtain ⟨Ao35, co35, eo35⟩ := Kd.R_slice HO_19.out
          subst eo35
          go_wp2
          repeat (go_quiet (fail); try go_wp2)
          go_ret3
          exact ⟨_, er_, by refine kV_ ?_; exact Kd.V_mono HO_0.out (fun _ hk => hk.1), hb_⟩
         ·rw [if_neg c34] at H
          have c34b0 : ((x19_28.length : Int) == 0) = false := beq_eq_false_iff_ne.mpr c34
          have c34b1 : ((x19_28.length : Int) != 0) = true := bne_iff_ne.mpr c34
          have c34b2 : ¬ (x19_28 = []) := fun h_ => c34 (by rw [h_]; rfl)
          replace H := Option.bind_eq_some_iff.mp H
          obtain ⟨t1067, A360, H⟩ := H
          replace H : ((spec_PutText.f kj28 x0_16 t1067).bind fun bt1068 => (some (bt1068.1, bt1068.2.1, bt1068.2.2))) = some (r1, r2, r3) := H
          have A36 := Aside0.mk A360
          clear A360
          replace H := Option.bind_eq_some_iff.mp H
          obtain ⟨⟨t1068, t1069, t1070⟩, A370, H⟩ := H
          replace H : (some (t1068, t1069, t1070)) = some (r1, r2, r3) := H
          have A37 := Aside0.mk A370
          clear A370
          simp only [Option.some.injEq, Prod.mk.injEq] at H
          obtain ⟨rfl, rfl, rfl⟩ := H
          obtain ⟨Ao38, co38, eo38⟩ := Kd.R_slice HO_19.out
          subst eo38
          go_wp2_with (first | (go_at_call 96; (with_reducible refine (spec_FolderText.calls kj28 _ _ x19_28 t1067 _ ?side1 ?side2 A36.out).mono ?_); (case side1 => exact kC_ ((Kd.R_reads' HO_19.out).2.2)); (case side2 => exact (Kd.R_reads' HO_19.out).2.1); rintro e w39 ⟨rfl, hb⟩; have n0_ := Aside0.mk (Kd.V_below (kV_ HO_0.out) hb); have n1_ := Aside0.mk (Kd.R_below (kR_ HO_19.out) hb); have n2_ := Aside0.mk (below_step hb_ hb); clear HO_0; clear HO_19; clear HB; have HO_0 := n0_; have HO_19 := n1_; have HB := n2_; clear n0_ n1_ n2_; (try clear hb); obtain ⟨Ao40, co40, eo40⟩ := Kd.V_slice HO_0.out; subst eo40) | (go_at_call 57; (with_reducible refine (spec_PutText.calls kj28 _ _ x0_16 t1067 t1068 t1069 t1070 _ ?side1 ?side2 A37.out).mono ?_); (case side1 => exact kC_ ((Kd.V_reads' HO_0.out).2.2)); (case side2 => exact (Kd.V_reads' HO_0.out).2.1); rintro e w41 ⟨v1071, rfl, ho0, hb⟩; have n0_ := Aside0.mk (Kd.V_elder' (kV_ HO_0.out) (Kd.R_base ho0) hb); have n1_ := Aside0.mk (Kd.R_below (kR_ HO_19.out) hb); have n2_ := Aside0.mk (Kd.R_lower (Kd.R_newM (M := fun k_ => (w.heap.size ≤ k_)) ho0 (below_size hb_) (fun k_ h_ => h_)) (below_size hb_)); have n3_ := Aside0.mk (below_step hb_ hb); clear HO_0; clear HO_19; clear HB; have HO_0 := n0_; have HO_19 := n1_; have HO1072 := n2_; have HB := n3_; clear n0_ n1_ n2_ n3_; (try clear hb); (try clear ho0)))
          repeat (go_quiet (first | (go_at_call 96; (with_reducible refine (spec_FolderText.calls kj28 _ _ x19_28 t1067 _ ?side1 ?side2 A36.out).mono ?_); (case side1 => exact kC_ ((Kd.R_reads' HO_19.out).2.2)); (case side2 => exact (Kd.R_reads' HO_19.out).2.1); rintro e w39 ⟨rfl, hb⟩; have n0_ := Aside0.mk (Kd.V_below (kV_ HO_0.out) hb); have n1_ := Aside0.mk (Kd.R_below (kR_ HO_19.out) hb); have n2_ := Aside0.mk (below_step hb_ hb); clear HO_0; clear HO_19; clear HB; have HO_0 := n0_; have HO_19 := n1_; have HB := n2_; clear n0_ n1_ n2_; (try clear hb); obtain ⟨Ao40, co40, eo40⟩ := Kd.V_slice HO_0.out; subst eo40) | (go_at_call 57; (with_reducible refine (spec_PutText.calls kj28 _ _ x0_16 t1067 t1068 t1069 t1070 _ ?side1 ?side2 A37.out).mono ?_); (case side1 => exact kC_ ((Kd.V_reads' HO_0.out).2.2)); (case side2 => exact (Kd.V_reads' HO_0.out).2.1); rintro e w41 ⟨v1071, rfl, ho0, hb⟩; have n0_ := Aside0.mk (Kd.V_elder' (kV_ HO_0.out) (Kd.R_base ho0) hb); have n1_ := Aside0.mk (Kd.R_below (kR_ HO_19.out) hb); have n2_ := Aside0.mk (Kd.R_lower (Kd.R_newM (M := fun k_ => (w.heap.size ≤ k_)) ho0 (below_size hb_) (fun k_ h_ => h_)) (below_size hb_)); have n3_ := Aside0.mk (below_step hb_ hb); clear HO_0; clear HO_19; clear HB; have HO_0 := n0_; have HO_19 := n1_; have HO1072 := n2_; have HB := n3_; clear n0_ n1_ n2_ n3_; (try clear hb); (try clear ho0))); try go_wp2_with (first | (go_at_call 96; (with_reducible refine (spec_FolderText.calls kj28 _ _ x19_28 t1067 _ ?side1 ?side2 A36.out).mono ?_); (case side1 => exact kC_ ((Kd.R_reads' HO_19.out).2.2)); (case side2 => exact (Kd.R_reads' HO_19.out).2.1); rintro e w39 ⟨rfl, hb⟩; have n0_ := Aside0.mk (Kd.V_below (kV_ HO_0.out) hb); have n1_ := Aside0.mk (Kd.R_below (kR_ HO_19.out) hb); have n2_ := Aside0.mk (below_step hb_ hb); clear HO_0; clear HO_19; clear HB; have HO_0 := n0_; have HO_19 := n1_; have HB := n2_; clear n0_ n1_ n2_; (try clear hb); obtain ⟨Ao40, co40, eo40⟩ := Kd.V_slice HO_0.out; subst eo40) | (go_at_call 57; (with_reducible refine (spec_PutText.calls kj28 _ _ x0_16 t1067 t1068 t1069 t1070 _ ?side1 ?side2 A37.out).mono ?_); (case side1 => exact kC_ ((Kd.V_reads' HO_0.out).2.2)); (case side2 => exact (Kd.V_reads' HO_0.out).2.1); rintro e w41 ⟨v1071, rfl, ho0, hb⟩; have n0_ := Aside0.mk (Kd.V_elder' (kV_ HO_0.out) (Kd.R_base ho0) hb); have n1_ := Aside0.mk (Kd.R_below (kR_ HO_19.out) hb); have n2_ := Aside0.mk (Kd.R_lower (Kd.R_newM (M := fun k_ => (w.heap.size ≤ k_)) ho0 (below_size hb_) (fun k_ h_ => h_)) (below_size hb_)); have n3_ := Aside0.mk (below_step hb_ hb); clear HO_0; clear HO_19; clear HB; have HO_0 := n0_; have HO_19 := n1_; have HO1072 := n2_; have HB := n3_; clear n0_ n1_ n2_ n3_; (try clear hb); (try clear ho0))))
          go_ret3
          exact ⟨_, er_, Kd.V_mono (Kd.R_V (by refine kR_ ?_; exact Kd.R_mono HO1072.out (fun _ hk => hk.1))) (fun k_ hk => by first | exact ⟨(.inr (hk.1)), hk.2⟩ | exact (.inr (hk))), hb_⟩
/-! ### spec_DropAt: function 98 -/
mutual
def spec_DropAt.j0 : Nat → List (S65) → Int → List ByteArray → Bool → Option ((List (S65)) × Int × Bool)
 | 0, _, _, _, _ => none
 | k + 1, x0, x1, x9, x33 => if x33 = true then (some ((([] : List (S65))), (-1), false)) else ((some (([] : List (S65)) : List (S65))).bind fun y1081 => (if y1081.length + x0.length < 5864062014805 then ((some (y1081 ++ x0 : List (S65))).bind fun y1084 => ((spec_l9Walk.f k x0 x1 x9).bind fun bt1087 => (if bt1087.2 = true then ((spec_l10Drop.f k x0 x1 x9).bind fun bt1089 => (if bt1089.2.2 = true then (spec_DropAt.j1 k x1 y1084 bt1089.1 bt1089.2.1 bt1089.2.2 (decide (bt1089.2.1 < 0))) else (spec_DropAt.j1 k x1 y1084 bt1089.1 bt1089.2.1 bt1089.2.2 false))) else (some (y1084, x1, false))))) else (none)))
def spec_DropAt.j1 : Nat → Int → List (S65) → List (S65) → Int → Bool → Bool → Option ((List (S65)) × Int × Bool)
 | 0, _, _, _, _, _, _ => none
 | k + 1, x1, x11, x14, x15, x16, x61 => if x61 = true then ((spec_EmptyRoot.f k x14).bind fun bt1094 => (if bt1094.2.2 = true then ((some (([] : List (S65)) : List (S65))).bind fun y1099 => (if y1099.length + bt1094.1.length < 5864062014805 then (some ((y1099 ++ bt1094.1), bt1094.2.1, true)) else (none))) else (some (x11, x1, false)))) else (if x16 = true then ((some (([] : List (S65)) : List (S65))).bind fun y1105 => (if y1105.length + x14.length < 5864062014805 then (some ((y1105 ++ x14), x15, true)) else (none))) else (some (x11, x1, false)))
end
def spec_DropAt.f (k : Nat) (l0 : List (S65)) (a1 : Int) (a2 : ByteArray) : Option ((List (S65)) × Int × Bool) := (spec_PathParts.f k a2).bind fun bt1073 => ((spec_StoreValid.f k l0).bind fun t1077 => (if t1077 = true then (if bt1073.2 = true then (spec_DropAt.j0 k l0 a1 bt1073.1 ((bt1073.1.length : Int) == 0)) else (spec_DropAt.j0 k l0 a1 bt1073.1 true)) else (spec_DropAt.j0 k l0 a1 bt1073.1 true)))
set_option maxHeartbeats 8000000 in
set_option maxRecDepth 100000 in
theorem spec_DropAt.calls (k : Nat) (A0 : Option Addr) (c0 : Nat) (l0 : List (S65)) (a1 : Int) (a2 : ByteArray) (r1 : List (S65)) (r2 : Int) (r3 : Bool) (w : World) (hr0 : Kd.C k65 w A0 l0.length l0) (hc0 : l0.length ≤ c0) (h : spec_DropAt.f k l0 a1 a2 = some (r1, r2, r3)) :
  Calls Try.prog 98 #[.slice A0 l0.length c0, .int .i64 a1, .string a2] w fun e w' => ∃ v0_ : Value, e = .returned (.tuple #[v0_, .int .i64 r2, .bool r3]) ∧ Kd.R k65 65 w' w.heap.size (fun _ => True) v0_ r1 ∧ Below w.heap.size w w' := by
 have HR0 := Aside0.mk hr0
 have HC0 := Aside0.mk hc0
 clear hr0 hc0
 have HB := Aside0.mk (Below.refl w.heap.size w)
 have H : ((spec_PathParts.f k a2).bind fun bt1073 => ((spec_StoreValid.f k l0).bind fun t1077 => (if t1077 = true then (if bt1073.2 = true then (spec_DropAt.j0 k l0 a1 bt1073.1 ((bt1073.1.length : Int) == 0)) else (spec_DropAt.j0 k l0 a1 bt1073.1 true)) else (spec_DropAt.j0 k l0 a1 bt1073.1 true)))) = some (r1, r2, r3) := h
 clear h
 replace H := Option.bind_eq_some_iff.mp H
 obtain ⟨⟨t1073, t1074⟩, A40, H⟩ := H
 replace H : ((spec_StoreValid.f k l0).bind fun t1077 => (if t1077 = true then (if t1074 = true then (spec_DropAt.j0 k l0 a1 t1073 ((t1073.length : Int) == 0)) else (spec_DropAt.j0 k l0 a1 t1073 true)) else (spec_DropAt.j0 k l0 a1 t1073 true))) = some (r1, r2, r3) := H
 have A4 := Aside0.mk A40
 clear A40
 have HC5 := Aside0.mk H
 clear H
 go_enter Try.func98, Try.ntmps98
 go_upto_region 2 with (first | ((with_reducible refine gate_callee (f := 104) rfl ?_); refine gl_ (some 19) Try.func104 #[.string a2] ?_; (with_reducible refine (spec_PathParts.calls k a2 t1073 t1074 _ A4.out).mono ?_); rintro e w6 ⟨v1075, rfl, ho0, hb⟩; refine ⟨_, rfl, ?_⟩; have HO1076 := Aside0.mk (Kd.R_lower ho0 (below_size hb_)); replace HB := Aside0.mk (below_step hb_ hb); (try clear hb); (try clear ho0)))
 (try simp only [Act.put, List.setIfInBounds_toArray, List.set_cons_zero, List.set_cons_succ])
 go_cut [33] (fun v33 wc => ∃ (kq : Nat) (x33_4 : Bool), v33 = .bool x33_4 ∧ Aside0 (spec_DropAt.j0 kq l0 a1 t1073 x33_4 = some (r1, r2, r3)) ∧ Aside0 (kq ≤ k) ∧ Aside0 (Kd.R Kd.string 9 wc w.heap.size (fun _ => True) v1075 t1073) ∧ Aside0 (Below w.heap.size w wc))
 case first =>
  have H := HC5.out
  clear HC5
  replace H := Option.bind_eq_some_iff.mp H
  obtain ⟨t1077, A70, H⟩ := H
  replace H : (if t1077 = true then (if t1074 = true then (spec_DropAt.j0 k l0 a1 t1073 ((t1073.length : Int) == 0)) else (spec_DropAt.j0 k l0 a1 t1073 true)) else (spec_DropAt.j0 k l0 a1 t1073 true)) = some (r1, r2, r3) := H
  have A7 := Aside0.mk A70
  clear A70
  by_cases c8 : t1077 = true
  ·subst c8
   have H1 : (if t1074 = true then (spec_DropAt.j0 k l0 a1 t1073 ((t1073.length : Int) == 0)) else (spec_DropAt.j0 k l0 a1 t1073 true)) = some (r1, r2, r3) := by rw [if_pos rfl] at H; exact H
   clear H
   have H := H1
   clear H1
   by_cases c9 : t1074 = true
   ·subst c9
    have H1 : (spec_DropAt.j0 k l0 a1 t1073 ((t1073.length : Int) == 0)) = some (r1, r2, r3) := by rw [if_pos rfl] at H; exact H
    clear H
    have H := H1
    clear H1
    have H' := Aside0.mk H
    clear H
    go_wp2_with (first | ((with_reducible refine gate_callee (f := 83) rfl ?_); refine gl_ (some 23) Try.func83 #[.slice A0 l0.length c0] ?_; (with_reducible refine (spec_StoreValid.calls k _ _ l0 true _ ?side1 ?side2 A7.out).mono ?_); (case side1 => exact kC_ (Kd.C_below HR0.out HB.out)); (case side2 => exact HC0.out); rintro e w10 ⟨rfl, hb⟩; refine ⟨_, rfl, ?_⟩; replace HO1076 := Aside0.mk (Kd.R_below (kR_ HO1076.out) hb); replace HB := Aside0.mk (below_step hb_ hb); (try clear hb); obtain ⟨Ao11, co11, eo11⟩ := Kd.R_slice HO1076.out; subst eo11))
    go_meet
    case rel => exact ⟨_, (((t1073.length : Int) == 0)), rs_, H', ⟨by first | omega | exact Nat.le_refl _⟩, ⟨by refine kR_ ?_; exact HO1076.out⟩, ⟨hb_⟩⟩
   ·replace c9 := Bool.eq_false_iff.mpr c9
    subst c9
    have H1 : (spec_DropAt.j0 k l0 a1 t1073 true) = some (r1, r2, r3) := by rw [if_neg (show ¬ (false = true) by decide)] at H; exact H
    clear H
    have H := H1
    clear H1
    have H' := Aside0.mk H
    clear H
    go_wp2_with (first | ((with_reducible refine gate_callee (f := 83) rfl ?_); refine gl_ (some 23) Try.func83 #[.slice A0 l0.length c0] ?_; (with_reducible refine (spec_StoreValid.calls k _ _ l0 true _ ?side1 ?side2 A7.out).mono ?_); (case side1 => exact kC_ (Kd.C_below HR0.out HB.out)); (case side2 => exact HC0.out); rintro e w12 ⟨rfl, hb⟩; refine ⟨_, rfl, ?_⟩; replace HO1076 := Aside0.mk (Kd.R_below (kR_ HO1076.out) hb); replace HB := Aside0.mk (below_step hb_ hb); (try clear hb)))
    go_meet
    case rel => exact ⟨_, (true), rs_, H', ⟨by first | omega | exact Nat.le_refl _⟩, ⟨by refine kR_ ?_; exact HO1076.out⟩, ⟨hb_⟩⟩
  ·replace c8 := Bool.eq_false_iff.mpr c8
   subst c8
   have H1 : (spec_DropAt.j0 k l0 a1 t1073 true) = some (r1, r2, r3) := by rw [if_neg (show ¬ (false = true) by decide)] at H; exact H
   clear H
   have H := H1
   clear H1
   have H' := Aside0.mk H
   clear H
   go_wp2_with (first | ((with_reducible refine gate_callee (f := 83) rfl ?_); refine gl_ (some 23) Try.func83 #[.slice A0 l0.length c0] ?_; (with_reducible refine (spec_StoreValid.calls k _ _ l0 false _ ?side1 ?side2 A7.out).mono ?_); (case side1 => exact kC_ (Kd.C_below HR0.out HB.out)); (case side2 => exact HC0.out); rintro e w13 ⟨rfl, hb⟩; refine ⟨_, rfl, ?_⟩; replace HO1076 := Aside0.mk (Kd.R_below (kR_ HO1076.out) hb); replace HB := Aside0.mk (below_step hb_ hb); (try clear hb)))
   go_meet
   case rel => exact ⟨_, (true), rs_, H', ⟨by first | omega | exact Nat.le_refl _⟩, ⟨by refine kR_ ?_; exact HO1076.out⟩, ⟨hb_⟩⟩
 case rest =>
  clear HC5
  try clear c1
  try clear p2
  try clear c8
  try clear c9
  try clear c10
  obtain ⟨kq, x33_4, rfl, HA, HJ4, HO_9, HB⟩ := hcut
  cases kq with
  | zero => exact absurd HA.out (by simp [spec_DropAt.j0])
  | succ kj4 =>
   have H := HA.out
   clear HA
   simp only [spec_DropAt.j0] at H
   by_cases c14 : x33_4 = true
   ·subst c14
    have H1 : (some ((([] : List (S65))), (-1), false)) = some (r1, r2, r3) := by rw [if_pos rfl] at H; exact H
    clear H
    have H := H1
    clear H1
    obtain ⟨y1078, hy1078⟩ : ∃ y_ : List (S65), y_ = (([] : List (S65))) := ⟨_, rfl⟩
    replace H : (some (y1078, (-1), false)) = some (r1, r2, r3) := hq_ hy1078 H
    have Ny1078 := Aside0.mk hy1078
    clear hy1078
    simp only [Option.some.injEq, Prod.mk.injEq] at H
    obtain ⟨rfl, rfl, rfl⟩ := H
    go_wp2_with (first | ((with_reducible refine gate_dst (N := 34) rfl ?_); (try (refine gate_guard (by rfl) ?_; dsimp only)); refine Kd.R_lit k65 _ 65 ?hg (N := 34) ?hd (xs := ([] : List (S65))) (inner := []) (ok := fun _ => True) (okp := fun _ => True) ?hr ?hp (fun _ hk => hk) trivial (Below.refl _ _) (Nat.le_refl _) (by simp) ?_; (case hd => rfl); (case hg => rfl); (case hr => first | (go_simp; done) | (go_simp; rfl)); (case hp => exact (Reps.none _ _)); intro v1079 w15 ho16 hb hg_ hnew_; clear hg_ hnew_; (first | rw [← Ny1078.out] at ho16 | (simp only [Int.reduceToNat] at ho16; rw [← Ny1078.out] at ho16)); replace HO_9 := Aside0.mk (Kd.R_below (kR_ HO_9.out) hb); have HO1080 := Aside0.mk (Kd.R_lower ho16 (below_size hb_)); replace HB := Aside0.mk (below_step hb_ hb); clear hb ho16))
    go_ret3
    exact ⟨_, er_, by refine kR_ ?_; exact HO1080.out, hb_⟩
   ·replace c14 := Bool.eq_false_iff.mpr c14
    subst c14
    have H1 : ((some (([] : List (S65)) : List (S65))).bind fun y1081 => (if y1081.length + l0.length < 5864062014805 then ((some (y1081 ++ l0 : List (S65))).bind fun y1084 => ((spec_l9Walk.f kj4 l0 a1 t1073).bind fun bt1087 => (if bt1087.2 = true then ((spec_l10Drop.f kj4 l0 a1 t1073).bind fun bt1089 => (if bt1089.2.2 = true then (spec_DropAt.j1 kj4 a1 y1084 bt1089.1 bt1089.2.1 bt1089.2.2 (decide (bt1089.2.1 < 0))) else (spec_DropAt.j1 kj4 a1 y1084 bt1089.1 bt1089.2.1 bt1089.2.2 false))) else (some (y1084, a1, false))))) else (none))) = some (r1, r2, r3) := by rw [if_neg (show ¬ (false = true) by decide)] at H; exact H
    clear H
    have H := H1
    clear H1
    obtain ⟨y1081, hy1081⟩ : ∃ y_ : List (S65), y_ = (([] : List (S65))) := ⟨_, rfl⟩
    replace H : (if y1081.length + l0.length < 5864062014805 then ((some (y1081 ++ l0 : List (S65))).bind fun y1084 => ((spec_l9Walk.f kj4 l0 a1 t1073).bind fun bt1087 => (if bt1087.2 = true then ((spec_l10Drop.f kj4 l0 a1 t1073).bind fun bt1089 => (if bt1089.2.2 = true then (spec_DropAt.j1 kj4 a1 y1084 bt1089.1 bt1089.2.1 bt1089.2.2 (decide (bt1089.2.1 < 0))) else (spec_DropAt.j1 kj4 a1 y1084 bt1089.1 bt1089.2.1 bt1089.2.2 false))) else (some (y1084, a1, false))))) else (none)) = some (r1, r2, r3) := hq_ hy1081 H
    have Ny1081 := Aside0.mk hy1081
    clear hy1081
    by_cases c17 : y1081.length + l0.length < 5864062014805; rotate_left
    ·rw [if_neg c17] at H; exact absurd H (by simp)
    rw [if_pos c17] at H
    have LMc17 := Aside0.mk c17
    clear c17
    obtain ⟨y1084, hy1084⟩ : ∃ y_ : List (S65), y_ = (y1081 ++ l0) := ⟨_, rfl⟩
    replace H : ((spec_l9Walk.f kj4 l0 a1 t1073).bind fun bt1087 => (if bt1087.2 = true then ((spec_l10Drop.f kj4 l0 a1 t1073).bind fun bt1089 => (if bt1089.2.2 = true then (spec_DropAt.j1 kj4 a1 y1084 bt1089.1 bt1089.2.1 bt1089.2.2 (decide (bt1089.2.1 < 0))) else (spec_DropAt.j1 kj4 a1 y1084 bt1089.1 bt1089.2.1 bt1089.2.2 false))) else (some (y1084, a1, false)))) = some (r1, r2, r3) := hq_ hy1084 H
    have Ny1084 := Aside0.mk hy1084
    clear hy1084
    replace H := Option.bind_eq_some_iff.mp H
    obtain ⟨⟨t1087, t1088⟩, A180, H⟩ := H
    replace H : (if t1088 = true then ((spec_l10Drop.f kj4 l0 a1 t1073).bind fun bt1089 => (if bt1089.2.2 = true then (spec_DropAt.j1 kj4 a1 y1084 bt1089.1 bt1089.2.1 bt1089.2.2 (decide (bt1089.2.1 < 0))) else (spec_DropAt.j1 kj4 a1 y1084 bt1089.1 bt1089.2.1 bt1089.2.2 false))) else (some (y1084, a1, false))) = some (r1, r2, r3) := H
    have A18 := Aside0.mk A180
    clear A180
    by_cases c19 : t1088 = true
    ·subst c19
     have H1 : ((spec_l10Drop.f kj4 l0 a1 t1073).bind fun bt1089 => (if bt1089.2.2 = true then (spec_DropAt.j1 kj4 a1 y1084 bt1089.1 bt1089.2.1 bt1089.2.2 (decide (bt1089.2.1 < 0))) else (spec_DropAt.j1 kj4 a1 y1084 bt1089.1 bt1089.2.1 bt1089.2.2 false))) = some (r1, r2, r3) := by rw [if_pos rfl] at H; exact H
     clear H
     have H := H1
     clear H1
     replace H := Option.bind_eq_some_iff.mp H
     obtain ⟨⟨t1089, t1092, t1093⟩, A200, H⟩ := H
     replace H : (if t1093 = true then (spec_DropAt.j1 kj4 a1 y1084 t1089 t1092 t1093 (decide (t1092 < 0))) else (spec_DropAt.j1 kj4 a1 y1084 t1089 t1092 t1093 false)) = some (r1, r2, r3) := H
     have A20 := Aside0.mk A200
     clear A200
     have HC21 := Aside0.mk H
     clear H
     go_upto_region 9 with (first | ((with_reducible refine gate_dst (N := 35) rfl ?_); (try (refine gate_guard (by rfl) ?_; dsimp only)); refine Kd.R_lit k65 _ 65 ?hg (N := 35) ?hd (xs := ([] : List (S65))) (inner := []) (ok := fun _ => True) (okp := fun _ => True) ?hr ?hp (fun _ hk => hk) trivial (Below.refl _ _) (Nat.le_refl _) (by simp) ?_; (case hd => rfl); (case hg => rfl); (case hr => first | (go_simp; done) | (go_simp; rfl)); (case hp => exact (Reps.none _ _)); intro v1082 w22 ho23 hb hg_ hnew_; clear hg_ hnew_; (first | rw [← Ny1081.out] at ho23 | (simp only [Int.reduceToNat] at ho23; rw [← Ny1081.out] at ho23)); replace HO_9 := Aside0.mk (Kd.R_below (kR_ HO_9.out) hb); have HO1083 := Aside0.mk (Kd.R_lower ho23 (below_size hb_)); replace HB := Aside0.mk (below_step hb_ hb); clear hb ho23) | ((with_reducible refine gate_builtin (b := .append) (xs := #[.tmp 35, .tmp 36]) rfl ?_); (try (refine gate_guard (by rfl) ?_; dsimp only)); at_builtin; refine Kd.R_append_rows k65 (w0 := w) w.heap.size rfl (.tmp 35) (.tmp 36) 51 65 (.agg #[(.int .i64 0), (.string ⟨#[]⟩)]) 24 rfl Try.underlying51 info65 rfl (by decide) (by omega) v1082 y1081 l0 _ _ _ (fun _ => True) (fun _ => False) rfl rfl ?aO ?aR (fun _ _ h => h) (fun _ h => h.elim) ?aF ?aB ?aS ?aL ?_; (case aR => repeat (first | exact (Kd.C_below HR0.out HB.out) | (with_reducible refine Kd.C_alloc ?_ _) | (with_reducible refine Kd.C_drewN ?_ _) | (with_reducible refine Kd.C_drew ?_))); (case aB => exact hb_); (case aF => exact (fun _ _ => trivial)); (case aO => exact (kR_ HO1083.out)); (case aS => exact (below_size hb_)); (case aL => have := LMc17.out; omega); intro v1085 w24 ho hb hg hat; rw [← Ny1084.out] at ho; have n0_ := Aside0.mk (Kd.R_over' (kR_ HO_9.out) (Kd.R_typed (kR_ HO1083.out)) (by decide) hg); have n1_ := Aside0.mk (hb); have n2_ := Aside0.mk (ho); clear HO_9; clear HB; clear HO1083; have HO_9 := n0_; have HB := n1_; have HO1086 := n2_; clear n0_ n1_ n2_; clear ho hb hg hat; obtain ⟨Ao25, co25, eo25⟩ := Kd.R_slice HO_9.out; subst eo25) | ((with_reducible refine gate_callee (f := 105) rfl ?_); refine gl_ (some 42) Try.func105 #[.slice A0 l0.length c0, .int .i64 a1, .slice Ao25 t1073.length co25] ?_; (with_reducible refine (spec_l9Walk.calls kj4 _ _ l0 a1 _ _ t1073 t1087 true _ ?side1 ?side2 ?side3 ?side4 A18.out).mono ?_); (case side1 => exact kC_ (Kd.C_below HR0.out HB.out)); (case side2 => exact HC0.out); (case side3 => exact kC_ ((Kd.R_reads' HO_9.out).2.2)); (case side4 => exact (Kd.R_reads' HO_9.out).2.1); rintro e w26 ⟨rfl, hb⟩; refine ⟨_, rfl, ?_⟩; replace HO_9 := Aside0.mk (Kd.R_below (kR_ HO_9.out) hb); replace HO1086 := Aside0.mk (Kd.R_below (kR_ HO1086.out) hb); replace HB := Aside0.mk (below_step hb_ hb); (try clear hb); (try clear hk)) | ((with_reducible refine gate_callee (f := 106) rfl ?_); refine gl_ (some 53) Try.func106 #[.slice A0 l0.length c0, .int .i64 a1, .slice Ao25 t1073.length co25] ?_; (with_reducible refine (spec_l10Drop.calls kj4 (fun k_ => k_ < w.heap.size) _ _ l0 a1 _ _ t1073 t1089 t1092 t1093 _ ?side1 ?side2 ?side3 A20.out).mono ?_); (case side1 => exact Kd.V_mk HC0.out (Kd.F_below (Kd.C_F k65_heap HR0.out) hb_)); (case side2 => exact kC_ ((Kd.R_reads' HO_9.out).2.2)); (case side3 => exact (Kd.R_reads' HO_9.out).2.1); rintro e w27 ⟨v1090, rfl, ho0, hb⟩; refine ⟨_, rfl, ?_⟩; have HO1091 := Aside0.mk (Kd.V_lower (Kd.V_mono (ok' := fun k_ => some k_ ≠ (.slice Ao25 t1073.length co25 : Value).ownBlock ∧ some k_ ≠ (v1085 : Value).ownBlock) ho0 (fun k_ hk_ => ⟨Or.elim hk_ (fun hs_ => fun e_ => Nat.not_le.2 hs_ (Kd.R_base HO_9.out k_ e_.symm)) (fun hn_ => (Kd.fresh' (Kd.R_lt (kR_ HO_9.out)) k_ hn_)), Or.elim hk_ (fun hs_ => fun e_ => Nat.not_le.2 hs_ (Kd.R_base HO1086.out k_ e_.symm)) (fun hn_ => (Kd.fresh' (Kd.R_lt (kR_ HO1086.out)) k_ hn_))⟩)) (below_size hb_)); replace HO_9 := Aside0.mk (Kd.R_below (kR_ HO_9.out) hb); replace HO1086 := Aside0.mk (Kd.R_below (kR_ HO1086.out) hb); replace HB := Aside0.mk (below_step hb_ hb); (try clear hb); (try clear hk); (try clear ho0)))
     (try simp only [Act.put, List.setIfInBounds_toArray, List.set_cons_zero, List.set_cons_succ])
     go_cut [61] (fun v61 wc => ∃ (kq : Nat) (x61_20 : Bool), v61 = .bool x61_20 ∧ Aside0 (spec_DropAt.j1 kq a1 y1084 t1089 t1092 t1093 x61_20 = some (r1, r2, r3)) ∧ Aside0 (kq ≤ kj4) ∧ Aside0 (Kd.R k65 65 wc w.heap.size (fun _ => True) v1085 y1084) ∧ Aside0 (Kd.V k65 65 wc w.heap.size (fun k_ => some k_ ≠ (v1085 : Value).ownBlock) v1090 t1089) ∧ Aside0 (Below w.heap.size w wc))
     case first =>
      have H := HC21.out
      clear HC21
      by_cases c28 : t1093 = true
      ·subst c28
       have H1 : (spec_DropAt.j1 kj4 a1 y1084 t1089 t1092 true (decide (t1092 < 0))) = some (r1, r2, r3) := by rw [if_pos rfl] at H; exact H
       clear H
       have H := H1
       clear H1
       have H' := Aside0.mk H
       clear H
       go_wp2
       go_meet
       case rel => exact ⟨_, (decide (t1092 < 0)), rs_, H', ⟨by have := HJ4.out; first | omega | exact Nat.le_refl _⟩, ⟨by refine kR_ ?_; exact HO1086.out⟩, ⟨by refine kV_ ?_; exact Kd.V_mono HO1091.out (fun _ hk => hk.2)⟩, ⟨hb_⟩⟩
      ·replace c28 := Bool.eq_false_iff.mpr c28
       subst c28
       have H1 : (spec_DropAt.j1 kj4 a1 y1084 t1089 t1092 false false) = some (r1, r2, r3) := by rw [if_neg (show ¬ (false = true) by decide)] at H; exact H
       clear H
       have H := H1
       clear H1
       have H' := Aside0.mk H
       clear H
       go_wp2
       go_meet
       case rel => exact ⟨_, (false), rs_, H', ⟨by have := HJ4.out; first | omega | exact Nat.le_refl _⟩, ⟨by refine kR_ ?_; exact HO1086.out⟩, ⟨by refine kV_ ?_; exact Kd.V_mono HO1091.out (fun _ hk => hk.2)⟩, ⟨hb_⟩⟩
     case rest =>
      clear HC21
      try clear c1
      try clear c2
      try clear p2
      try clear c8
      try clear c9
      try clear c10
      try clear c14
      try clear c17
      try clear c19
      try clear c28
      try clear p2
      obtain ⟨kq, x61_20, rfl, HA, HJ20, HO_11, HO_14, HB⟩ := hcut
      cases kq with
      | zero => exact absurd HA.out (by simp [spec_DropAt.j1])
      | succ kj20 =>
       have H := HA.out
       clear HA
       simp only [spec_DropAt.j1] at H
       by_cases c29 : x61_20 = true
       ·subst c29
        have H1 : ((spec_EmptyRoot.f kj20 t1089).bind fun bt1094 => (if bt1094.2.2 = true then ((some (([] : List (S65)) : List (S65))).bind fun y1099 => (if y1099.length + bt1094.1.length < 5864062014805 then (some ((y1099 ++ bt1094.1), bt1094.2.1, true)) else (none))) else (some (y1084, a1, false)))) = some (r1, r2, r3) := by rw [if_pos rfl] at H; exact H
        clear H
        have H := H1
        clear H1
        replace H := Option.bind_eq_some_iff.mp H
        obtain ⟨⟨t1094, t1095, t1096⟩, A300, H⟩ := H
        replace H : (if t1096 = true then ((some (([] : List (S65)) : List (S65))).bind fun y1099 => (if y1099.length + t1094.length < 5864062014805 then (some ((y1099 ++ t1094), t1095, true)) else (none))) else (some (y1084, a1, false))) = some (r1, r2, r3) := H
        have A30 := Aside0.mk A300
        clear A300
        by_cases c31 : t1096 = true
        ·subst c31
         have H1 : ((some (([] : List (S65)) : List (S65))).bind fun y1099 => (if y1099.length + t1094.length < 5864062014805 then (some ((y1099 ++ t1094), t1095, true)) else (none))) = some (r1, r2, r3) := by rw [if_pos rfl] at H; exact H
         clear H
         have H := H1
         clear H1
         obtain ⟨y1099, hy1099⟩ : ∃ y_ : List (S65), y_ = (([] : List (S65))) := ⟨_, rfl⟩
         replace H : (if y1099.length + t1094.length < 5864062014805 then (some ((y1099 ++ t1094), t1095, true)) else (none)) = some (r1, r2, r3) := hq_ hy1099 H
         have Ny1099 := Aside0.mk hy1099
         clear hy1099
         by_cases c32 : y1099.length + t1094.length < 5864062014805; rotate_left
         ·rw [if_neg c32] at H; exact absurd H (by simp)
         rw [if_pos c32] at H
         have LMc32 := Aside0.mk c32
         clear c32
         obtain ⟨y1102, hy1102⟩ : ∃ y_ : List (S65), y_ = (y1099 ++ t1094) := ⟨_, rfl⟩
         replace H : (some (y1102, t1095, true)) = some (r1, r2, r3) := hq_ hy1102 H
         have Ny1102 := Aside0.mk hy1102
         clear hy1102
         simp only [Option.some.injEq, Prod.mk.injEq] at H
         obtain ⟨rfl, rfl, rfl⟩ := H
         obtain ⟨Ao33, co33, eo33⟩ := Kd.V_slice HO_14.out
         subst eo33
         go_wp2_with (first | ((with_reducible refine gate_callee (f := 89) rfl ?_); refine gl_ (some 64) Try.func89 #[.slice Ao33 t1089.length co33] ?_; (with_reducible refine (spec_EmptyRoot.calls kj20 _ _ t1089 t1094 t1095 true _ ?side1 ?side2 A30.out).mono ?_); (case side1 => exact kC_ ((Kd.V_reads' HO_14.out).2.2)); (case side2 => exact (Kd.V_reads' HO_14.out).2.1); rintro e w34 ⟨v1097, rfl, ho0, hb⟩; refine ⟨_, rfl, ?_⟩; have n0_ := Aside0.mk (Kd.R_elder' (kR_ HO_11.out) (Kd.R_base ho0) hb); have n1_ := Aside0.mk (Kd.V_elder' (kV_ HO_14.out) (Kd.R_base ho0) hb); have n2_ := Aside0.mk (Kd.R_lower (Kd.R_new' ho0 (Kd.R_lt (kR_ HO_11.out))) (below_size hb_)); have n3_ := Aside0.mk (below_step hb_ hb); clear HO_11; clear HO_14; clear HB; have HO_11 := n0_; have HO_14 := n1_; have HO1098 := n2_; have HB := n3_; clear n0_ n1_ n2_ n3_; (try clear hb); (try clear hk); (try clear ho0)) | ((with_reducible refine gate_dst (N := 72) rfl ?_); (try (refine gate_guard (by rfl) ?_; dsimp only)); refine Kd.R_lit k65 _ 65 ?hg (N := 72) ?hd (xs := ([] : List (S65))) (inner := []) (ok := fun _ => True) (okp := fun _ => True) ?hr ?hp (fun _ hk => hk) trivial (Below.refl _ _) (Nat.le_refl _) (by simp) ?_; (case hd => rfl); (case hg => rfl); (case hr => first | (go_simp; done) | (go_simp; rfl)); (case hp => exact (Reps.none _ _)); intro v1100 w35 ho36 hb hg_ hnew_; clear hg_ hnew_; (first | rw [← Ny1099.out] at ho36 | (simp only [Int.reduceToNat] at ho36; rw [← Ny1099.out] at ho36)); have n0_ := Aside0.mk (Kd.R_elder' (kR_ HO_11.out) (Kd.R_base ho36) hb); have n1_ := Aside0.mk (Kd.V_elder' (kV_ HO_14.out) (Kd.R_base ho36) hb); have n2_ := Aside0.mk (Kd.R_elder' (kR_ HO1098.out) (Kd.R_base ho36) hb); have n3_ := Aside0.mk (Kd.R_lower (Kd.R_new' (Kd.R_new' ho36 (Kd.R_lt (kR_ HO_11.out))) (Kd.R_lt (kR_ HO1098.out))) (below_size hb_)); have n4_ := Aside0.mk (below_step hb_ hb); clear HO_11; clear HO_14; clear HO1098; clear HB; have HO_11 := n0_; have HO_14 := n1_; have HO1098 := n2_; have HO1101 := n3_; have HB := n4_; clear n0_ n1_ n2_ n3_ n4_; clear hb ho36; obtain ⟨Ao38, co38, eo38⟩ := Kd.R_slice HO1098.out; subst eo38) | ((with_reducible refine gate_builtin (b := .append) (xs := #[.tmp 72, .tmp 73]) rfl ?_); (try (refine gate_guard (by rfl) ?_; dsimp only)); at_builtin; refine Kd.R_append_rows k65 (w0 := w) w.heap.size rfl (.tmp 72) (.tmp 73) 51 65 (.agg #[(.int .i64 0), (.string ⟨#[]⟩)]) 24 rfl Try.underlying51 info65 rfl (by decide) (by omega) v1100 y1099 t1094 _ _ _ (fun k_ => some k_ ≠ (v1085 : Value).ownBlock ∧ some k_ ≠ (.slice Ao38 t1094.length co38 : Value).ownBlock) (fun _ => False) rfl rfl ?aO ?aR (fun _ _ h => h) (fun _ h => h.elim) ?aF ?aB ?aS ?aL ?_; (case aR => repeat (first | exact (Kd.R_reads' HO1098.out).2.2 | (with_reducible refine Kd.C_alloc ?_ _) | (with_reducible refine Kd.C_drewN ?_ _) | (with_reducible refine Kd.C_drew ?_))); (case aB => exact hb_); (case aF => exact (fun k_ hk => ⟨Kd.fresh' (Kd.R_lt (kR_ HO_11.out)) k_ hk, Kd.fresh' (Kd.R_lt (kR_ HO1098.out)) k_ hk⟩)); (case aO => exact (by refine kR_ ?_; exact Kd.R_mono HO1101.out (fun _ hk => ⟨hk.1.2, hk.2⟩))); (case aS => exact (below_size hb_)); (case aL => have := LMc32.out; omega); intro v1103 w37 ho hb hg hat; rw [← Ny1102.out] at ho; have n0_ := Aside0.mk (Kd.R_after (ok := (fun k_ => some k_ ≠ (.slice Ao38 t1094.length co38 : Value).ownBlock)) (by refine kR_ ?_; exact Kd.R_mono HO_11.out (fun _ hk => ⟨hk.1.2, hk.2⟩)) hg hat); have n1_ := Aside0.mk (Kd.V_afterv (ok := (fun k_ => some k_ ≠ (v1085 : Value).ownBlock ∧ some k_ ≠ (.slice Ao38 t1094.length co38 : Value).ownBlock)) (kV_ HO_14.out) hg hat); have n2_ := Aside0.mk (Kd.R_after (ok := (fun k_ => some k_ ≠ (v1085 : Value).ownBlock)) (by refine kR_ ?_; exact Kd.R_mono HO1098.out (fun _ hk => ⟨hk.1.2, hk.2⟩)) hg hat); have n3_ := Aside0.mk (hb); have n4_ := Aside0.mk (ho); clear HO_11; clear HO_14; clear HO1098; clear HB; clear HO1101; have HO_11 := n0_; have HO_14 := n1_; have HO1098 := n2_; have HB := n3_; have HO1104 := n4_; clear n0_ n1_ n2_ n3_ n4_; clear ho hb hg hat))
         go_ret3
         exact ⟨_, er_, by refine kR_ ?_; exact Kd.R_mono HO1104.out (fun _ hk => trivial), hb_⟩
        ·replace c31 := Bool.eq_false_iff.mpr c31
         subst c31
         have H1 : (some (y1084, a1, false)) = some (r1, r2, r3) := by rw [if_neg (show ¬ (false = true) by decide)] at H; exact H
         clear H
         have H := H1
         clear H1
         simp only [Option.some.injEq, Prod.mk.injEq] at H
         obtain ⟨rfl, rfl, rfl⟩ := H
         obtain ⟨Ao39, co39, eo39⟩ := Kd.V_slice HO_14.out
         subst eo39
         go_wp2_with (first | ((with_reducible refine gate_callee (f := 89) rfl ?_); refine gl_ (some 64) Try.func89 #[.slice Ao39 t1089.length co39] ?_; (with_reducible refine (spec_EmptyRoot.calls kj20 _ _ t1089 t1094 t1095 false _ ?side1 ?side2 A30.out).mono ?_); (case side1 => exact kC_ ((Kd.V_reads' HO_14.out).2.2)); (case side2 => exact (Kd.V_reads' HO_14.out).2.1); rintro e w40 ⟨v1097, rfl, ho0, hb⟩; refine ⟨_, rfl, ?_⟩; have n0_ := Aside0.mk (Kd.R_elder' (kR_ HO_11.out) (Kd.R_base ho0) hb); have n1_ := Aside0.mk (Kd.V_elder' (kV_ HO_14.out) (Kd.R_base ho0) hb); have n2_ := Aside0.mk (Kd.R_lower (Kd.R_new' ho0 (Kd.R_lt (kR_ HO_11.out))) (below_size hb_)); have n3_ := Aside0.mk (below_step hb_ hb); clear HO_11; clear HO_14; clear HB; have HO_11 := n0_; have HO_14 := n1_; have HO1098 := n2_; have HB := n3_; clear n0_ n1_ n2_ n3_; (try clear hb); (try clear ho0)))
         go_ret3
         exact ⟨_, er_, by refine kR_ ?_; exact Kd.R_mono HO_11.out (fun _ hk => trivial), hb_⟩
       ·replace c29 := Bool.eq_false_iff.mpr c29
        subst c29
        have H1 : (if t1093 = true then ((some (([] : List (S65)) : List (S65))).bind fun y1105 => (if y1105.length + t1089.length < 5864062014805 then (some ((y1105 ++ t1089), t1092, true)) else (none))) else (some (y1084, a1, false))) = some (r1, r2, r3) := by rw [if_neg (show ¬ (false = true) by decide)] at H; exact H
        clear H
        have H := H1
        clear H1
        by_cases c41 : t1093 = true
        ·subst c41
         have H1 : ((some (([] : List (S65)) : List (S65))).bind fun y1105 => (if y1105.length + t1089.length < 5864062014805 then (some ((y1105 ++ t1089), t1092, true)) else (none))) = some (r1, r2, r3) := by rw [if_pos rfl] at H; exact H
         clear H
         have H := H1
         clear H1
         obtain ⟨y1105, hy1105⟩ : ∃ y_ : List (S65), y_ = (([] : List (S65))) := ⟨_, rfl⟩
         replace H : (if y1105.length + t1089.length < 5864062014805 then (some ((y1105 ++ t1089), t1092, true)) else (none)) = some (r1, r2, r3) := hq_ hy1105 H
         have Ny1105 := Aside0.mk hy1105
         clear hy1105
         by_cases c42 : y1105.length + t1089.length < 5864062014805; rotate_left
         ·rw [if_neg c42] at H; exact absurd H (by simp)
         rw [if_pos c42] at H
         have LMc42 := Aside0.mk c42
         clear c42
         obtain ⟨y1108, hy1108⟩ : ∃ y_ : List (S65), y_ = (y1105 ++ t1089) := ⟨_, rfl⟩
         replace H : (some (y1108, t1092, true)) = some (r1, r2, r3) := hq_ hy1108 H
         have Ny1108 := Aside0.mk hy1108
         clear hy1108
         simp only [Option.some.injEq, Prod.mk.injEq] at H
         obtain ⟨rfl, rfl, rfl⟩ := H
         go_wp2_with (first | ((with_reducible refine gate_dst (N := 72) rfl ?_); (try (refine gate_guard (by rfl) ?_; dsimp only)); refine Kd.R_lit k65 _ 65 ?hg (N := 72) ?hd (xs := ([] : List (S65))) (inner := []) (ok := fun _ => True) (okp := fun _ => True) ?hr ?hp (fun _ hk => hk) trivial (Below.refl _ _) (Nat.le_refl _) (by simp) ?_; (case hd => rfl); (case hg => rfl); (case hr => first | (go_simp; done) | (go_simp; rfl)); (case hp => exact (Reps.none _ _)); intro v1106 w43 ho44 hb hg_ hnew_; clear hg_ hnew_; (first | rw [← Ny1105.out] at ho44 | (simp only [Int.reduceToNat] at ho44; rw [← Ny1105.out] at ho44)); have n0_ := Aside0.mk (Kd.R_elder' (kR_ HO_11.out) (Kd.R_base ho44) hb); have n1_ := Aside0.mk (Kd.V_elder' (kV_ HO_14.out) (Kd.R_base ho44) hb); have n2_ := Aside0.mk (Kd.R_lower (Kd.R_new' ho44 (Kd.R_lt (kR_ HO_11.out))) (below_size hb_)); have n3_ := Aside0.mk (below_step hb_ hb); clear HO_11; clear HO_14; clear HB; have HO_11 := n0_; have HO_14 := n1_; have HO1107 := n2_; have HB := n3_; clear n0_ n1_ n2_ n3_; clear hb ho44; obtain ⟨Ao46, co46, eo46⟩ := Kd.V_slice HO_14.out; subst eo46) | ((with_reducible refine gate_builtin (b := .append) (xs := #[.tmp 72, .tmp 73]) rfl ?_); (try (refine gate_guard (by rfl) ?_; dsimp only)); at_builtin; refine Kd.R_append_rows k65 (w0 := w) w.heap.size rfl (.tmp 72) (.tmp 73) 51 65 (.agg #[(.int .i64 0), (.string ⟨#[]⟩)]) 24 rfl Try.underlying51 info65 rfl (by decide) (by omega) v1106 y1105 t1089 _ _ _ (fun k_ => some k_ ≠ (v1085 : Value).ownBlock) (fun _ => False) rfl rfl ?aO ?aR (fun _ _ h => h) (fun _ h => h.elim) ?aF ?aB ?aS ?aL ?_; (case aR => repeat (first | exact (Kd.V_reads' HO_14.out).2.2 | (with_reducible refine Kd.C_alloc ?_ _) | (with_reducible refine Kd.C_drewN ?_ _) | (with_reducible refine Kd.C_drew ?_))); (case aB => exact hb_); (case aF => exact (fun k_ hk => Kd.fresh' (Kd.R_lt (kR_ HO_11.out)) k_ hk)); (case aO => exact (by refine kR_ ?_; exact Kd.R_mono HO1107.out (fun _ hk => hk.2))); (case aS => exact (below_size hb_)); (case aL => have := LMc42.out; omega); intro v1109 w45 ho hb hg hat; rw [← Ny1108.out] at ho; have n0_ := Aside0.mk (Kd.R_after (ok := (fun _ => True)) (kR_ HO_11.out) hg hat); have n1_ := Aside0.mk (Kd.V_afterv (ok := (fun k_ => some k_ ≠ (v1085 : Value).ownBlock)) (kV_ HO_14.out) hg hat); have n2_ := Aside0.mk (hb); have n3_ := Aside0.mk (ho); clear HO_11; clear HO_14; clear HB; clear HO1107; have HO_11 := n0_; have HO_14 := n1_; have HB := n2_; have HO1110 := n3_; clear n0_ n1_ n2_ n3_; clear ho hb hg hat))
         go_ret3
         exact ⟨_, er_, by refine kR_ ?_; exact Kd.R_mono HO1110.out (fun _ hk => trivial), hb_⟩
        ·replace c41 := Bool.eq_false_iff.mpr c41
         subst c41
         have H1 : (some (y1084, a1, false)) = some (r1, r2, r3) := by rw [if_neg (show ¬ (false = true) by decide)] at H; exact H
         clear H
         have H := H1
         clear H1
         simp only [Option.some.injEq, Prod.mk.injEq] at H
         obtain ⟨rfl, rfl, rfl⟩ := H
         go_wp2
         go_ret3
         exact ⟨_, er_, by refine kR_ ?_; exact HO_11.out, hb_⟩
    ·replace c19 := Bool.eq_false_iff.mpr c19
     subst c19
     have H1 : (some (y1084, a1, false)) = some (r1, r2, r3) := by rw [if_neg (show ¬ (false = true) by decide)] at H; exact H
     clear H
     have H := H1
     clear H1
     simp only [Option.some.injEq, Prod.mk.injEq] at H
     obtain ⟨rfl, rfl, rfl⟩ := H
     go_wp2_with (first | ((with_reducible refine gate_dst (N := 35) rfl ?_); (try (refine gate_guard (by rfl) ?_; dsimp only)); refine Kd.R_lit k65 _ 65 ?hg (N := 35) ?hd (xs := ([] : List (S65))) (inner := []) (ok := fun _ => True) (okp := fun _ => True) ?hr ?hp (fun _ hk => hk) trivial (Below.refl _ _) (Nat.le_refl _) (by simp) ?_; (case hd => rfl); (case hg => rfl); (case hr => first | (go_simp; done) | (go_simp; rfl)); (case hp => exact (Reps.none _ _)); intro v1082 w47 ho48 hb hg_ hnew_; clear hg_ hnew_; (first | rw [← Ny1081.out] at ho48 | (simp only [Int.reduceToNat] at ho48; rw [← Ny1081.out] at ho48)); replace HO_9 := Aside0.mk (Kd.R_below (kR_ HO_9.out) hb); have HO1083 := Aside0.mk (Kd.R_lower ho48 (below_size hb_)); replace HB := Aside0.mk (below_step hb_ hb); clear hb ho48) | ((with_reducible refine gate_builtin (b := .append) (xs := #[.tmp 35, .tmp 36]) rfl ?_); (try (refine gate_guard (by rfl) ?_; dsimp only)); at_builtin; refine Kd.R_append_rows k65 (w0 := w) w.heap.size rfl (.tmp 35) (.tmp 36) 51 65 (.agg #[(.int .i64 0), (.string ⟨#[]⟩)]) 24 rfl Try.underlying51 info65 rfl (by decide) (by omega) v1082 y1081 l0 _ _ _ (fun _ => True) (fun _ => False) rfl rfl ?aO ?aR (fun _ _ h => h) (fun _ h => h.elim) ?aF ?aB ?aS ?aL ?_; (case aR => repeat (first | exact (Kd.C_below HR0.out HB.out) | (with_reducible refine Kd.C_alloc ?_ _) | (with_reducible refine Kd.C_drewN ?_ _) | (with_reducible refine Kd.C_drew ?_))); (case aB => exact hb_); (case aF => exact (fun _ _ => trivial)); (case aO => exact (kR_ HO1083.out)); (case aS => exact (below_size hb_)); (case aL => have := LMc17.out; omega); intro v1085 w49 ho hb hg hat; rw [← Ny1084.out] at ho; have n0_ := Aside0.mk (Kd.R_over' (kR_ HO_9.out) (Kd.R_typed (kR_ HO1083.out)) (by decide) hg); have n1_ := Aside0.mk (hb); have n2_ := Aside0.mk (ho); clear HO_9; clear HB; clear HO1083; have HO_9 := n0_; have HB := n1_; have HO1086 := n2_; clear n0_ n1_ n2_; clear ho hb hg hat; obtain ⟨Ao50, co50, eo50⟩ := Kd.R_slice HO_9.out; subst eo50) | ((with_reducible refine gate_callee (f := 105) rfl ?_); refine gl_ (some 42) Try.func105 #[.slice A0 l0.length c0, .int .i64 a1, .slice Ao50 t1073.length co50] ?_; (with_reducible refine (spec_l9Walk.calls kj4 _ _ l0 a1 _ _ t1073 t1087 false _ ?side1 ?side2 ?side3 ?side4 A18.out).mono ?_); (case side1 => exact kC_ (Kd.C_below HR0.out HB.out)); (case side2 => exact HC0.out); (case side3 => exact kC_ ((Kd.R_reads' HO_9.out).2.2)); (case side4 => exact (Kd.R_reads' HO_9.out).2.1); rintro e w51 ⟨rfl, hb⟩; refine ⟨_, rfl, ?_⟩; replace HO_9 := Aside0.mk (Kd.R_below (kR_ HO_9.out) hb); replace HO1086 := Aside0.mk (Kd.R_below (kR_ HO1086.out) hb); replace HB := Aside0.mk (below_step hb_ hb); (try clear hb); (try clear hk)))
     go_ret3
     exact ⟨_, er_, by refine kR_ ?_; exact HO1086.out, hb_⟩
/-! ### spec_ContentValid: function 107 -/
def spec_ContentValid.f (k : Nat) (a0 : ByteArray) : Option (Bool) := (spec_TextValid.f k a0).bind fun t1111 => (if t1111 = true then (some (decide ((a0.size : Int) ≤ 40))) else (some false))
set_option maxHeartbeats 8000000 in
set_option maxRecDepth 100000 in
theorem spec_ContentValid.calls (k : Nat) (a0 : ByteArray) (r : Bool) (w : World) (h : spec_ContentValid.f k a0 = some r) :
  Calls Try.prog 107 #[.string a0] w fun e w' => e = .returned (.bool r) ∧ Drawn0 w w' := by
 have H : ((spec_TextValid.f k a0).bind fun t1111 => (if t1111 = true then (some (decide ((a0.size : Int) ≤ 40))) else (some false))) = some r := h
 clear h
 replace H := Option.bind_eq_some_iff.mp H
 obtain ⟨t1111, A20, H⟩ := H
 replace H : (if t1111 = true then (some (decide ((a0.size : Int) ≤ 40))) else (some false)) = some r := H
 have A2 := Aside0.mk A20
 clear A20
 by_cases c3 : t1111 = true
 ·subst c3
  have H1 : (some (decide ((a0.size : Int) ≤ 40))) = some r := by rw [if_pos rfl] at H; exact H
  clear H
  have H := H1
  clear H1
  obtain rfl := Option.some.inj H
  go_enter Try.func107, Try.ntmps107
  go_wp2_with (first | ((with_reducible refine gate_callee (f := 85) rfl ?_); refine gl_ (some 4) Try.func85 #[.string a0] ?_; (with_reducible refine (spec_TextValid.calls k a0 true _ A2.out).mono ?_); rintro e w' ⟨rfl, ⟨nd, rfl⟩⟩; refine ⟨_, rfl, ?_⟩))
  go_ret
  exact ⟨rs_, dw_⟩
 ·replace c3 := Bool.eq_false_iff.mpr c3
  subst c3
  have H1 : (some false) = some r := by rw [if_neg (show ¬ (false = true) by decide)] at H; exact H
  clear H
  have H := H1
  clear H1
  obtain rfl := Option.some.inj H
  go_enter Try.func107, Try.ntmps107
  go_wp2_with (first | ((with_reducible refine gate_callee (f := 85) rfl ?_); refine gl_ (some 4) Try.func85 #[.string a0] ?_; (with_reducible refine (spec_TextValid.calls k a0 false _ A2.out).mono ?_); rintro e w' ⟨rfl, ⟨nd, rfl⟩⟩; refine ⟨_, rfl, ?_⟩))
  go_ret
  exact ⟨rs_, dw_⟩
/-! ### spec_ReadFile: function 119 -/
def spec_ReadFile.f (k : Nat) (a0 : ByteArray) : Option (ByteArray × Bool) := if a0.toList = ([] : List UInt8) then (some ((⟨#[]⟩ : ByteArray), false)) else (if 0 < (a0.size : Int) then (if (bt a0 0) = 102 then (if 1 ≤ (a0.size : Int) then ((spec_ContentValid.f k (a0.extract 1 a0.size)).bind fun t1112 => (if t1112 = true then (some (a0.extract 1 a0.size, true)) else (some ((⟨#[]⟩ : ByteArray), false)))) else (none)) else (some ((⟨#[]⟩ : ByteArray), false))) else (none))
set_option maxHeartbeats 8000000 in
set_option maxRecDepth 100000 in
theorem spec_ReadFile.calls (k : Nat) (a0 : ByteArray) (r1 : ByteArray) (r2 : Bool) (w : World) (h : spec_ReadFile.f k a0 = some (r1, r2)) :
  Calls Try.prog 119 #[.string a0] w fun e w' => e = .returned (.tuple #[.string r1, .bool r2]) ∧ Drawn0 w w' := by
 have H : (if a0.toList = ([] : List UInt8) then (some ((⟨#[]⟩ : ByteArray), false)) else (if 0 < (a0.size : Int) then (if (bt a0 0) = 102 then (if 1 ≤ (a0.size : Int) then ((spec_ContentValid.f k (a0.extract 1 a0.size)).bind fun t1112 => (if t1112 = true then (some (a0.extract 1 a0.size, true)) else (some ((⟨#[]⟩ : ByteArray), false)))) else (none)) else (some ((⟨#[]⟩ : ByteArray), false))) else (none))) = some (r1, r2) := h
 clear h
 by_cases c2 : a0.toList = ([] : List UInt8)
 ·rw [if_pos c2] at H
  have c2b0 : (a0.toList == ([] : List UInt8)) = true := beq_iff_eq.mpr c2
  have c2b1 : (a0.toList != ([] : List UInt8)) = false := bne_eq_false_iff_eq.mpr c2
  clear c2
  simp only [Option.some.injEq, Prod.mk.injEq] at H
  obtain ⟨rfl, rfl⟩ := H
  go_enter Try.func119, Try.ntmps119
  go_wp2
  go_ret2
  exact ⟨rs_, dw_⟩
 ·rw [if_neg c2] at H
  have c2b0 : (a0.toList == ([] : List UInt8)) = false := beq_eq_false_iff_ne.mpr c2
  have c2b1 : (a0.toList != ([] : List UInt8)) = true := bne_iff_ne.mpr c2
  by_cases c3 : 0 < (a0.size : Int); rotate_left
  ·rw [if_neg c3] at H; exact absurd H (by simp)
  rw [if_pos c3] at H
  have c3b0 : decide (0 < (a0.size : Int)) = true := decide_eq_true c3
  have c3b1 : decide (0 < a0.size) = true := decide_eq_true (by omega)
  clear c3
  by_cases c5 : (bt a0 0) = 102
  ·rw [if_pos c5] at H
   have c5b0 : ((bt a0 0) == 102) = true := beq_iff_eq.mpr c5
   have c5b1 : ((bt a0 0) != 102) = false := bne_eq_false_iff_eq.mpr c5
   clear c5
   by_cases c6 : 1 ≤ (a0.size : Int); rotate_left
   ·rw [if_neg c6] at H; exact absurd H (by simp)
   rw [if_pos c6] at H
   have c6b0 := eq_true c6
   have c6b1 : decide (1 ≤ (a0.size : Int)) = true := decide_eq_true c6
   clear c6
   replace H := Option.bind_eq_some_iff.mp H
   obtain ⟨t1112, A70, H⟩ := H
   replace H : (if t1112 = true then (some (a0.extract 1 a0.size, true)) else (some ((⟨#[]⟩ : ByteArray), false))) = some (r1, r2) := H
   have A7 := Aside0.mk A70
   clear A70
   by_cases c8 : t1112 = true
   ·subst c8
    have H1 : (some (a0.extract 1 a0.size, true)) = some (r1, r2) := by rw [if_pos rfl] at H; exact H
    clear H
    have H := H1
    clear H1
    have c9b0 := eq_true (dt_ : 1 ≤ (a0.size : Int))
    simp only [Option.some.injEq, Prod.mk.injEq] at H
    obtain ⟨rfl, rfl⟩ := H
    have p4 : 0 ≤ (0 : Int) := (by omega)
    have q4 : 0 < a0.size := (by have : (0 : Int) < (a0.size : Int) := dt_; omega)
    have hx4 : ∀ h : 0 < a0.size, ((a0[0]'h).toNat : Int) = bt a0 0 := bt_at a0 0
    clear p4
    have qi4 : (0 < (a0.size : Int)) = True := eq_true (dt_)
    replace q4 := eq_true q4
    go_enter Try.func119, Try.ntmps119
    go_wp2_with (first | (go_at_call 107; (with_reducible refine (spec_ContentValid.calls k (a0.extract 1 a0.size) true _ A7.out).mono ?_); rintro e w' ⟨rfl, ⟨nd, rfl⟩⟩))
    go_ret2
    exact ⟨rs_, dw_⟩
   ·replace c8 := Bool.eq_false_iff.mpr c8
    subst c8
    have H1 : (some ((⟨#[]⟩ : ByteArray), false)) = some (r1, r2) := by rw [if_neg (show ¬ (false = true) by decide)] at H; exact H
    clear H
    have H := H1
    clear H1
    simp only [Option.some.injEq, Prod.mk.injEq] at H
    obtain ⟨rfl, rfl⟩ := H
    have p4 : 0 ≤ (0 : Int) := (by omega)
    have q4 : 0 < a0.size := (by have : (0 : Int) < (a0.size : Int) := dt_; omega)
    have hx4 : ∀ h : 0 < a0.size, ((a0[0]'h).toNat : Int) = bt a0 0 := bt_at a0 0
    clear p4
    have qi4 : (0 < (a0.size : Int)) = True := eq_true (dt_)
    replace q4 := eq_true q4
    go_enter Try.func119, Try.ntmps119
    go_wp2_with (first | (go_at_call 107; (with_reducible refine (spec_ContentValid.calls k (a0.extract 1 a0.size) false _ A7.out).mono ?_); rintro e w' ⟨rfl, ⟨nd, rfl⟩⟩))
    go_ret2
    exact ⟨rs_, dw_⟩
  ·rw [if_neg c5] at H
   have c5b0 : ((bt a0 0) == 102) = false := beq_eq_false_iff_ne.mpr c5
   have c5b1 : ((bt a0 0) != 102) = true := bne_iff_ne.mpr c5
   simp only [Option.some.injEq, Prod.mk.injEq] at H
   obtain ⟨rfl, rfl⟩ := H
   have p4 : 0 ≤ (0 : Int) := (by omega)
   have q4 : 0 < a0.size := (by have : (0 : Int) < (a0.size : Int) := dt_; omega)
   have hx4 : ∀ h : 0 < a0.size, ((a0[0]'h).toNat : Int) = bt a0 0 := bt_at a0 0
   clear p4
   have qi4 : (0 < (a0.size : Int)) = True := eq_true (dt_)
   replace q4 := eq_true q4
   go_enter Try.func119, Try.ntmps119
   go_wp2
   go_ret2
   exact ⟨rs_, dw_⟩
/-! ### spec_TextKind: function 117 -/
def spec_TextKind.f (k : Nat) (a0 : ByteArray) : Option (Int) := (spec_ReadFile.f k a0).bind fun bt1113 => ((spec_ReadFolder.f k a0).bind fun bt1115 => (if bt1113.2 = true then (some 1) else (if bt1115.2 = true then (some 2) else (some 0))))
set_option maxHeartbeats 8000000 in
set_option maxRecDepth 100000 in
theorem spec_TextKind.calls (k : Nat) (a0 : ByteArray) (r : Int) (w : World) (h : spec_TextKind.f k a0 = some r) :
  Calls Try.prog 117 #[.string a0] w fun e w' => e = .returned (.int .i64 r) ∧ Below w.heap.size w w' := by
 have HB := Aside0.mk (Below.refl w.heap.size w)
 have H : ((spec_ReadFile.f k a0).bind fun bt1113 => ((spec_ReadFolder.f k a0).bind fun bt1115 => (if bt1113.2 = true then (some 1) else (if bt1115.2 = true then (some 2) else (some 0))))) = some r := h
 clear h
 replace H := Option.bind_eq_some_iff.mp H
 obtain ⟨⟨t1113, t1114⟩, A20, H⟩ := H
 replace H : ((spec_ReadFolder.f k a0).bind fun bt1115 => (if t1114 = true then (some 1) else (if bt1115.2 = true then (some 2) else (some 0)))) = some r := H
 have A2 := Aside0.mk A20
 clear A20
 replace H := Option.bind_eq_some_iff.mp H
 obtain ⟨⟨t1115, t1116⟩, A30, H⟩ := H
 replace H : (if t1114 = true then (some 1) else (if t1116 = true then (some 2) else (some 0))) = some r := H
 have A3 := Aside0.mk A30
 clear A30
 by_cases c4 : t1114 = true
 ·subst c4
  have H1 : (some 1) = some r := by rw [if_pos rfl] at H; exact H
  clear H
  have H := H1
  clear H1
  obtain rfl := Option.some.inj H
  go_enter Try.func117, Try.ntmps117
  go_wp2_with (first | ((with_reducible refine gate_callee (f := 119) rfl ?_); refine gl_ (some 9) Try.func119 #[.string a0] ?_; (with_reducible refine (spec_ReadFile.calls k a0 t1113 true _ A2.out).mono ?_); rintro e w' ⟨rfl, ⟨nd, rfl⟩⟩; refine ⟨_, rfl, ?_⟩) | ((with_reducible refine gate_callee (f := 114) rfl ?_); refine gl_ (some 14) Try.func114 #[.string a0] ?_; (with_reducible refine (spec_ReadFolder.calls k a0 t1115 t1116 _ A3.out).mono ?_); rintro e w5 ⟨v1117, rfl, ho0, hb⟩; refine ⟨_, rfl, ?_⟩; have HO1118 := Aside0.mk (Kd.R_lower ho0 (below_size hb_)); replace HB := Aside0.mk (below_step hb_ hb); (try clear hb); (try clear ho0)))
  go_ret
  exact ⟨er_, hb_⟩
 ·replace c4 := Bool.eq_false_iff.mpr c4
  subst c4
  have H1 : (if t1116 = true then (some 2) else (some 0)) = some r := by rw [if_neg (show ¬ (false = true) by decide)] at H; exact H
  clear H
  have H := H1
  clear H1
  by_cases c6 : t1116 = true
  ·subst c6
   have H1 : (some 2) = some r := by rw [if_pos rfl] at H; exact H
   clear H
   have H := H1
   clear H1
   obtain rfl := Option.some.inj H
   go_enter Try.func117, Try.ntmps117
   go_wp2_with (first | ((with_reducible refine gate_callee (f := 119) rfl ?_); refine gl_ (some 9) Try.func119 #[.string a0] ?_; (with_reducible refine (spec_ReadFile.calls k a0 t1113 false _ A2.out).mono ?_); rintro e w' ⟨rfl, ⟨nd, rfl⟩⟩; refine ⟨_, rfl, ?_⟩) | ((with_reducible refine gate_callee (f := 114) rfl ?_); refine gl_ (some 14) Try.func114 #[.string a0] ?_; (with_reducible refine (spec_ReadFolder.calls k a0 t1115 true _ A3.out).mono ?_); rintro e w7 ⟨v1117, rfl, ho0, hb⟩; refine ⟨_, rfl, ?_⟩; have HO1118 := Aside0.mk (Kd.R_lower ho0 (below_size hb_)); replace HB := Aside0.mk (below_step hb_ hb); (try clear hb); (try clear ho0)))
   go_ret
   exact ⟨er_, hb_⟩
  ·replace c6 := Bool.eq_false_iff.mpr c6
   subst c6
   have H1 : (some 0) = some r := by rw [if_neg (show ¬ (false = true) by decide)] at H; exact H
   clear H
   have H := H1
   clear H1
   obtain rfl := Option.some.inj H
   go_enter Try.func117, Try.ntmps117
   go_wp2_with (first | ((with_reducible refine gate_callee (f := 119) rfl ?_); refine gl_ (some 9) Try.func119 #[.string a0] ?_; (with_reducible refine (spec_ReadFile.calls k a0 t1113 false _ A2.out).mono ?_); rintro e w' ⟨rfl, ⟨nd, rfl⟩⟩; refine ⟨_, rfl, ?_⟩) | ((with_reducible refine gate_callee (f := 114) rfl ?_); refine gl_ (some 14) Try.func114 #[.string a0] ?_; (with_reducible refine (spec_ReadFolder.calls k a0 t1115 false _ A3.out).mono ?_); rintro e w8 ⟨v1117, rfl, ho0, hb⟩; refine ⟨_, rfl, ?_⟩; have HO1118 := Aside0.mk (Kd.R_lower ho0 (below_size hb_)); replace HB := Aside0.mk (below_step hb_ hb); (try clear hb); (try clear ho0)))
   go_ret
   exact ⟨er_, hb_⟩
end Go.Proofs.Ytcbmkonigclceaa.P
