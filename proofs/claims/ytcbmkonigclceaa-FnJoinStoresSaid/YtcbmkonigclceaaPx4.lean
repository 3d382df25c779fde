-- The functions of the seat as plain Lean functions, made by the kit's print.py for all laws at once. Not trusted: Lean checks it.
import Derived.Test.YtcbmkonigclceaaPx0
import Derived.Test.YtcbmkonigclceaaPx2
import Derived.Test.YtcbmkonigclceaaPx3
namespace Go.Proofs.Ytcbmkonigclceaa.P
open Go.RowKit Go.Proofs.YtcbmkonigclceaaW.PrintWords Go.Proofs.YtcbmkonigclceaaW.PrintLast Go.Proofs.YtcbmkonigclceaaW.PrintMore
attribute [local go_sem] max2_int min2_int max_two min_two max_three min_three max_four min_four   -- for this text's walks alone
set_option linter.unusedVariables false
set_option linter.unusedSimpArgs false
/-! ### spec_l9Walk: function 105 -/
mutual
def spec_l9Walk.l0 : Nat → List (S65) → Int → List ByteArray → Int → Option (Int × Bool)
 | 0, _, _, _, _ => none
 | k + 1, x0, x1, x2, x8 => if x8 < (x2.length : Int) then ((spec_l4Get.f k x0 x1).bind fun bt977 => ((spec_ReadFolder.f k bt977.1).bind fun bt979 => (spec_l9Walk.l1 k x0 x1 x2 x8 bt979.1 bt979.2 false 0))) else ((spec_l4Get.f k x0 x1).bind fun bt986 => (if bt986.2 = true then (some (x1, true)) else (some ((-1), false))))
def spec_l9Walk.l1 : Nat → List (S65) → Int → List ByteArray → Int → List (S109) → Bool → Bool → Int → Option (Int × Bool)
 | 0, _, _, _, _, _, _, _, _ => none
 | k + 1, x0, x1, x2, x8, x11, x12, x13, x14 => if x14 < (x11.length : Int) then (if x12 = true then (if 0 ≤ x14 then (if 0 ≤ x8 then (if x8 < (x2.length : Int) then (if ((rd_T109 x11 x14).f0).toList = (rdOf ByteArray.empty x2 x8).toList then (spec_l9Walk.l0 k x0 ((rd_T109 x11 x14).f1) x2 (wrap64 (x8 + 1))) else (spec_l9Walk.l1 k x0 x1 x2 x8 x11 x12 x13 (wrap64 (x14 + 1)))) else (none)) else (none)) else (none)) else (spec_l9Walk.l1 k x0 x1 x2 x8 x11 x12 x13 (wrap64 (x14 + 1)))) else (if x13 = true then (spec_l9Walk.l0 k x0 x1 x2 (wrap64 (x8 + 1))) else (some ((-1), false)))
end
def spec_l9Walk.f (k : Nat) (l0 : List (S65)) (a1 : Int) (l2 : List ByteArray) : Option (Int × Bool) := spec_l9Walk.l0 k l0 a1 l2 0
set_option maxHeartbeats 8000000 in
set_option maxRecDepth 100000 in
theorem spec_l9Walk.calls (k : Nat) (A0 : Option Addr) (c0 : Nat) (l0 : List (S65)) (a1 : Int) (A2 : Option Addr) (c2 : Nat) (l2 : List ByteArray) (r1 : Int) (r2 : Bool) (w : World) (hr0 : Kd.C k65 w A0 l0.length l0) (hc0 : l0.length ≤ c0) (hr2 : Kd.C Kd.string w A2 l2.length l2) (hc2 : l2.length ≤ c2) (h : spec_l9Walk.f k l0 a1 l2 = some (r1, r2)) :
  Calls Try.prog 105 #[.slice A0 l0.length c0, .int .i64 a1, .slice A2 l2.length c2] w fun e w' => e = .returned (.tuple #[.int .i64 r1, .bool r2]) ∧ Below w.heap.size w w' := by
 have HR0 := Aside0.mk hr0
 have HC0 := Aside0.mk hc0
 clear hr0 hc0
 have HR2 := Aside0.mk hr2
 have HC2 := Aside0.mk hc2
 clear hr2 hc2
 have HB := Aside0.mk (Below.refl w.heap.size w)
 have H : (spec_l9Walk.l0 k l0 a1 l2 0) = some (r1, r2) := h
 clear h
 have H' := Aside0.mk H
 clear H
 go_enter Try.func105, Try.ntmps105
 go_wp2
 repeat (go_quiet (fail); try go_wp2)
 go_loopg [1, 8] k (fun kq v1 v8 w' => ∃ (x1_1 : Int) (x8_1 : Int), v1 = .int .i64 x1_1 ∧ v8 = .int .i64 x8_1 ∧ Aside0 (spec_l9Walk.l0 kq l0 x1_1 l2 x8_1 = some (r1, r2)) ∧ Aside0 (kq ≤ k) ∧ Aside0 (Below w.heap.size w w'))
 case atStart => exact ⟨(a1), (0), rs_, rs_, H', ⟨Nat.le_refl _⟩, ⟨hb_⟩⟩
 case round =>
  clear H'
  try clear c1
  try clear c2
  try clear p2
  obtain ⟨x1_1, x8_1, rfl, rfl, HA, HK1, HB⟩ := hrel
  cases gk with
  | zero => exact absurd HA.out (by simp [spec_l9Walk.l0])
  | succ k1 =>
   have H := HA.out
   clear HA
   simp only [spec_l9Walk.l0] at H
   by_cases c4 : x8_1 < (l2.length : Int)
   ·rw [if_pos c4] at H
    have c4b0 : decide (x8_1 < (l2.length : Int)) = true := decide_eq_true c4
    clear c4
    replace H := Option.bind_eq_some_iff.mp H
    obtain ⟨⟨t977, t978⟩, A50, H⟩ := H
    replace H : ((spec_ReadFolder.f k1 t977).bind fun bt979 => (spec_l9Walk.l1 k1 l0 x1_1 l2 x8_1 bt979.1 bt979.2 false 0)) = some (r1, r2) := H
    have A5 := Aside0.mk A50
    clear A50
    replace H := Option.bind_eq_some_iff.mp H
    obtain ⟨⟨t979, t980⟩, A60, H⟩ := H
    replace H : (spec_l9Walk.l1 k1 l0 x1_1 l2 x8_1 t979 t980 false 0) = some (r1, r2) := H
    have A6 := Aside0.mk A60
    clear A60
    have H' := Aside0.mk H
    clear H
    go_wp2_with (first | (go_at_call 108; (with_reducible refine (spec_l4Get.calls k1 _ _ l0 x1_1 t977 t978 _ ?side1 ?side2 A5.out).mono ?_); (case side1 => exact kC_ (Kd.C_below HR0.out HB.out)); (case side2 => exact HC0.out); rintro e w' ⟨rfl, ⟨nd, rfl⟩⟩; (try first | exact ⟨rfl, _, World.drewN_drewN _ _ _⟩ | exact ⟨rfl, _, Eq.trans (World.drewN_drewN _ _ _) (congrArg (World.drewN _) (Nat.add_assoc _ _ _))⟩)) | (go_at_call 114; (with_reducible refine (spec_ReadFolder.calls k1 t977 t979 t980 _ A6.out).mono ?_); rintro e w7 ⟨v981, rfl, ho0, hb⟩; have HO982 := Aside0.mk (Kd.R_lower ho0 (below_size hb_)); replace HB := Aside0.mk (below_step hb_ hb); (try clear hb); (try clear ho0)))
    repeat (go_quiet (first | (go_at_call 108; (with_reducible refine (spec_l4Get.calls k1 _ _ l0 x1_1 t977 t978 _ ?side1 ?side2 A5.out).mono ?_); (case side1 => exact kC_ (Kd.C_below HR0.out HB.out)); (case side2 => exact HC0.out); rintro e w' ⟨rfl, ⟨nd, rfl⟩⟩; (try first | exact ⟨rfl, _, World.drewN_drewN _ _ _⟩ | exact ⟨rfl, _, Eq.trans (World.drewN_drewN _ _ _) (congrArg (World.drewN _) (Nat.add_assoc _ _ _))⟩)) | (go_at_call 114; (with_reducible refine (spec_ReadFolder.calls k1 t977 t979 t980 _ A6.out).mono ?_); rintro e w7 ⟨v981, rfl, ho0, hb⟩; have HO982 := Aside0.mk (Kd.R_lower ho0 (below_size hb_)); replace HB := Aside0.mk (below_step hb_ hb); (try clear hb); (try clear ho0))); try go_wp2_with (first | (go_at_call 108; (with_reducible refine (spec_l4Get.calls k1 _ _ l0 x1_1 t977 t978 _ ?side1 ?side2 A5.out).mono ?_); (case side1 => exact kC_ (Kd.C_below HR0.out HB.out)); (case side2 => exact HC0.out); rintro e w' ⟨rfl, ⟨nd, rfl⟩⟩; (try first | exact ⟨rfl, _, World.drewN_drewN _ _ _⟩ | exact ⟨rfl, _, Eq.trans (World.drewN_drewN _ _ _) (congrArg (World.drewN _) (Nat.add_assoc _ _ _))⟩)) | (go_at_call 114; (with_reducible refine (spec_ReadFolder.calls k1 t977 t979 t980 _ A6.out).mono ?_); rintro e w7 ⟨v981, rfl, ho0, hb⟩; have HO982 := Aside0.mk (Kd.R_lower ho0 (below_size hb_)); replace HB := Aside0.mk (below_step hb_ hb); (try clear hb); (try clear ho0))))
    go_loopg [1, 13, 14] k1 (fun kq v1 v13 v14 w' => ∃ (x1_2 : Int) (x13_2 : Bool) (x14_2 : Int), v1 = .int .i64 x1_2 ∧ v13 = .bool x13_2 ∧ v14 = .int .i64 x14_2 ∧ Aside0 (spec_l9Walk.l1 kq l0 x1_2 l2 x8_1 t979 t980 x13_2 x14_2 = some (r1, r2)) ∧ Aside0 (kq ≤ k1) ∧ Aside0 (Kd.R k109 109 w' w.heap.size (fun _ => True) v981 t979) ∧ Aside0 (Below w.heap.size w w'))
    case atStart => exact ⟨(x1_1), (false), (0), rs_, rs_, rs_, H', ⟨Nat.le_refl _⟩, ⟨by refine kR_ ?_; exact HO982.out⟩, ⟨hb_⟩⟩
    case round =>
     clear H'
     try clear c1
     try clear c2
     try clear p2
     try clear c4
     try clear c4b0
     try clear p2
     obtain ⟨x1_2, x13_2, x14_2, rfl, rfl, rfl, HA, HK2, HO_11, HB⟩ := hrel
     cases gk with
     | zero => exact absurd HA.out (by simp [spec_l9Walk.l1])
     | succ k2 =>
      have H := HA.out
      clear HA
      simp only [spec_l9Walk.l1] at H
      by_cases c8 : x14_2 < (t979.length : Int)
      ·rw [if_pos c8] at H
       have c8b0 : decide (x14_2 < (t979.length : Int)) = true := decide_eq_true c8
       clear c8
       by_cases c9 : t980 = true
       ·subst c9
        have H1 : (if 0 ≤ x14_2 then (if 0 ≤ x8_1 then (if x8_1 < (l2.length : Int) then (if ((rd_T109 t979 x14_2).f0).toList = (rdOf ByteArray.empty l2 x8_1).toList then (spec_l9Walk.l0 k2 l0 ((rd_T109 t979 x14_2).f1) l2 (wrap64 (x8_1 + 1))) else (spec_l9Walk.l1 k2 l0 x1_2 l2 x8_1 t979 true x13_2 (wrap64 (x14_2 + 1)))) else (none)) else (none)) else (none)) = some (r1, r2) := by rw [if_pos rfl] at H; exact H
        clear H
        have H := H1
        clear H1
        by_cases c10 : 0 ≤ x14_2; rotate_left
        ·rw [if_neg c10] at H; exact absurd H (by simp)
        rw [if_pos c10] at H
        have c10b0 : decide (0 ≤ x14_2) = true := decide_eq_true c10
        clear c10
        by_cases c11 : 0 ≤ x8_1; rotate_left
        ·rw [if_neg c11] at H; exact absurd H (by simp)
        rw [if_pos c11] at H
        have c11b0 : decide (0 ≤ x8_1) = true := decide_eq_true c11
        clear c11
        by_cases c12 : x8_1 < (l2.length : Int); rotate_left
        ·rw [if_neg c12] at H; exact absurd H (by simp)
        rw [if_pos c12] at H
        have c12b0 : decide (x8_1 < (l2.length : Int)) = true := decide_eq_true c12
        clear c12
        by_cases c13 : ((rd_T109 t979 x14_2).f0).toList = (rdOf ByteArray.empty l2 x8_1).toList
        ·rw [if_pos c13] at H
         have c13b0 : (((rd_T109 t979 x14_2).f0).toList == (rdOf ByteArray.empty l2 x8_1).toList) = true := beq_iff_eq.mpr c13
         have c13b1 : (((rd_T109 t979 x14_2).f0).toList != (rdOf ByteArray.empty l2 x8_1).toList) = false := bne_eq_false_iff_eq.mpr c13
         clear c13
         have H' := Aside0.mk H
         clear H
         obtain ⟨Ao14, co14, eo14⟩ := Kd.R_slice HO_11.out
         subst eo14
         have p983 : 0 ≤ (x14_2 : Int) := dt_
         have q983 : x14_2 < (t979.length : Int) := dt_
         obtain ⟨ad983, e983, hx983_0, hx983_1⟩ := at_T109 (Kd.R_reads' HO_11.out).2.2 x14_2 p983 q983
         cases e983
         replace p983 := eq_true p983
         replace q983 := eq_true q983
         have p984 : 0 ≤ (x8_1 : Int) := dt_
         have q984 : x8_1 < (l2.length : Int) := dt_
         obtain ⟨ad984, e984, hx984_0⟩ := Kd.at_string HR2.out x8_1 p984 q984
         cases e984
         replace hx984_0 := cb_ HB.out hx984_0
         replace p984 := eq_true p984
         replace q984 := eq_true q984
         have p985 : 0 ≤ (x14_2 : Int) := dt_
         have q985 : x14_2 < (t979.length : Int) := dt_
         obtain ⟨ad985, e985, hx985_0, hx985_1⟩ := at_T109 (Kd.R_reads' HO_11.out).2.2 x14_2 p985 q985
         obtain rfl : ad983 = ad985 := (by injection e985)
         replace p985 := eq_true p985
         replace q985 := eq_true q985
         go_wp2
         repeat (go_quiet (fail); try go_wp2)
         go_roundg k2
         case measure => have := HK1.out; have := HK2.out; omega
         case rel => exact ⟨((rd_T109 t979 x14_2).f1), (wrap64 (x8_1 + 1)), rs_, rs_, H', ⟨by have := HK1.out; have := HK2.out; omega⟩, ⟨hb_⟩⟩
        ·rw [if_neg c13] at H
         have c13b0 : (((rd_T109 t979 x14_2).f0).toList == (rdOf ByteArray.empty l2 x8_1).toList) = false := beq_eq_false_iff_ne.mpr c13
         have c13b1 : (((rd_T109 t979 x14_2).f0).toList != (rdOf ByteArray.empty l2 x8_1).toList) = true := bne_iff_ne.mpr c13
         have H' := Aside0.mk H
         clear H
         obtain ⟨Ao15, co15, eo15⟩ := Kd.R_slice HO_11.out
         subst eo15
         have p983 : 0 ≤ (x14_2 : Int) := dt_
         have q983 : x14_2 < (t979.length : Int) := dt_
         obtain ⟨ad983, e983, hx983_0, hx983_1⟩ := at_T109 (Kd.R_reads' HO_11.out).2.2 x14_2 p983 q983
         cases e983
         replace p983 := eq_true p983
         replace q983 := eq_true q983
         have p984 : 0 ≤ (x8_1 : Int) := dt_
         have q984 : x8_1 < (l2.length : Int) := dt_
         obtain ⟨ad984, e984, hx984_0⟩ := Kd.at_string HR2.out x8_1 p984 q984
         cases e984
         replace hx984_0 := cb_ HB.out hx984_0
         replace p984 := eq_true p984
         replace q984 := eq_true q984
         go_wp2
         repeat (go_quiet (fail); try go_wp2)
         go_roundg k2
         case measure => have := HK1.out; have := HK2.out; omega
         case rel => exact ⟨(x1_2), (x13_2), (wrap64 (x14_2 + 1)), rs_, rs_, rs_, H', ⟨by have := HK1.out; have := HK2.out; omega⟩, ⟨by refine kR_ ?_; exact HO_11.out⟩, ⟨hb_⟩⟩
       ·replace c9 := Bool.eq_false_iff.mpr c9
        subst c9
        have H1 : (spec_l9Walk.l1 k2 l0 x1_2 l2 x8_1 t979 false x13_2 (wrap64 (x14_2 + 1))) = some (r1, r2) := by rw [if_neg (show ¬ (false = true) by decide)] at H; exact H
        clear H
        have H := H1
        clear H1
        have H' := Aside0.mk H
        clear H
        obtain ⟨Ao16, co16, eo16⟩ := Kd.R_slice HO_11.out
        subst eo16
        go_wp2
        repeat (go_quiet (fail); try go_wp2)
        go_roundg k2
        case measure => have := HK1.out; have := HK2.out; omega
        case rel => exact ⟨(x1_2), (x13_2), (wrap64 (x14_2 + 1)), rs_, rs_, rs_, H', ⟨by have := HK1.out; have := HK2.out; omega⟩, ⟨by refine kR_ ?_; exact HO_11.out⟩, ⟨hb_⟩⟩
      ·rw [if_neg c8] at H
       have c8b0 : decide (x14_2 < (t979.length : Int)) = false := decide_eq_false c8
       clear c8
       by_cases c17 : x13_2 = true
       ·subst c17
        have H1 : (spec_l9Walk.l0 k2 l0 x1_2 l2 (wrap64 (x8_1 + 1))) = some (r1, r2) := by rw [if_pos rfl] at H; exact H
        clear H
        have H := H1
        clear H1
        have H' := Aside0.mk H
        clear H
        obtain ⟨Ao18, co18, eo18⟩ := Kd.R_slice HO_11.out
        subst eo18
        go_wp2
        repeat (go_quiet (fail); try go_wp2)
        go_roundg k2
        case measure => have := HK1.out; have := HK2.out; omega
        case rel => exact ⟨(x1_2), (wrap64 (x8_1 + 1)), rs_, rs_, H', ⟨by have := HK1.out; have := HK2.out; omega⟩, ⟨hb_⟩⟩
       ·replace c17 := Bool.eq_false_iff.mpr c17
        subst c17
        have H1 : (some ((-1), false)) = some (r1, r2) := by rw [if_neg (show ¬ (false = true) by decide)] at H; exact H
        clear H
        have H := H1
        clear H1
        simp only [Option.some.injEq, Prod.mk.injEq] at H
        obtain ⟨rfl, rfl⟩ := H
        obtain ⟨Ao19, co19, eo19⟩ := Kd.R_slice HO_11.out
        subst eo19
        go_wp2
        repeat (go_quiet (fail); try go_wp2)
        go_ret2
        exact ⟨er_, hb_⟩
   ·rw [if_neg c4] at H
    have c4b0 : decide (x8_1 < (l2.length : Int)) = false := decide_eq_false c4
    clear c4
    replace H := Option.bind_eq_some_iff.mp H
    obtain ⟨⟨t986, t987⟩, A200, H⟩ := H
    replace H : (if t987 = true then (some (x1_1, true)) else (some ((-1), false))) = some (r1, r2) := H
    have A20 := Aside0.mk A200
    clear A200
    by_cases c21 : t987 = true
    ·subst c21
     have H1 : (some (x1_1, true)) = some (r1, r2) := by rw [if_pos rfl] at H; exact H
     clear H
     have H := H1
     clear H1
     simp only [Option.some.injEq, Prod.mk.injEq] at H
     obtain ⟨rfl, rfl⟩ := H
     go_wp2_with (first | (go_at_call 108; (with_reducible refine (spec_l4Get.calls k1 _ _ l0 x1_1 t986 true _ ?side1 ?side2 A20.out).mono ?_); (case side1 => exact kC_ (Kd.C_below HR0.out HB.out)); (case side2 => exact HC0.out); rintro e w' ⟨rfl, ⟨nd, rfl⟩⟩; (try first | exact ⟨rfl, _, World.drewN_drewN _ _ _⟩ | exact ⟨rfl, _, Eq.trans (World.drewN_drewN _ _ _) (congrArg (World.drewN _) (Nat.add_assoc _ _ _))⟩)))
     repeat (go_quiet (first | (go_at_call 108; (with_reducible refine (spec_l4Get.calls k1 _ _ l0 x1_1 t986 true _ ?side1 ?side2 A20.out).mono ?_); (case side1 => exact kC_ (Kd.C_below HR0.out HB.out)); (case side2 => exact HC0.out); rintro e w' ⟨rfl, ⟨nd, rfl⟩⟩; (try first | exact ⟨rfl, _, World.drewN_drewN _ _ _⟩ | exact ⟨rfl, _, Eq.trans (World.drewN_drewN _ _ _) (congrArg (World.drewN _) (Nat.add_assoc _ _ _))⟩))); try go_wp2_with (first | (go_at_call 108; (with_reducible refine (spec_l4Get.calls k1 _ _ l0 x1_1 t986 true _ ?side1 ?side2 A20.out).mono ?_); (case side1 => exact kC_ (Kd.C_below HR0.out HB.out)); (case side2 => exact HC0.out); rintro e w' ⟨rfl, ⟨nd, rfl⟩⟩; (try first | exact ⟨rfl, _, World.drewN_drewN _ _ _⟩ | exact ⟨rfl, _, Eq.trans (World.drewN_drewN _ _ _) (congrArg (World.drewN _) (Nat.add_assoc _ _ _))⟩))))
     go_ret2
     exact ⟨er_, hb_⟩
    ·replace c21 := Bool.eq_false_iff.mpr c21
     subst c21
     have H1 : (some ((-1), false)) = some (r1, r2) := by rw [if_neg (show ¬ (false = true) by decide)] at H; exact H
     clear H
     have H := H1
     clear H1
     simp only [Option.some.injEq, Prod.mk.injEq] at H
     obtain ⟨rfl, rfl⟩ := H
     go_wp2_with (first | (go_at_call 108; (with_reducible refine (spec_l4Get.calls k1 _ _ l0 x1_1 t986 false _ ?side1 ?side2 A20.out).mono ?_); (case side1 => exact kC_ (Kd.C_below HR0.out HB.out)); (case side2 => exact HC0.out); rintro e w' ⟨rfl, ⟨nd, rfl⟩⟩; (try first | exact ⟨rfl, _, World.drewN_drewN _ _ _⟩ | exact ⟨rfl, _, Eq.trans (World.drewN_drewN _ _ _) (congrArg (World.drewN _) (Nat.add_assoc _ _ _))⟩)))
     repeat (go_quiet (first | (go_at_call 108; (with_reducible refine (spec_l4Get.calls k1 _ _ l0 x1_1 t986 false _ ?side1 ?side2 A20.out).mono ?_); (case side1 => exact kC_ (Kd.C_below HR0.out HB.out)); (case side2 => exact HC0.out); rintro e w' ⟨rfl, ⟨nd, rfl⟩⟩; (try first | exact ⟨rfl, _, World.drewN_drewN _ _ _⟩ | exact ⟨rfl, _, Eq.trans (World.drewN_drewN _ _ _) (congrArg (World.drewN _) (Nat.add_assoc _ _ _))⟩))); try go_wp2_with (first | (go_at_call 108; (with_reducible refine (spec_l4Get.calls k1 _ _ l0 x1_1 t986 false _ ?side1 ?side2 A20.out).mono ?_); (case side1 => exact kC_ (Kd.C_below HR0.out HB.out)); (case side2 => exact HC0.out); rintro e w' ⟨rfl, ⟨nd, rfl⟩⟩; (try first | exact ⟨rfl, _, World.drewN_drewN _ _ _⟩ | exact ⟨rfl, _, Eq.trans (World.drewN_drewN _ _ _) (congrArg (World.drewN _) (Nat.add_assoc _ _ _))⟩))))
     go_ret2
     exact ⟨er_, hb_⟩
/-! ### spec_DropEntry: function 115 -/
mutual
def spec_DropEntry.l0 : Nat → List (S109) → ByteArray → List (S109) → Int → Option ((List (S109)) × Bool)
 | 0, _, _, _, _ => none
 | k + 1, x0, x1, x6, x7 => if x7 < (x0.length : Int) then ((spec_EntriesValid.f k x0).bind fun t991 => (spec_DropEntry.j1 k x0 x1 x6 x7 t991)) else (spec_DropEntry.j1 k x0 x1 x6 x7 false)
def spec_DropEntry.j1 : Nat → List (S109) → ByteArray → List (S109) → Int → Bool → Option ((List (S109)) × Bool)
 | 0, _, _, _, _, _ => none
 | k + 1, x0, x1, x6, x7, x16 => if x16 = true then (if 0 ≤ x7 then (if x7 < (x0.length : Int) then (if ((rd_T109 x0 x7).f0).toList = x1.toList then (spec_DropEntry.l0 k x0 x1 x6 (wrap64 (x7 + 1))) else (if x6.length < 5864062014805 then (spec_DropEntry.l0 k x0 x1 (x6 ++ [(⟨(rd_T109 x0 x7).f0, (rd_T109 x0 x7).f1⟩ : S109)]) (wrap64 (x7 + 1))) else (none))) else (none)) else (none)) else ((spec_EntriesValid.f k x0).bind fun t997 => (if t997 = true then (some (x6, decide ((x6.length : Int) < (x0.length : Int)))) else (some (x6, false))))
end
def spec_DropEntry.f (k : Nat) (l0 : List (S109)) (a1 : ByteArray) : Option ((List (S109)) × Bool) := spec_DropEntry.l0 k l0 a1 (([] : List (S109))) 0
set_option maxHeartbeats 8000000 in
set_option maxRecDepth 100000 in
theorem spec_DropEntry.calls (k : Nat) (A0 : Option Addr) (c0 : Nat) (l0 : List (S109)) (a1 : ByteArray) (r1 : List (S109)) (r2 : Bool) (w : World) (hr0 : Kd.C k109 w A0 l0.length l0) (hc0 : l0.length ≤ c0) (h : spec_DropEntry.f k l0 a1 = some (r1, r2)) :
  Calls Try.prog 115 #[.slice A0 l0.length c0, .string a1] w fun e w' => ∃ v0_ : Value, e = .returned (.tuple #[v0_, .bool r2]) ∧ Kd.R k109 109 w' w.heap.size (fun _ => True) v0_ r1 ∧ Below w.heap.size w w' := by
 have hu109 := Try.underlying109
 have HR0 := Aside0.mk hr0
 have HC0 := Aside0.mk hc0
 clear hr0 hc0
 have HB := Aside0.mk (Below.refl w.heap.size w)
 have H : (spec_DropEntry.l0 k l0 a1 (([] : List (S109))) 0) = some (r1, r2) := h
 clear h
 obtain ⟨y988, hy988⟩ : ∃ y_ : List (S109), y_ = (([] : List (S109))) := ⟨_, rfl⟩
 replace H : (spec_DropEntry.l0 k l0 a1 y988 0) = some (r1, r2) := hq_ hy988 H
 have Ny988 := Aside0.mk hy988
 clear hy988
 have H' := Aside0.mk H
 clear H
 go_enter Try.func115, Try.ntmps115
 go_wp2_with (first | ((with_reducible refine gate_dst (N := 8) rfl ?_); (try (refine gate_guard (by rfl) ?_; dsimp only)); refine Kd.R_lit k109 _ 109 ?hg (N := 8) ?hd (xs := ([] : List (S109))) (inner := []) (ok := fun _ => True) (okp := fun _ => True) ?hr ?hp (fun _ hk => hk) trivial (Below.refl _ _) (Nat.le_refl _) (by simp) ?_; (case hd => rfl); (case hg => rfl); (case hr => first | (go_simp; done) | (go_simp; rfl)); (case hp => exact (Reps.none _ _)); intro v989 w3 ho4 hb hg_ hnew_; clear hg_ hnew_; (first | rw [← Ny988.out] at ho4 | (simp only [Int.reduceToNat] at ho4; rw [← Ny988.out] at ho4)); have HO990 := Aside0.mk (Kd.R_lower ho4 (below_size hb_)); replace HB := Aside0.mk (below_step hb_ hb); clear hb ho4))
 go_loopg [6, 7] k (fun kq v6 v7 w' => ∃ (x6_1 : List (S109)) (x7_1 : Int), v7 = .int .i64 x7_1 ∧ Aside0 (spec_DropEntry.l0 kq l0 a1 x6_1 x7_1 = some (r1, r2)) ∧ Aside0 (kq ≤ k) ∧ Aside0 (Kd.R k109 109 w' w.heap.size (fun _ => True) v6 x6_1) ∧ Aside0 (Below w.heap.size w w'))
 case atStart => exact ⟨(y988), (0), rs_, H', ⟨Nat.le_refl _⟩, ⟨by refine kR_ ?_; exact HO990.out⟩, ⟨hb_⟩⟩
 case round =>
  clear H'
  try clear c1
  try clear p2
  obtain ⟨x6_1, x7_1, rfl, HA, HK1, HO_6, HB⟩ := hrel
  cases gk with
  | zero => exact absurd HA.out (by simp [spec_DropEntry.l0])
  | succ k1 =>
   have H := HA.out
   clear HA
   simp only [spec_DropEntry.l0] at H
   have HC5 := Aside0.mk H
   clear H
   go_upto_region 3 with (fail)
   go_cut [16] (fun v16 wc => ∃ (kq : Nat) (x16_4 : Bool), v16 = .bool x16_4 ∧ Aside0 (spec_DropEntry.j1 kq l0 a1 x6_1 x7_1 x16_4 = some (r1, r2)) ∧ Aside0 (kq ≤ k1) ∧ Aside0 (Kd.R k109 109 wc w.heap.size (fun _ => True) u6 x6_1) ∧ Aside0 (Below w.heap.size w wc))
   case first =>
    have H := HC5.out
    clear HC5
    by_cases c6 : x7_1 < (l0.length : Int)
    ·rw [if_pos c6] at H
     have c6b0 : decide (x7_1 < (l0.length : Int)) = true := decide_eq_true c6
     clear c6
     (first | rw [c6b0] | (simp only [i64_w, i32_w]; rw [c6b0]) | skip)
     replace H := Option.bind_eq_some_iff.mp H
     obtain ⟨t991, A70, H⟩ := H
     replace H : (spec_DropEntry.j1 k1 l0 a1 x6_1 x7_1 t991) = some (r1, r2) := H
     have A7 := Aside0.mk A70
     clear A70
     have H' := Aside0.mk H
     clear H
     go_wp2_with (first | (go_at_call 103; (with_reducible refine (spec_EntriesValid.calls k1 _ _ l0 t991 _ ?side1 ?side2 A7.out).mono ?_); (case side1 => exact kC_ (Kd.C_below HR0.out HB.out)); (case side2 => exact HC0.out); rintro e w8 ⟨rfl, hb⟩; replace HO_6 := Aside0.mk (Kd.R_below (kR_ HO_6.out) hb); replace HB := Aside0.mk (below_step hb_ hb); (try clear hb)))
     go_meet
     case rel => exact ⟨_, (t991), rs_, H', ⟨by have := HK1.out; first | omega | exact Nat.le_refl _⟩, ⟨by refine kR_ ?_; exact HO_6.out⟩, ⟨hb_⟩⟩
    ·rw [if_neg c6] at H
     have c6b0 : decide (x7_1 < (l0.length : Int)) = false := decide_eq_false c6
     clear c6
     (first | rw [c6b0] | (simp only [i64_w, i32_w]; rw [c6b0]) | skip)
     have H' := Aside0.mk H
     clear H
     go_wp2
     go_meet
     case rel => exact ⟨_, (false), rs_, H', ⟨by have := HK1.out; first | omega | exact Nat.le_refl _⟩, ⟨by refine kR_ ?_; exact HO_6.out⟩, ⟨hb_⟩⟩
   case rest =>
    clear HC5
    try clear c1
    try clear p2
    try clear c6
    try clear c6b0
    try clear p2
    obtain ⟨kq, x16_4, rfl, HA, HJ4, HO_6, HB⟩ := hcut
    cases kq with
    | zero => exact absurd HA.out (by simp [spec_DropEntry.j1])
    | succ kj4 =>
     have H := HA.out
     clear HA
     simp only [spec_DropEntry.j1] at H
     by_cases c9 : x16_4 = true
     ·subst c9
      have H1 : (if 0 ≤ x7_1 then (if x7_1 < (l0.length : Int) then (if ((rd_T109 l0 x7_1).f0).toList = a1.toList then (spec_DropEntry.l0 kj4 l0 a1 x6_1 (wrap64 (x7_1 + 1))) else (if x6_1.length < 5864062014805 then (spec_DropEntry.l0 kj4 l0 a1 (x6_1 ++ [(⟨(rd_T109 l0 x7_1).f0, (rd_T109 l0 x7_1).f1⟩ : S109)]) (wrap64 (x7_1 + 1))) else (none))) else (none)) else (none)) = some (r1, r2) := by rw [if_pos rfl] at H; exact H
      clear H
      have H := H1
      clear H1
      by_cases c10 : 0 ≤ x7_1; rotate_left
      ·rw [if_neg c10] at H; exact absurd H (by simp)
      rw [if_pos c10] at H
      have c10b0 : decide (0 ≤ x7_1) = true := decide_eq_true c10
      clear c10
      by_cases c11 : x7_1 < (l0.length : Int); rotate_left
      ·rw [if_neg c11] at H; exact absurd H (by simp)
      rw [if_pos c11] at H
      have c11b0 : decide (x7_1 < (l0.length : Int)) = true := decide_eq_true c11
      clear c11
      by_cases c12 : ((rd_T109 l0 x7_1).f0).toList = a1.toList
      ·rw [if_pos c12] at H
       have c12b0 : (((rd_T109 l0 x7_1).f0).toList == a1.toList) = true := beq_iff_eq.mpr c12
       have c12b1 : (((rd_T109 l0 x7_1).f0).toList != a1.toList) = false := bne_eq_false_iff_eq.mpr c12
       clear c12
       have H' := Aside0.mk H
       clear H
       have p992 : 0 ≤ (x7_1 : Int) := dt_
       have q992 : x7_1 < (l0.length : Int) := dt_
       obtain ⟨ad992, e992, hx992_0, hx992_1⟩ := at_T109 HR0.out x7_1 p992 q992
       cases e992
       replace hx992_0 := cb_ HB.out hx992_0
       replace hx992_1 := cb_ HB.out hx992_1
       replace p992 := eq_true p992
       replace q992 := eq_true q992
       go_wp2
       go_roundg kj4
       case measure => have := HK1.out; have := HJ4.out; omega
       case rel => exact ⟨(x6_1), (wrap64 (x7_1 + 1)), rs_, H', ⟨by have := HK1.out; have := HJ4.out; omega⟩, ⟨by refine kR_ ?_; exact HO_6.out⟩, ⟨hb_⟩⟩
      ·rw [if_neg c12] at H
       have c12b0 : (((rd_T109 l0 x7_1).f0).toList == a1.toList) = false := beq_eq_false_iff_ne.mpr c12
       have c12b1 : (((rd_T109 l0 x7_1).f0).toList != a1.toList) = true := bne_iff_ne.mpr c12
       by_cases c13 : x6_1.length < 5864062014805; rotate_left
       ·rw [if_neg c13] at H; exact absurd H (by simp)
       rw [if_pos c13] at H
       have LMc13 := Aside0.mk c13
       clear c13
       obtain ⟨y994, hy994⟩ : ∃ y_ : List (S109), y_ = (x6_1 ++ [(⟨(rd_T109 l0 x7_1).f0, (rd_T109 l0 x7_1).f1⟩ : S109)]) := ⟨_, rfl⟩
       replace H : (spec_DropEntry.l0 kj4 l0 a1 y994 (wrap64 (x7_1 + 1))) = some (r1, r2) := hq_ hy994 H
       have Ny994 := Aside0.mk hy994
       clear hy994
       have H' := Aside0.mk H
       clear H
       have p992 : 0 ≤ (x7_1 : Int) := dt_
       have q992 : x7_1 < (l0.length : Int) := dt_
       obtain ⟨ad992, e992, hx992_0, hx992_1⟩ := at_T109 HR0.out x7_1 p992 q992
       cases e992
       replace hx992_0 := cb_ HB.out hx992_0
       replace hx992_1 := cb_ HB.out hx992_1
       replace p992 := eq_true p992
       replace q992 := eq_true q992
       have p993 : 0 ≤ (x7_1 : Int) := dt_
       have q993 : x7_1 < (l0.length : Int) := dt_
       obtain ⟨ad993, e993, hx993_0, hx993_1⟩ := at_T109 HR0.out x7_1 p993 q993
       obtain rfl : ad992 = ad993 := (by injection e993)
       replace hx993_0 := cb_ HB.out hx993_0
       replace hx993_1 := cb_ HB.out hx993_1
       replace p993 := eq_true p993
       replace q993 := eq_true q993
       go_wp2_with (first | ((with_reducible refine gate_builtin (b := .append) (xs := #[.tmp 26, .tmp 31]) rfl ?_); (try (refine gate_guard (by rfl) ?_; dsimp only)); at_builtin; refine Kd.R_append k109 (w0 := w) w.heap.size rfl (.tmp 26) (.tmp 31) 102 109 (.agg #[(.string ⟨#[]⟩), (.int .i64 0)]) 24 rfl Try.underlying102 info109 rfl (by decide) (by omega) u6 x6_1 (⟨(rd_T109 l0 x7_1).f0, (rd_T109 l0 x7_1).f1⟩ : S109) [.string ((rd_T109 l0 x7_1).f0), .int .i64 ((rd_T109 l0 x7_1).f1)] (fun _ => True) (fun _ => False) rfl rfl ?aP (fun _ hk => hk.elim) ?aF ?aO ?aB ?aS ?aL ?_; (case aP => exact k109_mkM _ _ _ (⟨(rd_T109 l0 x7_1).f0, (rd_T109 l0 x7_1).f1⟩ : S109)); (case aB => exact hb_); (case aF => exact (fun _ _ => trivial)); (case aO => exact (kR_ HO_6.out)); (case aS => exact (below_size hb_)); (case aL => have := LMc13.out; omega); intro v995 w14 ho hb hg hat; rw [← Ny994.out] at ho; have n0_ := Aside0.mk (hb); have n1_ := Aside0.mk (ho); clear HB; clear HO_6; have HB := n0_; have HO996 := n1_; clear n0_ n1_; clear ho hb hg hat))
       go_roundg kj4
       case measure => have := HK1.out; have := HJ4.out; omega
       case rel => exact ⟨(y994), (wrap64 (x7_1 + 1)), rs_, H', ⟨by have := HK1.out; have := HJ4.out; omega⟩, ⟨by refine kR_ ?_; exact HO996.out⟩, ⟨hb_⟩⟩
     ·replace c9 := Bool.eq_false_iff.mpr c9
      subst c9
      have H1 : ((spec_EntriesValid.f kj4 l0).bind fun t997 => (if t997 = true then (some (x6_1, decide ((x6_1.length : Int) < (l0.length : Int)))) else (some (x6_1, false)))) = some (r1, r2) := by rw [if_neg (show ¬ (false = true) by decide)] at H; exact H
      clear H
      have H := H1
      clear H1
      replace H := Option.bind_eq_some_iff.mp H
      obtain ⟨t997, A150, H⟩ := H
      replace H : (if t997 = true then (some (x6_1, decide ((x6_1.length : Int) < (l0.length : Int)))) else (some (x6_1, false))) = some (r1, r2) := H
      have A15 := Aside0.mk A150
      clear A150
      by_cases c16 : t997 = true
      ·subst c16
       have H1 : (some (x6_1, decide ((x6_1.length : Int) < (l0.length : Int)))) = some (r1, r2) := by rw [if_pos rfl] at H; exact H
       clear H
       have H := H1
       clear H1
       simp only [Option.some.injEq, Prod.mk.injEq] at H
       obtain ⟨rfl, rfl⟩ := H
       go_wp2_with (first | ((with_reducible refine gate_callee (f := 103) rfl ?_); refine gl_ (some 35) Try.func103 #[.slice A0 l0.length c0] ?_; (with_reducible refine (spec_EntriesValid.calls kj4 _ _ l0 true _ ?side1 ?side2 A15.out).mono ?_); (case side1 => exact kC_ (Kd.C_below HR0.out HB.out)); (case side2 => exact HC0.out); rintro e w17 ⟨rfl, hb⟩; refine ⟨_, rfl, ?_⟩; replace HO_6 := Aside0.mk (Kd.R_below (kR_ HO_6.out) hb); replace HB := Aside0.mk (below_step hb_ hb); (try clear hb); obtain ⟨Ao18, co18, eo18⟩ := Kd.R_slice HO_6.out; subst eo18))
       go_ret2
       exact ⟨_, er_, by refine kR_ ?_; exact HO_6.out, hb_⟩
      ·replace c16 := Bool.eq_false_iff.mpr c16
       subst c16
       have H1 : (some (x6_1, false)) = some (r1, r2) := by rw [if_neg (show ¬ (false = true) by decide)] at H; exact H
       clear H
       have H := H1
       clear H1
       simp only [Option.some.injEq, Prod.mk.injEq] at H
       obtain ⟨rfl, rfl⟩ := H
       go_wp2_with (first | ((with_reducible refine gate_callee (f := 103) rfl ?_); refine gl_ (some 35) Try.func103 #[.slice A0 l0.length c0] ?_; (with_reducible refine (spec_EntriesValid.calls kj4 _ _ l0 false _ ?side1 ?side2 A15.out).mono ?_); (case side1 => exact kC_ (Kd.C_below HR0.out HB.out)); (case side2 => exact HC0.out); rintro e w19 ⟨rfl, hb⟩; refine ⟨_, rfl, ?_⟩; replace HO_6 := Aside0.mk (Kd.R_below (kR_ HO_6.out) hb); replace HB := Aside0.mk (below_step hb_ hb); (try clear hb)))
       go_ret2
       exact ⟨_, er_, by refine kR_ ?_; exact HO_6.out, hb_⟩
end Go.Proofs.Ytcbmkonigclceaa.P
