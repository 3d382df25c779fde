-- The functions of the seat as plain Lean functions, made by the kit's print.py for all laws at once. Not trusted: Lean checks it.
import Derived.Test.YtcbmkonigclceaaPx0
import Derived.Test.YtcbmkonigclceaaPx1
import Derived.Test.YtcbmkonigclceaaPx3
import Derived.Test.YtcbmkonigclceaaPx6
import Derived.Test.YtcbmkonigclceaaPx7
namespace Go.Proofs.Ytcbmkonigclceaa.P
open Go.RowKit Go.Proofs.YtcbmkonigclceaaW.PrintWords Go.Proofs.YtcbmkonigclceaaW.PrintLast Go.Proofs.YtcbmkonigclceaaW.PrintMore
attribute [local go_sem] max2_int min2_int max_two min_two max_three min_three max_four min_four   -- for this text's walks alone
set_option linter.unusedVariables false
set_option linter.unusedSimpArgs false
/-! ### spec_WriteAt: function 99 -/
def spec_WriteAt.j0 : Nat → List (S65) → Int → ByteArray → List ByteArray → Bool → Option ((List (S65)) × Int × Bool)
 | 0, _, _, _, _, _ => none
 | k + 1, x0, x1, x3, x11, x43 => if x43 = true then (some ((([] : List (S65))), (-1), false)) else ((some (([] : List (S65)) : List (S65))).bind fun y1161 => (if y1161.length + x0.length < 5864062014805 then ((some (y1161 ++ x0 : List (S65))).bind fun y1164 => ((spec_l4Get.f k x0 x1).bind fun bt1167 => (if bt1167.2 = true then ((spec_FileText.f k x3).bind fun t1169 => ((spec_PrintOf.f k t1169).bind fun t1170 => ((spec_l10Set.f k x0 x1 x11 t1170).bind fun bt1171 => (if bt1171.2.2 = true then ((spec_FileText.f k x3).bind fun t1176 => ((spec_PutText.f k bt1171.1 t1176).bind fun bt1177 => (if bt1177.2.2 = true then ((some (([] : List (S65)) : List (S65))).bind fun y1182 => (if y1182.length + bt1177.1.length < 5864062014805 then (some ((y1182 ++ bt1177.1), bt1171.2.1, true)) else (none))) else (some (y1164, x1, false))))) else (some (y1164, x1, false)))))) else (some (y1164, x1, false))))) else (none)))
def spec_WriteAt.f (k : Nat) (l0 : List (S65)) (a1 : Int) (a2 : ByteArray) (a3 : ByteArray) : Option ((List (S65)) × Int × Bool) := (spec_PathParts.f k a2).bind fun bt1152 => ((spec_StoreValid.f k l0).bind fun t1156 => (if t1156 = true then (if bt1152.2 = true then (if (bt1152.1.length : Int) = 0 then (spec_WriteAt.j0 k l0 a1 a3 bt1152.1 true) else ((spec_ContentValid.f k a3).bind fun t1157 => (spec_WriteAt.j0 k l0 a1 a3 bt1152.1 (!t1157)))) else (spec_WriteAt.j0 k l0 a1 a3 bt1152.1 true)) else (spec_WriteAt.j0 k l0 a1 a3 bt1152.1 true)))
set_option maxHeartbeats 8000000 in
set_option maxRecDepth 100000 in
theorem spec_WriteAt.calls (k : Nat) (A0 : Option Addr) (c0 : Nat) (l0 : List (S65)) (a1 : Int) (a2 : ByteArray) (a3 : ByteArray) (r1 : List (S65)) (r2 : Int) (r3 : Bool) (w : World) (hr0 : Kd.C k65 w A0 l0.length l0) (hc0 : l0.length ≤ c0) (h : spec_WriteAt.f k l0 a1 a2 a3 = some (r1, r2, r3)) :
  Calls Try.prog 99 #[.slice A0 l0.length c0, .int .i64 a1, .string a2, .string a3] w fun e w' => ∃ v0_ : Value, e = .returned (.tuple #[v0_, .int .i64 r2, .bool r3]) ∧ Kd.R k65 65 w' w.heap.size (fun _ => True) v0_ r1 ∧ Below w.heap.size w w' := by
 have HR0 := Aside0.mk hr0
 have HC0 := Aside0.mk hc0
 clear hr0 hc0
 have HB := Aside0.mk (Below.refl w.heap.size w)
 have H : ((spec_PathParts.f k a2).bind fun bt1152 => ((spec_StoreValid.f k l0).bind fun t1156 => (if t1156 = true then (if bt1152.2 = true then (if (bt1152.1.length : Int) = 0 then (spec_WriteAt.j0 k l0 a1 a3 bt1152.1 true) else ((spec_ContentValid.f k a3).bind fun t1157 => (spec_WriteAt.j0 k l0 a1 a3 bt1152.1 (!t1157)))) else (spec_WriteAt.j0 k l0 a1 a3 bt1152.1 true)) else (spec_WriteAt.j0 k l0 a1 a3 bt1152.1 true)))) = some (r1, r2, r3) := h
 clear h
 replace H := Option.bind_eq_some_iff.mp H
 obtain ⟨⟨t1152, t1153⟩, A50, H⟩ := H
 replace H : ((spec_StoreValid.f k l0).bind fun t1156 => (if t1156 = true then (if t1153 = true then (if (t1152.length : Int) = 0 then (spec_WriteAt.j0 k l0 a1 a3 t1152 true) else ((spec_ContentValid.f k a3).bind fun t1157 => (spec_WriteAt.j0 k l0 a1 a3 t1152 (!t1157)))) else (spec_WriteAt.j0 k l0 a1 a3 t1152 true)) else (spec_WriteAt.j0 k l0 a1 a3 t1152 true))) = some (r1, r2, r3) := H
 have A5 := Aside0.mk A50
 clear A50
 have HC6 := Aside0.mk H
 clear H
 go_enter Try.func99, Try.ntmps99
 go_upto_region 2 with (first | ((with_reducible refine gate_callee (f := 104) rfl ?_); refine gl_ (some 24) Try.func104 #[.string a2] ?_; (with_reducible refine (spec_PathParts.calls k a2 t1152 t1153 _ A5.out).mono ?_); rintro e w7 ⟨v1154, rfl, ho0, hb⟩; refine ⟨_, rfl, ?_⟩; have HO1155 := Aside0.mk (Kd.R_lower ho0 (below_size hb_)); replace HB := Aside0.mk (below_step hb_ hb); (try clear hb); (try clear ho0)))
 (try simp only [Act.put, List.setIfInBounds_toArray, List.set_cons_zero, List.set_cons_succ])
 go_cut [43] (fun v43 wc => ∃ (kq : Nat) (x43_5 : Bool), v43 = .bool x43_5 ∧ Aside0 (spec_WriteAt.j0 kq l0 a1 a3 t1152 x43_5 = some (r1, r2, r3)) ∧ Aside0 (kq ≤ k) ∧ Aside0 (Kd.R Kd.string 9 wc w.heap.size (fun _ => True) v1154 t1152) ∧ Aside0 (Below w.heap.size w wc))
 case first =>
  have H := HC6.out
  clear HC6
  replace H := Option.bind_eq_some_iff.mp H
  obtain ⟨t1156, A80, H⟩ := H
  replace H : (if t1156 = true then (if t1153 = true then (if (t1152.length : Int) = 0 then (spec_WriteAt.j0 k l0 a1 a3 t1152 true) else ((spec_ContentValid.f k a3).bind fun t1157 => (spec_WriteAt.j0 k l0 a1 a3 t1152 (!t1157)))) else (spec_WriteAt.j0 k l0 a1 a3 t1152 true)) else (spec_WriteAt.j0 k l0 a1 a3 t1152 true)) = some (r1, r2, r3) := H
  have A8 := Aside0.mk A80
  clear A80
  by_cases c9 : t1156 = true
  ·subst c9
   have H1 : (if t1153 = true then (if (t1152.length : Int) = 0 then (spec_WriteAt.j0 k l0 a1 a3 t1152 true) else ((spec_ContentValid.f k a3).bind fun t1157 => (spec_WriteAt.j0 k l0 a1 a3 t1152 (!t1157)))) else (spec_WriteAt.j0 k l0 a1 a3 t1152 true)) = some (r1, r2, r3) := by rw [if_pos rfl] at H; exact H
   clear H
   have H := H1
   clear H1
   by_cases c10 : t1153 = true
   ·subst c10
    have H1 : (if (t1152.length : Int) = 0 then (spec_WriteAt.j0 k l0 a1 a3 t1152 true) else ((spec_ContentValid.f k a3).bind fun t1157 => (spec_WriteAt.j0 k l0 a1 a3 t1152 (!t1157)))) = some (r1, r2, r3) := by rw [if_pos rfl] at H; exact H
    clear H
    have H := H1
    clear H1
    by_cases c11 : (t1152.length : Int) = 0
    ·rw [if_pos c11] at H
     have c11b0 : ((t1152.length : Int) == 0) = true := beq_iff_eq.mpr c11
     have c11b1 : ((t1152.length : Int) != 0) = false := bne_eq_false_iff_eq.mpr c11
     clear c11
     (first | rw [c11b0] | (simp only [i64_w, i32_w]; rw [c11b0]) | skip)
     have H' := Aside0.mk H
     clear H
     go_wp2_with (first | ((with_reducible refine gate_callee (f := 83) rfl ?_); refine gl_ (some 28) Try.func83 #[.slice A0 l0.length c0] ?_; (with_reducible refine (spec_StoreValid.calls k _ _ l0 true _ ?side1 ?side2 A8.out).mono ?_); (case side1 => exact kC_ (Kd.C_below HR0.out HB.out)); (case side2 => exact HC0.out); rintro e w12 ⟨rfl, hb⟩; refine ⟨_, rfl, ?_⟩; replace HO1155 := Aside0.mk (Kd.R_below (kR_ HO1155.out) hb); replace HB := Aside0.mk (below_step hb_ hb); (try clear hb); obtain ⟨Ao13, co13, eo13⟩ := Kd.R_slice HO1155.out; subst eo13))
     go_meet
     case rel => exact ⟨_, (true), rs_, H', ⟨by first | omega | exact Nat.le_refl _⟩, ⟨by refine kR_ ?_; exact HO1155.out⟩, ⟨hb_⟩⟩
    ·rw [if_neg c11] at H
     have c11b0 : ((t1152.length : Int) == 0) = false := beq_eq_false_iff_ne.mpr c11
     have c11b1 : ((t1152.length : Int) != 0) = true := bne_iff_ne.mpr c11
     have c11b2 : ¬ (t1152 = []) := fun h_ => c11 (by rw [h_]; rfl)
     (first | rw [c11b0] | (simp only [i64_w, i32_w]; rw [c11b0]) | skip)
     replace H := Option.bind_eq_some_iff.mp H
     obtain ⟨t1157, A140, H⟩ := H
     replace H : (spec_WriteAt.j0 k l0 a1 a3 t1152 (!t1157)) = some (r1, r2, r3) := H
     have A14 := Aside0.mk A140
     clear A140
     have H' := Aside0.mk H
     clear H
     go_wp2_with (first | ((with_reducible refine gate_callee (f := 83) rfl ?_); refine gl_ (some 28) Try.func83 #[.slice A0 l0.length c0] ?_; (with_reducible refine (spec_StoreValid.calls k _ _ l0 true _ ?side1 ?side2 A8.out).mono ?_); (case side1 => exact kC_ (Kd.C_below HR0.out HB.out)); (case side2 => exact HC0.out); rintro e w15 ⟨rfl, hb⟩; refine ⟨_, rfl, ?_⟩; replace HO1155 := Aside0.mk (Kd.R_below (kR_ HO1155.out) hb); replace HB := Aside0.mk (below_step hb_ hb); (try clear hb); obtain ⟨Ao16, co16, eo16⟩ := Kd.R_slice HO1155.out; subst eo16) | (go_at_call 107; (with_reducible refine (spec_ContentValid.calls k a3 t1157 _ A14.out).mono ?_); rintro e w' ⟨rfl, ⟨nd, rfl⟩⟩))
     go_meet
     case rel => exact ⟨_, (!t1157), rs_, H', ⟨by first | omega | exact Nat.le_refl _⟩, ⟨by refine kR_ ?_; exact HO1155.out⟩, ⟨hb_⟩⟩
   ·replace c10 := Bool.eq_false_iff.mpr c10
    subst c10
    have H1 : (spec_WriteAt.j0 k l0 a1 a3 t1152 true) = some (r1, r2, r3) := by rw [if_neg (show ¬ (false = true) by decide)] at H; exact H
    clear H
    have H := H1
    clear H1
    have H' := Aside0.mk H
    clear H
    go_wp2_with (first | ((with_reducible refine gate_callee (f := 83) rfl ?_); refine gl_ (some 28) Try.func83 #[.slice A0 l0.length c0] ?_; (with_reducible refine (spec_StoreValid.calls k _ _ l0 true _ ?side1 ?side2 A8.out).mono ?_); (case side1 => exact kC_ (Kd.C_below HR0.out HB.out)); (case side2 => exact HC0.out); rintro e w17 ⟨rfl, hb⟩; refine ⟨_, rfl, ?_⟩; replace HO1155 := Aside0.mk (Kd.R_below (kR_ HO1155.out) hb); replace HB := Aside0.mk (below_step hb_ hb); (try clear hb)))
    go_meet
    case rel => exact ⟨_, (true), rs_, H', ⟨by first | omega | exact Nat.le_refl _⟩, ⟨by refine kR_ ?_; exact HO1155.out⟩, ⟨hb_⟩⟩
  ·replace c9 := Bool.eq_false_iff.mpr c9
   subst c9
   have H1 : (spec_WriteAt.j0 k l0 a1 a3 t1152 true) = some (r1, r2, r3) := by rw [if_neg (show ¬ (false = true) by decide)] at H; exact H
   clear H
   have H := H1
   clear H1
   have H' := Aside0.mk H
   clear H
   go_wp2_with (first | ((with_reducible refine gate_callee (f := 83) rfl ?_); refine gl_ (some 28) Try.func83 #[.slice A0 l0.length c0] ?_; (with_reducible refine (spec_StoreValid.calls k _ _ l0 false _ ?side1 ?side2 A8.out).mono ?_); (case side1 => exact kC_ (Kd.C_below HR0.out HB.out)); (case side2 => exact HC0.out); rintro e w18 ⟨rfl, hb⟩; refine ⟨_, rfl, ?_⟩; replace HO1155 := Aside0.mk (Kd.R_below (kR_ HO1155.out) hb); replace HB := Aside0.mk (below_step hb_ hb); (try clear hb)))
   go_meet
   case rel => exact ⟨_, (true), rs_, H', ⟨by first | omega | exact Nat.le_refl _⟩, ⟨by refine kR_ ?_; exact HO1155.out⟩, ⟨hb_⟩⟩
 case rest =>
  clear HC6
  try clear c1
  try clear p2
  try clear c8
  try clear c9
  try clear c10
  try clear c11
  try clear c11b0
  try clear c11b1
  try clear c11b2
  obtain ⟨kq, x43_5, rfl, HA, HJ5, HO_11, HB⟩ := hcut
  cases kq with
  | zero => exact absurd HA.out (by simp [spec_WriteAt.j0])
  | succ kj5 =>
   have H := HA.out
   clear HA
   simp only [spec_WriteAt.j0] at H
   by_cases c19 : x43_5 = true
   ·subst c19
    have H1 : (some ((([] : List (S65))), (-1), false)) = some (r1, r2, r3) := by rw [if_pos rfl] at H; exact H
    clear H
    have H := H1
    clear H1
    obtain ⟨y1158, hy1158⟩ : ∃ y_ : List (S65), y_ = (([] : List (S65))) := ⟨_, rfl⟩
    replace H : (some (y1158, (-1), false)) = some (r1, r2, r3) := hq_ hy1158 H
    have Ny1158 := Aside0.mk hy1158
    clear hy1158
    simp only [Option.some.injEq, Prod.mk.injEq] at H
    obtain ⟨rfl, rfl, rfl⟩ := H
    go_wp2_with (first | ((with_reducible refine gate_dst (N := 44) rfl ?_); (try (refine gate_guard (by rfl) ?_; dsimp only)); refine Kd.R_lit k65 _ 65 ?hg (N := 44) ?hd (xs := ([] : List (S65))) (inner := []) (ok := fun _ => True) (okp := fun _ => True) ?hr ?hp (fun _ hk => hk) trivial (Below.refl _ _) (Nat.le_refl _) (by simp) ?_; (case hd => rfl); (case hg => rfl); (case hr => first | (go_simp; done) | (go_simp; rfl)); (case hp => exact (Reps.none _ _)); intro v1159 w20 ho21 hb hg_ hnew_; clear hg_ hnew_; (first | rw [← Ny1158.out] at ho21 | (simp only [Int.reduceToNat] at ho21; rw [← Ny1158.out] at ho21)); replace HO_11 := Aside0.mk (Kd.R_below (kR_ HO_11.out) hb); have HO1160 := Aside0.mk (Kd.R_lower ho21 (below_size hb_)); replace HB := Aside0.mk (below_step hb_ hb); clear hb ho21))
    go_ret3
    exact ⟨_, er_, by refine kR_ ?_; exact HO1160.out, hb_⟩
   ·replace c19 := Bool.eq_false_iff.mpr c19
    subst c19
    have H1 : ((some (([] : List (S65)) : List (S65))).bind fun y1161 => (if y1161.length + l0.length < 5864062014805 then ((some (y1161 ++ l0 : List (S65))).bind fun y1164 => ((spec_l4Get.f kj5 l0 a1).bind fun bt1167 => (if bt1167.2 = true then ((spec_FileText.f kj5 a3).bind fun t1169 => ((spec_PrintOf.f kj5 t1169).bind fun t1170 => ((spec_l10Set.f kj5 l0 a1 t1152 t1170).bind fun bt1171 => (if bt1171.2.2 = true then ((spec_FileText.f kj5 a3).bind fun t1176 => ((spec_PutText.f kj5 bt1171.1 t1176).bind fun bt1177 => (if bt1177.2.2 = true then ((some (([] : List (S65)) : List (S65))).bind fun y1182 => (if y1182.length + bt1177.1.length < 5864062014805 then (some ((y1182 ++ bt1177.1), bt1171.2.1, true)) else (none))) else (some (y1164, a1, false))))) else (some (y1164, a1, false)))))) else (some (y1164, a1, false))))) else (none))) = some (r1, r2, r3) := by rw [if_neg (show ¬ (false = true) by decide)] at H; exact H
    clear H
    have H := H1
    clear H1
    obtain ⟨y1161, hy1161⟩ : ∃ y_ : List (S65), y_ = (([] : List (S65))) := ⟨_, rfl⟩
    replace H : (if y1161.length + l0.length < 5864062014805 then ((some (y1161 ++ l0 : List (S65))).bind fun y1164 => ((spec_l4Get.f kj5 l0 a1).bind fun bt1167 => (if bt1167.2 = true then ((spec_FileText.f kj5 a3).bind fun t1169 => ((spec_PrintOf.f kj5 t1169).bind fun t1170 => ((spec_l10Set.f kj5 l0 a1 t1152 t1170).bind fun bt1171 => (if bt1171.2.2 = true then ((spec_FileText.f kj5 a3).bind fun t1176 => ((spec_PutText.f kj5 bt1171.1 t1176).bind fun bt1177 => (if bt1177.2.2 = true then ((some (([] : List (S65)) : List (S65))).bind fun y1182 => (if y1182.length + bt1177.1.length < 5864062014805 then (some ((y1182 ++ bt1177.1), bt1171.2.1, true)) else (none))) else (some (y1164, a1, false))))) else (some (y1164, a1, false)))))) else (some (y1164, a1, false))))) else (none)) = some (r1, r2, r3) := hq_ hy1161 H
    have Ny1161 := Aside0.mk hy1161
    clear hy1161
    by_cases c22 : y1161.length + l0.length < 5864062014805; rotate_left
    ·rw [if_neg c22] at H; exact absurd H (by simp)
    rw [if_pos c22] at H
    have LMc22 := Aside0.mk c22
    clear c22
    obtain ⟨y1164, hy1164⟩ : ∃ y_ : List (S65), y_ = (y1161 ++ l0) := ⟨_, rfl⟩
    replace H : ((spec_l4Get.f kj5 l0 a1).bind fun bt1167 => (if bt1167.2 = true then ((spec_FileText.f kj5 a3).bind fun t1169 => ((spec_PrintOf.f kj5 t1169).bind fun t1170 => ((spec_l10Set.f kj5 l0 a1 t1152 t1170).bind fun bt1171 => (if bt1171.2.2 = true then ((spec_FileText.f kj5 a3).bind fun t1176 => ((spec_PutText.f kj5 bt1171.1 t1176).bind fun bt1177 => (if bt1177.2.2 = true then ((some (([] : List (S65)) : List (S65))).bind fun y1182 => (if y1182.length + bt1177.1.length < 5864062014805 then (some ((y1182 ++ bt1177.1), bt1171.2.1, true)) else (none))) else (some (y1164, a1, false))))) else (some (y1164, a1, false)))))) else (some (y1164, a1, false)))) = some (r1, r2, r3) := hq_ hy1164 H
    have Ny1164 := Aside0.mk hy1164
    clear hy1164
    replace H := Option.bind_eq_some_iff.mp H
    obtain ⟨⟨t1167, t1168⟩, A230, H⟩ := H
    replace H : (if t1168 = true then ((spec_FileText.f kj5 a3).bind fun t1169 => ((spec_PrintOf.f kj5 t1169).bind fun t1170 => ((spec_l10Set.f kj5 l0 a1 t1152 t1170).bind fun bt1171 => (if bt1171.2.2 = true then ((spec_FileText.f kj5 a3).bind fun t1176 => ((spec_PutText.f kj5 bt1171.1 t1176).bind fun bt1177 => (if bt1177.2.2 = true then ((some (([] : List (S65)) : List (S65))).bind fun y1182 => (if y1182.length + bt1177.1.length < 5864062014805 then (some ((y1182 ++ bt1177.1), bt1171.2.1, true)) else (none))) else (some (y1164, a1, false))))) else (some (y1164, a1, false)))))) else (some (y1164, a1, false))) = some (r1, r2, r3) := H
    have A23 := Aside0.mk A230
    clear A230
    by_cases c24 : t1168 = true
    ·subst c24
     have H1 : ((spec_FileText.f kj5 a3).bind fun t1169 => ((spec_PrintOf.f kj5 t1169).bind fun t1170 => ((spec_l10Set.f kj5 l0 a1 t1152 t1170).bind fun bt1171 => (if bt1171.2.2 = true then ((spec_FileText.f kj5 a3).bind fun t1176 => ((spec_PutText.f kj5 bt1171.1 t1176).bind fun bt1177 => (if bt1177.2.2 = true then ((some (([] : List (S65)) : List (S65))).bind fun y1182 => (if y1182.length + bt1177.1.length < 5864062014805 then (some ((y1182 ++ bt1177.1), bt1171.2.1, true)) else (none))) else (some (y1164, a1, false))))) else (some (y1164, a1, false)))))) = some (r1, r2, r3) := by rw [if_pos rfl] at H; exact H
     clear H
     have H := H1
     clear H1
     replace H := Option.bind_eq_some_iff.mp H
     obtain ⟨t1169, A250, H⟩ := H
     replace H : ((spec_PrintOf.f kj5 t1169).bind fun t1170 => ((spec_l10Set.f kj5 l0 a1 t1152 t1170).bind fun bt1171 => (if bt1171.2.2 = true then ((spec_FileText.f kj5 a3).bind fun t1176 => ((spec_PutText.f kj5 bt1171.1 t1176).bind fun bt1177 => (if bt1177.2.2 = true then ((some (([] : List (S65)) : List (S65))).bind fun y1182 => (if y1182.length + bt1177.1.length < 5864062014805 then (some ((y1182 ++ bt1177.1), bt1171.2.1, true)) else (none))) else (some (y1164, a1, false))))) else (some (y1164, a1, false))))) = some (r1, r2, r3) := H
     have A25 := Aside0.mk A250
     clear A250
     replace H := Option.bind_eq_some_iff.mp H
     obtain ⟨t1170, A260, H⟩ := H
     replace H : ((spec_l10Set.f kj5 l0 a1 t1152 t1170).bind fun bt1171 => (if bt1171.2.2 = true then ((spec_FileText.f kj5 a3).bind fun t1176 => ((spec_PutText.f kj5 bt1171.1 t1176).bind fun bt1177 => (if bt1177.2.2 = true then ((some (([] : List (S65)) : List (S65))).bind fun y1182 => (if y1182.length + bt1177.1.length < 5864062014805 then (some ((y1182 ++ bt1177.1), bt1171.2.1, true)) else (none))) else (some (y1164, a1, false))))) else (some (y1164, a1, false)))) = some (r1, r2, r3) := H
     have A26 := Aside0.mk A260
     clear A260
     replace H := Option.bind_eq_some_iff.mp H
     obtain ⟨⟨t1171, t1174, t1175⟩, A270, H⟩ := H
     replace H : (if t1175 = true then ((spec_FileText.f kj5 a3).bind fun t1176 => ((spec_PutText.f kj5 t1171 t1176).bind fun bt1177 => (if bt1177.2.2 = true then ((some (([] : List (S65)) : List (S65))).bind fun y1182 => (if y1182.length + bt1177.1.length < 5864062014805 then (some ((y1182 ++ bt1177.1), t1174, true)) else (none))) else (some (y1164, a1, false))))) else (some (y1164, a1, false))) = some (r1, r2, r3) := H
     have A27 := Aside0.mk A270
     clear A270
     by_cases c28 : t1175 = true
     ·subst c28
      have H1 : ((spec_FileText.f kj5 a3).bind fun t1176 => ((spec_PutText.f kj5 t1171 t1176).bind fun bt1177 => (if bt1177.2.2 = true then ((some (([] : List (S65)) : List (S65))).bind fun y1182 => (if y1182.length + bt1177.1.length < 5864062014805 then (some ((y1182 ++ bt1177.1), t1174, true)) else (none))) else (some (y1164, a1, false))))) = some (r1, r2, r3) := by rw [if_pos rfl] at H; exact H
      clear H
      have H := H1
      clear H1
      replace H := Option.bind_eq_some_iff.mp H
      obtain ⟨t1176, A290, H⟩ := H
      replace H : ((spec_PutText.f kj5 t1171 t1176).bind fun bt1177 => (if bt1177.2.2 = true then ((some (([] : List (S65)) : List (S65))).bind fun y1182 => (if y1182.length + bt1177.1.length < 5864062014805 then (some ((y1182 ++ bt1177.1), t1174, true)) else (none))) else (some (y1164, a1, false)))) = some (r1, r2, r3) := H
      have A29 := Aside0.mk A290
      clear A290
      replace H := Option.bind_eq_some_iff.mp H
      obtain ⟨⟨t1177, t1178, t1179⟩, A300, H⟩ := H
      replace H : (if t1179 = true then ((some (([] : List (S65)) : List (S65))).bind fun y1182 => (if y1182.length + t1177.length < 5864062014805 then (some ((y1182 ++ t1177), t1174, true)) else (none))) else (some (y1164, a1, false))) = some (r1, r2, r3) := H
      have A30 := Aside0.mk A300
      clear A300
      by_cases c31 : t1179 = true
      ·subst c31
       have H1 : ((some (([] : List (S65)) : List (S65))).bind fun y1182 => (if y1182.length + t1177.length < 5864062014805 then (some ((y1182 ++ t1177), t1174, true)) else (none))) = some (r1, r2, r3) := by rw [if_pos rfl] at H; exact H
       clear H
       have H := H1
       clear H1
       obtain ⟨y1182, hy1182⟩ : ∃ y_ : List (S65), y_ = (([] : List (S65))) := ⟨_, rfl⟩
       replace H : (if y1182.length + t1177.length < 5864062014805 then (some ((y1182 ++ t1177), t1174, true)) else (none)) = some (r1, r2, r3) := hq_ hy1182 H
       have Ny1182 := Aside0.mk hy1182
       clear hy1182
       by_cases c32 : y1182.length + t1177.length < 5864062014805; rotate_left
       ·rw [if_neg c32] at H; exact absurd H (by simp)
       rw [if_pos c32] at H
       have LMc32 := Aside0.mk c32
       clear c32
       obtain ⟨y1185, hy1185⟩ : ∃ y_ : List (S65), y_ = (y1182 ++ t1177) := ⟨_, rfl⟩
       replace H : (some (y1185, t1174, true)) = some (r1, r2, r3) := hq_ hy1185 H
       have Ny1185 := Aside0.mk hy1185
       clear hy1185
       simp only [Option.some.injEq, Prod.mk.injEq] at H
       obtain ⟨rfl, rfl, rfl⟩ := H
       go_wp2_with (first | ((with_reducible refine gate_dst (N := 45) rfl ?_); (try (refine gate_guard (by rfl) ?_; dsimp only)); refine Kd.R_lit k65 _ 65 ?hg (N := 45) ?hd (xs := ([] : List (S65))) (inner := []) (ok := fun _ => True) (okp := fun _ => True) ?hr ?hp (fun _ hk => hk) trivial (Below.refl _ _) (Nat.le_refl _) (by simp) ?_; (case hd => rfl); (case hg => rfl); (case hr => first | (go_simp; done) | (go_simp; rfl)); (case hp => exact (Reps.none _ _)); intro v1162 w33 ho34 hb hg_ hnew_; clear hg_ hnew_; (first | rw [← Ny1161.out] at ho34 | (simp only [Int.reduceToNat] at ho34; rw [← Ny1161.out] at ho34)); replace HO_11 := Aside0.mk (Kd.R_below (kR_ HO_11.out) hb); have HO1163 := Aside0.mk (Kd.R_lower ho34 (below_size hb_)); replace HB := Aside0.mk (below_step hb_ hb); clear hb ho34) | ((with_reducible refine gate_builtin (b := .append) (xs := #[.tmp 45, .tmp 46]) rfl ?_); (try (refine gate_guard (by rfl) ?_; dsimp only)); at_builtin; refine Kd.R_append_rows k65 (w0 := w) w.heap.size rfl (.tmp 45) (.tmp 46) 51 65 (.agg #[(.int .i64 0), (.string ⟨#[]⟩)]) 24 rfl Try.underlying51 info65 rfl (by decide) (by omega) v1162 y1161 l0 _ _ _ (fun _ => True) (fun _ => False) rfl rfl ?aO ?aR (fun _ _ h => h) (fun _ h => h.elim) ?aF ?aB ?aS ?aL ?_; (case aR => repeat (first | exact (Kd.C_below HR0.out HB.out) | (with_reducible refine Kd.C_alloc ?_ _) | (with_reducible refine Kd.C_drewN ?_ _) | (with_reducible refine Kd.C_drew ?_))); (case aB => exact hb_); (case aF => exact (fun _ _ => trivial)); (case aO => exact (kR_ HO1163.out)); (case aS => exact (below_size hb_)); (case aL => have := LMc22.out; omega); intro v1165 w35 ho hb hg hat; rw [← Ny1164.out] at ho; have n0_ := Aside0.mk (Kd.R_over' (kR_ HO_11.out) (Kd.R_typed (kR_ HO1163.out)) (by decide) hg); have n1_ := Aside0.mk (hb); have n2_ := Aside0.mk (ho); clear HO_11; clear HB; clear HO1163; have HO_11 := n0_; have HB := n1_; have HO1166 := n2_; clear n0_ n1_ n2_; clear ho hb hg hat) | ((with_reducible refine gate_callee (f := 108) rfl ?_); refine gl_ (some 51) Try.func108 #[.slice A0 l0.length c0, .int .i64 a1] ?_; (with_reducible refine (spec_l4Get.calls kj5 _ _ l0 a1 t1167 true _ ?side1 ?side2 A23.out).mono ?_); (case side1 => exact kC_ (Kd.C_below HR0.out HB.out)); (case side2 => exact HC0.out); rintro e w' ⟨rfl, ⟨nd, rfl⟩⟩; refine ⟨_, rfl, ?_⟩) | ((with_reducible refine gate_callee (f := 110) rfl ?_); refine gl_ (some 63) Try.func110 #[.string a3] ?_; (with_reducible refine (spec_FileText.calls kj5 a3 t1169 _ A25.out).mono ?_); rintro e w' ⟨rfl, ⟨nd, rfl⟩⟩; refine ⟨_, rfl, ?_⟩) | ((with_reducible refine gate_callee (f := 84) rfl ?_); refine gl_ (some 64) Try.func84 #[.string t1169] ?_; (with_reducible refine (spec_PrintOf.calls kj5 t1169 t1170 _ A26.out).mono ?_); rintro e w' ⟨rfl, ⟨nd, rfl⟩⟩; refine ⟨_, rfl, ?_⟩; obtain ⟨Ao36, co36, eo36⟩ := Kd.R_slice HO_11.out; subst eo36) | ((with_reducible refine gate_callee (f := 109) rfl ?_); refine gl_ (some 65) Try.func109 #[.slice A0 l0.length c0, .int .i64 a1, .slice Ao36 t1152.length co36, .int .i64 t1170] ?_; (with_reducible refine (spec_l10Set.calls kj5 (fun k_ => k_ < w.heap.size) _ _ l0 a1 _ _ t1152 t1170 t1171 t1174 true _ ?side1 ?side2 ?side3 A27.out).mono ?_); (case side1 => exact Kd.V_mk HC0.out (Kd.F_below (Kd.C_F k65_heap HR0.out) hb_)); (case side2 => exact kC_ ((Kd.R_reads' HO_11.out).2.2)); (case side3 => exact (Kd.R_reads' HO_11.out).2.1); rintro e w37 ⟨v1172, rfl, ho0, hb⟩; refine ⟨_, rfl, ?_⟩; have HO1173 := Aside0.mk (Kd.V_lower (Kd.V_mono (ok' := fun k_ => some k_ ≠ (.slice Ao36 t1152.length co36 : Value).ownBlock ∧ some k_ ≠ (v1165 : Value).ownBlock) ho0 (fun k_ hk_ => ⟨Or.elim hk_ (fun hs_ => fun e_ => Nat.not_le.2 hs_ (Kd.R_base HO_11.out k_ e_.symm)) (fun hn_ => (Kd.fresh' (Kd.R_lt (kR_ HO_11.out)) k_ hn_)), Or.elim hk_ (fun hs_ => fun e_ => Nat.not_le.2 hs_ (Kd.R_base HO1166.out k_ e_.symm)) (fun hn_ => (Kd.fresh' (Kd.R_lt (kR_ HO1166.out)) k_ hn_))⟩)) (below_size hb_)); replace HO_11 := Aside0.mk (Kd.R_below (kR_ HO_11.out) hb); replace HO1166 := Aside0.mk (Kd.R_below (kR_ HO1166.out) hb); replace HB := Aside0.mk (below_step hb_ hb); (try clear hb); (try clear hk); (try clear ho0)) | ((with_reducible refine gate_callee (f := 110) rfl ?_); refine gl_ (some 76) Try.func110 #[.string a3] ?_; (with_reducible refine (spec_FileText.calls kj5 a3 t1176 _ A29.out).mono ?_); rintro e w' ⟨rfl, ⟨nd, rfl⟩⟩; refine ⟨_, rfl, ?_⟩; obtain ⟨Ao38, co38, eo38⟩ := Kd.V_slice HO1173.out; subst eo38) | ((with_reducible refine gate_callee (f := 57) rfl ?_); refine gl_ (some 77) Try.func57 #[.slice Ao38 t1171.length co38, .string t1176] ?_; (with_reducible refine (spec_PutText.calls kj5 _ _ t1171 t1176 t1177 t1178 true _ ?side1 ?side2 A30.out).mono ?_); (case side1 => exact kC_ ((Kd.V_reads' HO1173.out).2.2)); (case side2 => exact (Kd.V_reads' HO1173.out).2.1); rintro e w39 ⟨v1180, rfl, ho0, hb⟩; refine ⟨_, rfl, ?_⟩; have n0_ := Aside0.mk (Kd.R_below (kR_ HO_11.out) hb); have n1_ := Aside0.mk (Kd.R_elder' (kR_ HO1166.out) (Kd.R_base ho0) hb); have n2_ := Aside0.mk (Kd.V_elder' (kV_ HO1173.out) (Kd.R_base ho0) hb); have n3_ := Aside0.mk (Kd.R_lower (Kd.R_new' ho0 (Kd.R_lt (kR_ HO1166.out))) (below_size hb_)); have n4_ := Aside0.mk (below_step hb_ hb); clear HO_11; clear HO1166; clear HO1173; clear HB; have HO_11 := n0_; have HO1166 := n1_; have HO1173 := n2_; have HO1181 := n3_; have HB := n4_; clear n0_ n1_ n2_ n3_ n4_; (try clear hb); (try clear hk); (try clear ho0)) | ((with_reducible refine gate_dst (N := 85) rfl ?_); (try (refine gate_guard (by rfl) ?_; dsimp only)); refine Kd.R_lit k65 _ 65 ?hg (N := 85) ?hd (xs := ([] : List (S65))) (inner := []) (ok := fun _ => True) (okp := fun _ => True) ?hr ?hp (fun _ hk => hk) trivial (Below.refl _ _) (Nat.le_refl _) (by simp) ?_; (case hd => rfl); (case hg => rfl); (case hr => first | (go_simp; done) | (go_simp; rfl)); (case hp => exact (Reps.none _ _)); intro v1183 w40 ho41 hb hg_ hnew_; clear hg_ hnew_; (first | rw [← Ny1182.out] at ho41 | (simp only [Int.reduceToNat] at ho41; rw [← Ny1182.out] at ho41)); have n0_ := Aside0.mk (Kd.R_below (kR_ HO_11.out) hb); have n1_ := Aside0.mk (Kd.R_elder' (kR_ HO1166.out) (Kd.R_base ho41) hb); have n2_ := Aside0.mk (Kd.V_elder' (kV_ HO1173.out) (Kd.R_base ho41) hb); have n3_ := Aside0.mk (Kd.R_elder' (kR_ HO1181.out) (Kd.R_base ho41) hb); have n4_ := Aside0.mk (Kd.R_lower (Kd.R_new' (Kd.R_new' ho41 (Kd.R_lt (kR_ HO1166.out))) (Kd.R_lt (kR_ HO1181.out))) (below_size hb_)); have n5_ := Aside0.mk (below_step hb_ hb); clear HO_11; clear HO1166; clear HO1173; clear HO1181; clear HB; have HO_11 := n0_; have HO1166 := n1_; have HO1173 := n2_; have HO1181 := n3_; have HO1184 := n4_; have HB := n5_; clear n0_ n1_ n2_ n3_ n4_ n5_; clear hb ho41; obtain ⟨Ao43, co43, eo43⟩ := Kd.R_slice HO1181.out; subst eo43) | ((with_reducible refine gate_builtin (b := .append) (xs := #[.tmp 85, .tmp 86]) rfl ?_); (try (refine gate_guard (by rfl) ?_; dsimp only)); at_builtin; refine Kd.R_append_rows k65 (w0 := w) w.heap.size rfl (.tmp 85) (.tmp 86) 51 65 (.agg #[(.int .i64 0), (.string ⟨#[]⟩)]) 24 rfl Try.underlying51 info65 rfl (by decide) (by omega) v1183 y1182 t1177 _ _ _ (fun k_ => some k_ ≠ (v1165 : Value).ownBlock ∧ some k_ ≠ (.slice Ao43 t1177.length co43 : Value).ownBlock) (fun _ => False) rfl rfl ?aO ?aR (fun _ _ h => h) (fun _ h => h.elim) ?aF ?aB ?aS ?aL ?_; (case aR => repeat (first | exact (Kd.R_reads' HO1181.out).2.2 | (with_reducible refine Kd.C_alloc ?_ _) | (with_reducible refine Kd.C_drewN ?_ _) | (with_reducible refine Kd.C_drew ?_))); (case aB => exact hb_); (case aF => exact (fun k_ hk => ⟨Kd.fresh' (Kd.R_lt (kR_ HO1166.out)) k_ hk, Kd.fresh' (Kd.R_lt (kR_ HO1181.out)) k_ hk⟩)); (case aO => exact (by refine kR_ ?_; exact Kd.R_mono HO1184.out (fun _ hk => ⟨hk.1.2, hk.2⟩))); (case aS => exact (below_size hb_)); (case aL => have := LMc32.out; omega); intro v1186 w42 ho hb hg hat; rw [← Ny1185.out] at ho; have n0_ := Aside0.mk (Kd.R_over' (kR_ HO_11.out) (Kd.R_typed (kR_ HO1184.out)) (by decide) hg); have n1_ := Aside0.mk (Kd.R_after (ok := (fun k_ => some k_ ≠ (.slice Ao43 t1177.length co43 : Value).ownBlock)) (by refine kR_ ?_; exact Kd.R_mono HO1166.out (fun _ hk => ⟨hk.1.2, hk.2⟩)) hg hat); have n2_ := Aside0.mk (Kd.V_afterv (ok := (fun k_ => some k_ ≠ (.slice Ao36 t1152.length co36 : Value).ownBlock ∧ some k_ ≠ (v1165 : Value).ownBlock ∧ some k_ ≠ (.slice Ao43 t1177.length co43 : Value).ownBlock)) (by refine kV_ ?_; exact Kd.V_mono HO1173.out (fun _ hk => ⟨⟨hk.1.1.1, ⟨hk.1.1.2, hk.1.2⟩⟩, hk.2⟩)) hg hat); have n3_ := Aside0.mk (Kd.R_after (ok := (fun k_ => some k_ ≠ (v1165 : Value).ownBlock)) (by refine kR_ ?_; exact Kd.R_mono HO1181.out (fun _ hk => ⟨hk.1.2, hk.2⟩)) hg hat); have n4_ := Aside0.mk (hb); have n5_ := Aside0.mk (ho); clear HO_11; clear HO1166; clear HO1173; clear HO1181; clear HB; clear HO1184; have HO_11 := n0_; have HO1166 := n1_; have HO1173 := n2_; have HO1181 := n3_; have HB := n4_; have HO1187 := n5_; clear n0_ n1_ n2_ n3_ n4_ n5_; clear ho hb hg hat))
       go_ret3
       exact ⟨_, er_, by refine kR_ ?_; exact Kd.R_mono HO1187.out (fun _ hk => trivial), hb_⟩
      ·replace c31 := Bool.eq_false_iff.mpr c31
       subst c31
       have H1 : (some (y1164, a1, false)) = some (r1, r2, r3) := by rw [if_neg (show ¬ (false = true) by decide)] at H; exact H
       clear H
       have H := H1
       clear H1
       simp only [Option.some.injEq, Prod.mk.injEq] at H
       obtain ⟨rfl, rfl, rfl⟩ := H
       go_wp2_with (first | ((with_reducible refine gate_dst (N := 45) rfl ?_); (try (refine gate_guard (by rfl) ?_; dsimp only)); refine Kd.R_lit k65 _ 65 ?hg (N := 45) ?hd (xs := ([] : List (S65))) (inner := []) (ok := fun _ => True) (okp := fun _ => True) ?hr ?hp (fun _ hk => hk) trivial (Below.refl _ _) (Nat.le_refl _) (by simp) ?_; (case hd => rfl); (case hg => rfl); (case hr => first | (go_simp; done) | (go_simp; rfl)); (case hp => exact (Reps.none _ _)); intro v1162 w44 ho45 hb hg_ hnew_; clear hg_ hnew_; (first | rw [← Ny1161.out] at ho45 | (simp only [Int.reduceToNat] at ho45; rw [← Ny1161.out] at ho45)); replace HO_11 := Aside0.mk (Kd.R_below (kR_ HO_11.out) hb); have HO1163 := Aside0.mk (Kd.R_lower ho45 (below_size hb_)); replace HB := Aside0.mk (below_step hb_ hb); clear hb ho45) | ((with_reducible refine gate_builtin (b := .append) (xs := #[.tmp 45, .tmp 46]) rfl ?_); (try (refine gate_guard (by rfl) ?_; dsimp only)); at_builtin; refine Kd.R_append_rows k65 (w0 := w) w.heap.size rfl (.tmp 45) (.tmp 46) 51 65 (.agg #[(.int .i64 0), (.string ⟨#[]⟩)]) 24 rfl Try.underlying51 info65 rfl (by decide) (by omega) v1162 y1161 l0 _ _ _ (fun _ => True) (fun _ => False) rfl rfl ?aO ?aR (fun _ _ h => h) (fun _ h => h.elim) ?aF ?aB ?aS ?aL ?_; (case aR => repeat (first | exact (Kd.C_below HR0.out HB.out) | (with_reducible refine Kd.C_alloc ?_ _) | (with_reducible refine Kd.C_drewN ?_ _) | (with_reducible refine Kd.C_drew ?_))); (case aB => exact hb_); (case aF => exact (fun _ _ => trivial)); (case aO => exact (kR_ HO1163.out)); (case aS => exact (below_size hb_)); (case aL => have := LMc22.out; omega); intro v1165 w46 ho hb hg hat; rw [← Ny1164.out] at ho; have n0_ := Aside0.mk (Kd.R_over' (kR_ HO_11.out) (Kd.R_typed (kR_ HO1163.out)) (by decide) hg); have n1_ := Aside0.mk (hb); have n2_ := Aside0.mk (ho); clear HO_11; clear HB; clear HO1163; have HO_11 := n0_; have HB := n1_; have HO1166 := n2_; clear n0_ n1_ n2_; clear ho hb hg hat) | ((with_reducible refine gate_callee (f := 108) rfl ?_); refine gl_ (some 51) Try.func108 #[.slice A0 l0.length c0, .int .i64 a1] ?_; (with_reducible refine (spec_l4Get.calls kj5 _ _ l0 a1 t1167 true _ ?side1 ?side2 A23.out).mono ?_); (case side1 => exact kC_ (Kd.C_below HR0.out HB.out)); (case side2 => exact HC0.out); rintro e w' ⟨rfl, ⟨nd, rfl⟩⟩; refine ⟨_, rfl, ?_⟩) | ((with_reducible refine gate_callee (f := 110) rfl ?_); refine gl_ (some 63) Try.func110 #[.string a3] ?_; (with_reducible refine (spec_FileText.calls kj5 a3 t1169 _ A25.out).mono ?_); rintro e w' ⟨rfl, ⟨nd, rfl⟩⟩; refine ⟨_, rfl, ?_⟩) | ((with_reducible refine gate_callee (f := 84) rfl ?_); refine gl_ (some 64) Try.func84 #[.string t1169] ?_; (with_reducible refine (spec_PrintOf.calls kj5 t1169 t1170 _ A26.out).mono ?_); rintro e w' ⟨rfl, ⟨nd, rfl⟩⟩; refine ⟨_, rfl, ?_⟩; obtain ⟨Ao47, co47, eo47⟩ := Kd.R_slice HO_11.out; subst eo47) | ((with_reducible refine gate_callee (f := 109) rfl ?_); refine gl_ (some 65) Try.func109 #[.slice A0 l0.length c0, .int .i64 a1, .slice Ao47 t1152.length co47, .int .i64 t1170] ?_; (with_reducible refine (spec_l10Set.calls kj5 (fun k_ => k_ < w.heap.size) _ _ l0 a1 _ _ t1152 t1170 t1171 t1174 true _ ?side1 ?side2 ?side3 A27.out).mono ?_); (case side1 => exact Kd.V_mk HC0.out (Kd.F_below (Kd.C_F k65_heap HR0.out) hb_)); (case side2 => exact kC_ ((Kd.R_reads' HO_11.out).2.2)); (case side3 => exact (Kd.R_reads' HO_11.out).2.1); rintro e w48 ⟨v1172, rfl, ho0, hb⟩; refine ⟨_, rfl, ?_⟩; have HO1173 := Aside0.mk (Kd.V_lower (Kd.V_mono (ok' := fun k_ => some k_ ≠ (.slice Ao47 t1152.length co47 : Value).ownBlock ∧ some k_ ≠ (v1165 : Value).ownBlock) ho0 (fun k_ hk_ => ⟨Or.elim hk_ (fun hs_ => fun e_ => Nat.not_le.2 hs_ (Kd.R_base HO_11.out k_ e_.symm)) (fun hn_ => (Kd.fresh' (Kd.R_lt (kR_ HO_11.out)) k_ hn_)), Or.elim hk_ (fun hs_ => fun e_ => Nat.not_le.2 hs_ (Kd.R_base HO1166.out k_ e_.symm)) (fun hn_ => (Kd.fresh' (Kd.R_lt (kR_ HO1166.out)) k_ hn_))⟩)) (below_size hb_)); replace HO_11 := Aside0.mk (Kd.R_below (kR_ HO_11.out) hb); replace HO1166 := Aside0.mk (Kd.R_below (kR_ HO1166.out) hb); replace HB := Aside0.mk (below_step hb_ hb); (try clear hb); (try clear hk); (try clear ho0)) | ((with_reducible refine gate_callee (f := 110) rfl ?_); refine gl_ (some 76) Try.func110 #[.string a3] ?_; (with_reducible refine (spec_FileText.calls kj5 a3 t1176 _ A29.out).mono ?_); rintro e w' ⟨rfl, ⟨nd, rfl⟩⟩; refine ⟨_, rfl, ?_⟩; obtain ⟨Ao49, co49, eo49⟩ := Kd.V_slice HO1173.out; subst eo49) | ((with_reducible refine gate_callee (f := 57) rfl ?_); refine gl_ (some 77) Try.func57 #[.slice Ao49 t1171.length co49, .string t1176] ?_; (with_reducible refine (spec_PutText.calls kj5 _ _ t1171 t1176 t1177 t1178 false _ ?side1 ?side2 A30.out).mono ?_); (case side1 => exact kC_ ((Kd.V_reads' HO1173.out).2.2)); (case side2 => exact (Kd.V_reads' HO1173.out).2.1); rintro e w50 ⟨v1180, rfl, ho0, hb⟩; refine ⟨_, rfl, ?_⟩; have n0_ := Aside0.mk (Kd.R_below (kR_ HO_11.out) hb); have n1_ := Aside0.mk (Kd.R_elder' (kR_ HO1166.out) (Kd.R_base ho0) hb); have n2_ := Aside0.mk (Kd.V_elder' (kV_ HO1173.out) (Kd.R_base ho0) hb); have n3_ := Aside0.mk (Kd.R_lower (Kd.R_new' ho0 (Kd.R_lt (kR_ HO1166.out))) (below_size hb_)); have n4_ := Aside0.mk (below_step hb_ hb); clear HO_11; clear HO1166; clear HO1173; clear HB; have HO_11 := n0_; have HO1166 := n1_; have HO1173 := n2_; have HO1181 := n3_; have HB := n4_; clear n0_ n1_ n2_ n3_ n4_; (try clear hb); (try clear hk); (try clear ho0)))
       go_ret3
       exact ⟨_, er_, by refine kR_ ?_; exact Kd.R_mono HO1166.out (fun _ hk => trivial), hb_⟩
     ·replace c28 := Bool.eq_false_iff.mpr c28
      subst c28
      have H1 : (some (y1164, a1, false)) = some (r1, r2, r3) := by rw [if_neg (show ¬ (false = true) by decide)] at H; exact H
      clear H
      have H := H1
      clear H1
      simp only [Option.some.injEq, Prod.mk.injEq] at H
      obtain ⟨rfl, rfl, rfl⟩ := H
      go_wp2_with (first | ((with_reducible refine gate_dst (N := 45) rfl ?_); (try (refine gate_guard (by rfl) ?_; dsimp only)); refine Kd.R_lit k65 _ 65 ?hg (N := 45) ?hd (xs := ([] : List (S65))) (inner := []) (ok := fun _ => True) (okp := fun _ => True) ?hr ?hp (fun _ hk => hk) trivial (Below.refl _ _) (Nat.le_refl _) (by simp) ?_; (case hd => rfl); (case hg => rfl); (case hr => first | (go_simp; done) | (go_simp; rfl)); (case hp => exact (Reps.none _ _)); intro v1162 w51 ho52 hb hg_ hnew_; clear hg_ hnew_; (first | rw [← Ny1161.out] at ho52 | (simp only [Int.reduceToNat] at ho52; rw [← Ny1161.out] at ho52)); replace HO_11 := Aside0.mk (Kd.R_below (kR_ HO_11.out) hb); have HO1163 := Aside0.mk (Kd.R_lower ho52 (below_size hb_)); replace HB := Aside0.mk (below_step hb_ hb); clear hb ho52) | ((with_reducible refine gate_builtin (b := .append) (xs := #[.tmp 45, .tmp 46]) rfl ?_); (try (refine gate_guard (by rfl) ?_; dsimp only)); at_builtin; refine Kd.R_append_rows k65 (w0 := w) w.heap.size rfl (.tmp 45) (.tmp 46) 51 65 (.agg #[(.int .i64 0), (.string ⟨#[]⟩)]) 24 rfl Try.underlying51 info65 rfl (by decide) (by omega) v1162 y1161 l0 _ _ _ (fun _ => True) (fun _ => False) rfl rfl ?aO ?aR (fun _ _ h => h) (fun _ h => h.elim) ?aF ?aB ?aS ?aL ?_; (case aR => repeat (first | exact (Kd.C_below HR0.out HB.out) | (with_reducible refine Kd.C_alloc ?_ _) | (with_reducible refine Kd.C_drewN ?_ _) | (with_reducible refine Kd.C_drew ?_))); (case aB => exact hb_); (case aF => exact (fun _ _ => trivial)); (case aO => exact (kR_ HO1163.out)); (case aS => exact (below_size hb_)); (case aL => have := LMc22.out; omega); intro v1165 w53 ho hb hg hat; rw [← Ny1164.out] at ho; have n0_ := Aside0.mk (Kd.R_over' (kR_ HO_11.out) (Kd.R_typed (kR_ HO1163.out)) (by decide) hg); have n1_ := Aside0.mk (hb); have n2_ := Aside0.mk (ho); clear HO_11; clear HB; clear HO1163; have HO_11 := n0_; have HB := n1_; have HO1166 := n2_; clear n0_ n1_ n2_; clear ho hb hg hat) | ((with_reducible refine gate_callee (f := 108) rfl ?_); refine gl_ (some 51) Try.func108 #[.slice A0 l0.length c0, .int .i64 a1] ?_; (with_reducible refine (spec_l4Get.calls kj5 _ _ l0 a1 t1167 true _ ?side1 ?side2 A23.out).mono ?_); (case side1 => exact kC_ (Kd.C_below HR0.out HB.out)); (case side2 => exact HC0.out); rintro e w' ⟨rfl, ⟨nd, rfl⟩⟩; refine ⟨_, rfl, ?_⟩) | ((with_reducible refine gate_callee (f := 110) rfl ?_); refine gl_ (some 63) Try.func110 #[.string a3] ?_; (with_reducible refine (spec_FileText.calls kj5 a3 t1169 _ A25.out).mono ?_); rintro e w' ⟨rfl, ⟨nd, rfl⟩⟩; refine ⟨_, rfl, ?_⟩) | ((with_reducible refine gate_callee (f := 84) rfl ?_); refine gl_ (some 64) Try.func84 #[.string t1169] ?_; (with_reducible refine (spec_PrintOf.calls kj5 t1169 t1170 _ A26.out).mono ?_); rintro e w' ⟨rfl, ⟨nd, rfl⟩⟩; refine ⟨_, rfl, ?_⟩; obtain ⟨Ao54, co54, eo54⟩ := Kd.R_slice HO_11.out; subst eo54) | ((with_reducible refine gate_callee (f := 109) rfl ?_); refine gl_ (some 65) Try.func109 #[.slice A0 l0.length c0, .int .i64 a1, .slice Ao54 t1152.length co54, .int .i64 t1170] ?_; (with_reducible refine (spec_l10Set.calls kj5 (fun k_ => k_ < w.heap.size) _ _ l0 a1 _ _ t1152 t1170 t1171 t1174 false _ ?side1 ?side2 ?side3 A27.out).mono ?_); (case side1 => exact Kd.V_mk HC0.out (Kd.F_below (Kd.C_F k65_heap HR0.out) hb_)); (case side2 => exact kC_ ((Kd.R_reads' HO_11.out).2.2)); (case side3 => exact (Kd.R_reads' HO_11.out).2.1); rintro e w55 ⟨v1172, rfl, ho0, hb⟩; refine ⟨_, rfl, ?_⟩; have HO1173 := Aside0.mk (Kd.V_lower (Kd.V_mono (ok' := fun k_ => some k_ ≠ (.slice Ao54 t1152.length co54 : Value).ownBlock ∧ some k_ ≠ (v1165 : Value).ownBlock) ho0 (fun k_ hk_ => ⟨Or.elim hk_ (fun hs_ => fun e_ => Nat.not_le.2 hs_ (Kd.R_base HO_11.out k_ e_.symm)) (fun hn_ => (Kd.fresh' (Kd.R_lt (kR_ HO_11.out)) k_ hn_)), Or.elim hk_ (fun hs_ => fun e_ => Nat.not_le.2 hs_ (Kd.R_base HO1166.out k_ e_.symm)) (fun hn_ => (Kd.fresh' (Kd.R_lt (kR_ HO1166.out)) k_ hn_))⟩)) (below_size hb_)); replace HO_11 := Aside0.mk (Kd.R_below (kR_ HO_11.out) hb); replace HO1166 := Aside0.mk (Kd.R_below (kR_ HO1166.out) hb); replace HB := Aside0.mk (below_step hb_ hb); (try clear hb); (try clear hk); (try clear ho0)))
      go_ret3
      exact ⟨_, er_, by refine kR_ ?_; exact HO1166.out, hb_⟩
    ·replace c24 := Bool.eq_false_iff.mpr c24
     subst c24
     have H1 : (some (y1164, a1, false)) = some (r1, r2, r3) := by rw [if_neg (show ¬ (false = true) by decide)] at H; exact H
     clear H
     have H := H1
     clear H1
     simp only [Option.some.injEq, Prod.mk.injEq] at H
     obtain ⟨rfl, rfl, rfl⟩ := H
     go_wp2_with (first | ((with_reducible refine gate_dst (N := 45) rfl ?_); (try (refine gate_guard (by rfl) ?_; dsimp only)); refine Kd.R_lit k65 _ 65 ?hg (N := 45) ?hd (xs := ([] : List (S65))) (inner := []) (ok := fun _ => True) (okp := fun _ => True) ?hr ?hp (fun _ hk => hk) trivial (Below.refl _ _) (Nat.le_refl _) (by simp) ?_; (case hd => rfl); (case hg => rfl); (case hr => first | (go_simp; done) | (go_simp; rfl)); (case hp => exact (Reps.none _ _)); intro v1162 w56 ho57 hb hg_ hnew_; clear hg_ hnew_; (first | rw [← Ny1161.out] at ho57 | (simp only [Int.reduceToNat] at ho57; rw [← Ny1161.out] at ho57)); replace HO_11 := Aside0.mk (Kd.R_below (kR_ HO_11.out) hb); have HO1163 := Aside0.mk (Kd.R_lower ho57 (below_size hb_)); replace HB := Aside0.mk (below_step hb_ hb); clear hb ho57) | ((with_reducible refine gate_builtin (b := .append) (xs := #[.tmp 45, .tmp 46]) rfl ?_); (try (refine gate_guard (by rfl) ?_; dsimp only)); at_builtin; refine Kd.R_append_rows k65 (w0 := w) w.heap.size rfl (.tmp 45) (.tmp 46) 51 65 (.agg #[(.int .i64 0), (.string ⟨#[]⟩)]) 24 rfl Try.underlying51 info65 rfl (by decide) (by omega) v1162 y1161 l0 _ _ _ (fun _ => True) (fun _ => False) rfl rfl ?aO ?aR (fun _ _ h => h) (fun _ h => h.elim) ?aF ?aB ?aS ?aL ?_; (case aR => repeat (first | exact (Kd.C_below HR0.out HB.out) | (with_reducible refine Kd.C_alloc ?_ _) | (with_reducible refine Kd.C_drewN ?_ _) | (with_reducible refine Kd.C_drew ?_))); (case aB => exact hb_); (case aF => exact (fun _ _ => trivial)); (case aO => exact (kR_ HO1163.out)); (case aS => exact (below_size hb_)); (case aL => have := LMc22.out; omega); intro v1165 w58 ho hb hg hat; rw [← Ny1164.out] at ho; have n0_ := Aside0.mk (Kd.R_over' (kR_ HO_11.out) (Kd.R_typed (kR_ HO1163.out)) (by decide) hg); have n1_ := Aside0.mk (hb); have n2_ := Aside0.mk (ho); clear HO_11; clear HB; clear HO1163; have HO_11 := n0_; have HB := n1_; have HO1166 := n2_; clear n0_ n1_ n2_; clear ho hb hg hat) | ((with_reducible refine gate_callee (f := 108) rfl ?_); refine gl_ (some 51) Try.func108 #[.slice A0 l0.length c0, .int .i64 a1] ?_; (with_reducible refine (spec_l4Get.calls kj5 _ _ l0 a1 t1167 false _ ?side1 ?side2 A23.out).mono ?_); (case side1 => exact kC_ (Kd.C_below HR0.out HB.out)); (case side2 => exact HC0.out); rintro e w' ⟨rfl, ⟨nd, rfl⟩⟩; refine ⟨_, rfl, ?_⟩))
     go_ret3
     exact ⟨_, er_, by refine kR_ ?_; exact HO1166.out, hb_⟩
/-! ### spec_l20Content: function 100 -/
def spec_l20Content.f (k : Nat) (s0_0 : List Int) (s0_1 : Int) : Option (ByteArray × Int) := (some (([(⟨#[104, 105]⟩ : ByteArray), (⟨#[114, 101, 100, 32, 103, 114, 101, 101, 110]⟩ : ByteArray), (⟨#[]⟩ : ByteArray), (⟨#[120]⟩ : ByteArray)] : List ByteArray) : List ByteArray)).bind fun y1188 => ((spec_l20Rd_pick.f k s0_0 s0_1 4).bind fun bt1191 => (if 0 ≤ bt1191.1 then (if bt1191.1 < (y1188.length : Int) then (some (rdOf ByteArray.empty y1188 bt1191.1, bt1191.2)) else (none)) else (none)))
set_option maxHeartbeats 8000000 in
set_option maxRecDepth 100000 in
theorem spec_l20Content.calls (k : Nat) (g : Nat) (s0_0 : List Int) (s0_1 : Int) (r1 : ByteArray) (r2 : Int) (w0 w : World) (hI : IsS91 w0 w g s0_0 s0_1) (hB : Below w0.heap.size w0 w) (h : spec_l20Content.f k s0_0 s0_1 = some (r1, r2)) :
  Calls Try.prog 100 #[.pointer (some ⟨g, 0, none⟩)] w fun e w' => e = .returned (.string r1) ∧ IsS91 w0 w' g s0_0 r2 ∧ Below w0.heap.size w0 w' ∧ KeepBut w w' g none := by
 have HI0 := Aside0.mk hI
 have HK := Aside0.mk (KeepBut.refl w g none)
 have HL := Aside0.mk hB.size
 clear hI
 have HW0 := Aside0.mk hB.size
 have HB := Aside0.mk hB
 clear hB
 have H : ((some (([(⟨#[104, 105]⟩ : ByteArray), (⟨#[114, 101, 100, 32, 103, 114, 101, 101, 110]⟩ : ByteArray), (⟨#[]⟩ : ByteArray), (⟨#[120]⟩ : ByteArray)] : List ByteArray) : List ByteArray)).bind fun y1188 => ((spec_l20Rd_pick.f k s0_0 s0_1 4).bind fun bt1191 => (if 0 ≤ bt1191.1 then (if bt1191.1 < (y1188.length : Int) then (some (rdOf ByteArray.empty y1188 bt1191.1, bt1191.2)) else (none)) else (none)))) = some (r1, r2) := h
 clear h
 obtain ⟨y1188, hy1188⟩ : ∃ y_ : List ByteArray, y_ = (([(⟨#[104, 105]⟩ : ByteArray), (⟨#[114, 101, 100, 32, 103, 114, 101, 101, 110]⟩ : ByteArray), (⟨#[]⟩ : ByteArray), (⟨#[120]⟩ : ByteArray)] : List ByteArray)) := ⟨_, rfl⟩
 replace H : ((spec_l20Rd_pick.f k s0_0 s0_1 4).bind fun bt1191 => (if 0 ≤ bt1191.1 then (if bt1191.1 < (y1188.length : Int) then (some (rdOf ByteArray.empty y1188 bt1191.1, bt1191.2)) else (none)) else (none))) = some (r1, r2) := hq_ hy1188 H
 have Ny1188 := Aside0.mk hy1188
 clear hy1188
 replace H := Option.bind_eq_some_iff.mp H
 obtain ⟨⟨t1191, t1192⟩, A20, H⟩ := H
 replace H : (if 0 ≤ t1191 then (if t1191 < (y1188.length : Int) then (some (rdOf ByteArray.empty y1188 t1191, t1192)) else (none)) else (none)) = some (r1, r2) := H
 have A2 := Aside0.mk A20
 clear A20
 by_cases c3 : 0 ≤ t1191; rotate_left
 ·rw [if_neg c3] at H; exact absurd H (by simp)
 rw [if_pos c3] at H
 have c3b0 : decide (0 ≤ t1191) = true := decide_eq_true c3
 clear c3
 by_cases c4 : t1191 < (y1188.length : Int); rotate_left
 ·rw [if_neg c4] at H; exact absurd H (by simp)
 rw [if_pos c4] at H
 have c4b0 : decide (t1191 < (y1188.length : Int)) = true := decide_eq_true c4
 clear c4
 simp only [Option.some.injEq, Prod.mk.injEq] at H
 obtain ⟨rfl, rfl⟩ := H
 go_enter Try.func100, Try.ntmps100
 go_wp2_with (first | ((with_reducible refine gate_dst (N := 3) rfl ?_); refine Kd.R_lit Kd.string _ 9 ?hg (N := 3) ?hd (xs := ([(⟨#[104, 105]⟩ : ByteArray), (⟨#[114, 101, 100, 32, 103, 114, 101, 101, 110]⟩ : ByteArray), (⟨#[]⟩ : ByteArray), (⟨#[120]⟩ : ByteArray)] : List ByteArray)) (inner := [.string (⟨#[104, 105]⟩ : ByteArray), .string (⟨#[114, 101, 100, 32, 103, 114, 101, 101, 110]⟩ : ByteArray), .string (⟨#[]⟩ : ByteArray), .string (⟨#[120]⟩ : ByteArray)]) (ok := fun _ => True) (okp := fun _ => True) ?hr ?hp (fun _ hk => hk) trivial (Below.refl _ _) (Nat.le_refl _) (by simp) ?_; (case hd => rfl); (case hg => rfl); (case hr => first | (go_simp; done) | (go_simp; rfl)); (case hp => exact (Reps.one (show Kd.M Kd.string _ _ _ (⟨#[104, 105]⟩ : ByteArray) [.string (⟨#[104, 105]⟩ : ByteArray)] from rfl) (Reps.one (show Kd.M Kd.string _ _ _ (⟨#[114, 101, 100, 32, 103, 114, 101, 101, 110]⟩ : ByteArray) [.string (⟨#[114, 101, 100, 32, 103, 114, 101, 101, 110]⟩ : ByteArray)] from rfl) (Reps.one (show Kd.M Kd.string _ _ _ (⟨#[]⟩ : ByteArray) [.string (⟨#[]⟩ : ByteArray)] from rfl) (Reps.one (show Kd.M Kd.string _ _ _ (⟨#[120]⟩ : ByteArray) [.string (⟨#[120]⟩ : ByteArray)] from rfl) (Reps.none _ _)))))); intro v1189 w5 ho6 hb hg_ hnew_; clear hg_ hnew_; (first | rw [← Ny1188.out] at ho6 | (simp only [Int.reduceToNat] at ho6; rw [← Ny1188.out] at ho6)); have HO1190 := Aside0.mk (Kd.R_lower ho6 (keep_size (w := w) (g := g) (row := none) hK0_)); replace HK := Aside0.mk (KeepBut.trans hK0_ (KeepBut.of_below hb g none) (.inl rfl)); replace HB := Aside0.mk (below_step (hs_ (IsS91.ge HI0.out)) hb); replace HI0 := Aside0.mk (IsS91.below (by repeat (first | (with_reducible first | exact HI0.out | apply IsS91.alloc | apply IsS91.drewN | apply IsS91.drew | apply IsS91.set_1) | exact HI0.out)) hb); clear hb ho6) | ((with_reducible refine gate_callee (f := 70) rfl ?_); refine gl_ (some 5) Try.func70 #[.pointer (some ⟨g, 0, none⟩), .int .i64 4] ?_; (with_reducible refine (spec_l20Rd_pick.calls k g s0_0 s0_1 4 t1191 t1192 w0 _ ?side1 ?side2 A2.out).mono ?_); (case side1 => repeat (first | (with_reducible first | exact HI0.out | apply IsS91.alloc | apply IsS91.drewN | apply IsS91.drew | apply IsS91.set_1) | exact HI0.out)); (case side2 => exact hs_ (IsS91.ge HI0.out)); rintro e w7 ⟨rfl, hi, hb, hk⟩; refine ⟨_, rfl, ?_⟩; replace HO1190 := Aside0.mk (Kd.R_mono (Kd.R_keep (IsS91.apart (show IsS91 w0 _ g s0_0 s0_1 from by repeat (first | (with_reducible first | exact HI0.out | apply IsS91.alloc | apply IsS91.drewN | apply IsS91.drew | apply IsS91.set_1) | exact HI0.out)) (kR_ HO1190.out) (by decide)) hk (fun _ h => h.2)) (fun _ h => h.1)); replace HK := Aside0.mk (KeepBut.trans hK0_ hk (.inl rfl)); replace HB := Aside0.mk (hb); replace HI0 := Aside0.mk (hi); (try clear hb); (try clear hk); (try clear hi); obtain ⟨Ao8, co8, eo8⟩ := Kd.R_slice HO1190.out; subst eo8; have p1193 : 0 ≤ (t1191 : Int) := dt_; have q1193 : t1191 < (y1188.length : Int) := dt_; obtain ⟨ad1193, e1193, hx1193_0⟩ := Kd.at_string (Kd.R_reads' HO1190.out).2.2 t1191 p1193 q1193; cases e1193; replace p1193 := eq_true p1193; replace q1193 := eq_true q1193))
 go_ret
 exact ⟨er_, by repeat (first | (with_reducible first | exact HI0.out | apply IsS91.alloc | apply IsS91.drewN | apply IsS91.drew | apply IsS91.set_1) | exact HI0.out), hs_ (IsS91.ge HI0.out), by repeat (first | (with_reducible first | exact HK.out | apply KeepBut.set_ | apply keep_drewN | apply keep_drew | apply keep_alloc) | exact HK.out)⟩
/-! ### spec_l20Step: function 90 -/
def spec_l20Step.f (k : Nat) (s0_0 : List Int) (s0_1 : Int) (l1 : List (S65)) (a2 : Int) : Option ((List (S65)) × Int × Bool × Int) := (spec_l20Path.f k s0_0 s0_1 0).bind fun bt1194 => (if bt1194.1.toList = ([47] : List UInt8) then (some (l1, a2, false, bt1194.2)) else ((spec_l20Rd_pick.f k s0_0 bt1194.2 5).bind fun bt1196 => (if bt1196.1 = 0 then ((spec_DropAt.f k l1 a2 bt1194.1).bind fun bt1198 => (some (bt1198.1, bt1198.2.1, bt1198.2.2, bt1196.2))) else ((spec_l20Content.f k s0_0 bt1196.2).bind fun bt1203 => ((spec_WriteAt.f k l1 a2 bt1194.1 bt1203.1).bind fun bt1205 => (some (bt1205.1, bt1205.2.1, bt1205.2.2, bt1203.2)))))))
set_option maxHeartbeats 8000000 in
set_option maxRecDepth 100000 in
theorem spec_l20Step.calls (k : Nat) (g : Nat) (s0_0 : List Int) (s0_1 : Int) (P1_ : Nat → Prop) (A1 : Option Addr) (c1 : Nat) (l1 : List (S65)) (a2 : Int) (r1 : List (S65)) (r2 : Int) (r3 : Bool) (r4 : Int) (w0 w : World) (hI : IsS91 w0 w g s0_0 s0_1) (hB : Below w0.heap.size w0 w) (hs1 : Kd.V k65 65 w w.heap.size (fun k_ => P1_ k_ ∧ k_ ≠ g) (.slice A1 l1.length c1) l1) (h : spec_l20Step.f k s0_0 s0_1 l1 a2 = some (r1, r2, r3, r4)) :
  Calls Try.prog 90 #[.pointer (some ⟨g, 0, none⟩), .slice A1 l1.length c1, .int .i64 a2] w fun e w' => ∃ v0_ : Value, e = .returned (.tuple #[v0_, .int .i64 r2, .bool r3]) ∧ Kd.V k65 65 w' w.heap.size (fun k_ => (P1_ k_ ∨ w.heap.size ≤ k_)) v0_ r1 ∧ IsS91 w0 w' g s0_0 r4 ∧ Below w0.heap.size w0 w' ∧ KeepBut w w' g none := by
 have HO1 := Aside0.mk (show Kd.V k65 65 w w.heap.size (fun k_ => (P1_ k_ ∨ w.heap.size ≤ k_) ∧ k_ ≠ g) (.slice A1 l1.length c1) l1 from Kd.V_mono hs1 (fun k_ hk => ⟨.inl hk.1, hk.2⟩))
 have HI0 := Aside0.mk hI
 have HK := Aside0.mk (KeepBut.refl w g none)
 have HL := Aside0.mk hB.size
 clear hI
 have HW0 := Aside0.mk hB.size
 have HB := Aside0.mk hB
 clear hB
 have H : ((spec_l20Path.f k s0_0 s0_1 0).bind fun bt1194 => (if bt1194.1.toList = ([47] : List UInt8) then (some (l1, a2, false, bt1194.2)) else ((spec_l20Rd_pick.f k s0_0 bt1194.2 5).bind fun bt1196 => (if bt1196.1 = 0 then ((spec_DropAt.f k l1 a2 bt1194.1).bind fun bt1198 => (some (bt1198.1, bt1198.2.1, bt1198.2.2, bt1196.2))) else ((spec_l20Content.f k s0_0 bt1196.2).bind fun bt1203 => ((spec_WriteAt.f k l1 a2 bt1194.1 bt1203.1).bind fun bt1205 => (some (bt1205.1, bt1205.2.1, bt1205.2.2, bt1203.2)))))))) = some (r1, r2, r3, r4) := h
 clear h
 replace H := Option.bind_eq_some_iff.mp H
 obtain ⟨⟨t1194, t1195⟩, A40, H⟩ := H
 replace H : (if t1194.toList = ([47] : List UInt8) then (some (l1, a2, false, t1195)) else ((spec_l20Rd_pick.f k s0_0 t1195 5).bind fun bt1196 => (if bt1196.1 = 0 then ((spec_DropAt.f k l1 a2 t1194).bind fun bt1198 => (some (bt1198.1, bt1198.2.1, bt1198.2.2, bt1196.2))) else ((spec_l20Content.f k s0_0 bt1196.2).bind fun bt1203 => ((spec_WriteAt.f k l1 a2 t1194 bt1203.1).bind fun bt1205 => (some (bt1205.1, bt1205.2.1, bt1205.2.2, bt1203.2))))))) = some (r1, r2, r3, r4) := H
 have A4 := Aside0.mk A40
 clear A40
 by_cases c5 : t1194.toList = ([47] : List UInt8)
 ·rw [if_pos c5] at H
  have c5b0 : (t1194.toList == ([47] : List UInt8)) = true := beq_iff_eq.mpr c5
  have c5b1 : (t1194.toList != ([47] : List UInt8)) = false := bne_eq_false_iff_eq.mpr c5
  clear c5
  simp only [Option.some.injEq, Prod.mk.injEq] at H
  obtain ⟨rfl, rfl, rfl, rfl⟩ := H
  go_enter Try.func90, Try.ntmps90
  go_wp2_with (first | ((with_reducible refine gate_callee (f := 97) rfl ?_); refine gl_ (some 11) Try.func97 #[.pointer (some ⟨g, 0, none⟩), .int .i64 0] ?_; (with_reducible refine (spec_l20Path.calls k g s0_0 s0_1 0 t1194 t1195 w0 _ ?side1 ?side2 A4.out).mono ?_); (case side1 => repeat (first | (with_reducible first | exact HI0.out | apply IsS91.alloc | apply IsS91.drewN | apply IsS91.drew | apply IsS91.set_1) | exact HI0.out)); (case side2 => exact hs_ (IsS91.ge HI0.out)); rintro e w6 ⟨rfl, hi, hb, hk⟩; refine ⟨_, rfl, ?_⟩; have n0_ := Aside0.mk (Kd.V_mono (Kd.V_keep (Kd.V_mono (ok := fun k_ => (((P1_ k_ ∨ w.heap.size ≤ k_)) ∧ k_ ≠ g)) (kV_ HO1.out) (fun k_ hk_ => (⟨hk_, hk_.2⟩ : _ ∧ k_ ≠ g))) hk (fun _ h => h.2)) (fun _ h => h.1)); have n1_ := Aside0.mk (KeepBut.trans hK0_ hk (.inl rfl)); have n2_ := Aside0.mk (hb); have n3_ := Aside0.mk (hi); clear HO1; clear HK; clear HB; clear HI0; have HO1 := n0_; have HK := n1_; have HB := n2_; have HI0 := n3_; clear n0_ n1_ n2_ n3_; (try clear hb); (try clear hk); (try clear hi)))
  go_ret3
  exact ⟨_, er_, by refine kV_ ?_; exact Kd.V_mono HO1.out (fun _ hk => hk.1), by repeat (first | (with_reducible first | exact HI0.out | apply IsS91.alloc | apply IsS91.drewN | apply IsS91.drew | apply IsS91.set_1) | exact HI0.out), hs_ (IsS91.ge HI0.out), by repeat (first | (with_reducible first | exact HK.out | apply KeepBut.set_ | apply keep_drewN | apply keep_drew | apply keep_alloc) | exact HK.out)⟩
 ·rw [if_neg c5] at H
  have c5b0 : (t1194.toList == ([47] : List UInt8)) = false := beq_eq_false_iff_ne.mpr c5
  have c5b1 : (t1194.toList != ([47] : List UInt8)) = true := bne_iff_ne.mpr c5
  replace H := Option.bind_eq_some_iff.mp H
  obtain ⟨⟨t1196, t1197⟩, A70, H⟩ := H
  replace H : (if t1196 = 0 then ((spec_DropAt.f k l1 a2 t1194).bind fun bt1198 => (some (bt1198.1, bt1198.2.1, bt1198.2.2, t1197))) else ((spec_l20Content.f k s0_0 t1197).bind fun bt1203 => ((spec_WriteAt.f k l1 a2 t1194 bt1203.1).bind fun bt1205 => (some (bt1205.1, bt1205.2.1, bt1205.2.2, bt1203.2))))) = some (r1, r2, r3, r4) := H
  have A7 := Aside0.mk A70
  clear A70
  by_cases c8 : t1196 = 0
  ·rw [if_pos c8] at H
   have c8b0 : (t1196 == 0) = true := beq_iff_eq.mpr c8
   have c8b1 : (t1196 != 0) = false := bne_eq_false_iff_eq.mpr c8
   clear c8
   replace H := Option.bind_eq_some_iff.mp H
   obtain ⟨⟨t1198, t1199, t1200⟩, A90, H⟩ := H
   replace H : (some (t1198, t1199, t1200, t1197)) = some (r1, r2, r3, r4) := H
   have A9 := Aside0.mk A90
   clear A90
   simp only [Option.some.injEq, Prod.mk.injEq] at H
   obtain ⟨rfl, rfl, rfl, rfl⟩ := H
   go_enter Try.func90, Try.ntmps90
   go_wp2_with (first | ((with_reducible refine gate_callee (f := 97) rfl ?_); refine gl_ (some 11) Try.func97 #[.pointer (some ⟨g, 0, none⟩), .int .i64 0] ?_; (with_reducible refine (spec_l20Path.calls k g s0_0 s0_1 0 t1194 t1195 w0 _ ?side1 ?side2 A4.out).mono ?_); (case side1 => repeat (first | (with_reducible first | exact HI0.out | apply IsS91.alloc | apply IsS91.drewN | apply IsS91.drew | apply IsS91.set_1) | exact HI0.out)); (case side2 => exact hs_ (IsS91.ge HI0.out)); rintro e w10 ⟨rfl, hi, hb, hk⟩; refine ⟨_, rfl, ?_⟩; have n0_ := Aside0.mk (Kd.V_mono (Kd.V_keep (Kd.V_mono (ok := fun k_ => (((P1_ k_ ∨ w.heap.size ≤ k_)) ∧ k_ ≠ g)) (kV_ HO1.out) (fun k_ hk_ => (⟨hk_, hk_.2⟩ : _ ∧ k_ ≠ g))) hk (fun _ h => h.2)) (fun _ h => h.1)); have n1_ := Aside0.mk (KeepBut.trans hK0_ hk (.inl rfl)); have n2_ := Aside0.mk (hb); have n3_ := Aside0.mk (hi); clear HO1; clear HK; clear HB; clear HI0; have HO1 := n0_; have HK := n1_; have HB := n2_; have HI0 := n3_; clear n0_ n1_ n2_ n3_; (try clear hb); (try clear hk); (try clear hi)) | ((with_reducible refine gate_callee (f := 70) rfl ?_); refine gl_ (some 17) Try.func70 #[.pointer (some ⟨g, 0, none⟩), .int .i64 5] ?_; (with_reducible refine (spec_l20Rd_pick.calls k g s0_0 t1195 5 t1196 t1197 w0 _ ?side1 ?side2 A7.out).mono ?_); (case side1 => repeat (first | (with_reducible first | exact HI0.out | apply IsS91.alloc | apply IsS91.drewN | apply IsS91.drew | apply IsS91.set_1) | exact HI0.out)); (case side2 => exact hs_ (IsS91.ge HI0.out)); rintro e w11 ⟨rfl, hi, hb, hk⟩; refine ⟨_, rfl, ?_⟩; have n0_ := Aside0.mk (Kd.V_mono (Kd.V_keep (Kd.V_mono (ok := fun k_ => (((P1_ k_ ∨ w.heap.size ≤ k_)) ∧ k_ ≠ g)) (kV_ HO1.out) (fun k_ hk_ => (⟨hk_, hk_.2⟩ : _ ∧ k_ ≠ g))) hk (fun _ h => h.2)) (fun _ h => h.1)); have n1_ := Aside0.mk (KeepBut.trans hK0_ hk (.inl rfl)); have n2_ := Aside0.mk (hb); have n3_ := Aside0.mk (hi); clear HO1; clear HK; clear HB; clear HI0; have HO1 := n0_; have HK := n1_; have HB := n2_; have HI0 := n3_; clear n0_ n1_ n2_ n3_; (try clear hb); (try clear hk); (try clear hi)) | ((with_reducible refine gate_callee (f := 98) rfl ?_); refine gl_ (some 22) Try.func98 #[.slice A1 l1.length c1, .int .i64 a2, .string t1194] ?_; (with_reducible refine (spec_DropAt.calls k _ _ l1 a2 t1194 t1198 t1199 t1200 _ ?side1 ?side2 A9.out).mono ?_); (case side1 => exact kC_ ((Kd.V_reads' HO1.out).2.2)); (case side2 => exact (Kd.V_reads' HO1.out).2.1); rintro e w12 ⟨v1201, rfl, ho0, hb⟩; refine ⟨_, rfl, ?_⟩; have n0_ := Aside0.mk (Kd.V_elder' (kV_ HO1.out) (Kd.R_base ho0) hb); have n1_ := Aside0.mk (Kd.R_lower (Kd.R_newM (M := fun k_ => (w.heap.size ≤ k_)) ho0 (keep_size (w := w) (g := g) (row := none) hK0_) (fun k_ h_ => h_)) (keep_size (w := w) (g := g) (row := none) hK0_)); have n2_ := Aside0.mk (IsS91.below (by repeat (first | (with_reducible first | exact HI0.out | apply IsS91.alloc | apply IsS91.drewN | apply IsS91.drew | apply IsS91.set_1) | exact HI0.out)) hb); have n3_ := Aside0.mk (KeepBut.trans hK0_ (KeepBut.of_below hb g none) (.inl rfl)); have n4_ := Aside0.mk (below_step (hs_ (IsS91.ge HI0.out)) hb); clear HO1; clear HI0; clear HK; clear HB; have HO1 := n0_; have HO1202 := n1_; have HI0 := n2_; have HK := n3_; have HB := n4_; clear n0_ n1_ n2_ n3_ n4_; (try clear hb); (try clear hk); (try clear hi); (try clear ho0)))
   go_ret3
   exact ⟨_, er_, Kd.V_mono (Kd.R_V (by refine kR_ ?_; exact Kd.R_mono HO1202.out (fun _ hk => hk.1))) (fun k_ hk => by first | exact ⟨(.inr (hk.1)), hk.2⟩ | exact (.inr (hk))), by repeat (first | (with_reducible first | exact HI0.out | apply IsS91.alloc | apply IsS91.drewN | apply IsS91.drew | apply IsS91.set_1) | exact HI0.out), hs_ (IsS91.ge HI0.out), by repeat (first | (with_reducible first | exact HK.out | apply KeepBut.set_ | apply keep_drewN | apply keep_drew | apply keep_alloc) | exact HK.out)⟩
  ·rw [if_neg c8] at H
   have c8b0 : (t1196 == 0) = false := beq_eq_false_iff_ne.mpr c8
   have c8b1 : (t1196 != 0) = true := bne_iff_ne.mpr c8
   replace H := Option.bind_eq_some_iff.mp H
   obtain ⟨⟨t1203, t1204⟩, A130, H⟩ := H
   replace H : ((spec_WriteAt.f k l1 a2 t1194 t1203).bind fun bt1205 => (some (bt1205.1, bt1205.2.1, bt1205.2.2, t1204))) = some (r1, r2, r3, r4) := H
   have A13 := Aside0.mk A130
   clear A130
   replace H := Option.bind_eq_some_iff.mp H
   obtain ⟨⟨t1205, t1206, t1207⟩, A140, H⟩ := H
   replace H : (some (t1205, t1206, t1207, t1204)) = some (r1, r2, r3, r4) := H
   have A14 := Aside0.mk A140
   clear A140
   simp only [Option.some.injEq, Prod.mk.injEq] at H
   obtain ⟨rfl, rfl, rfl, rfl⟩ := H
   go_enter Try.func90, Try.ntmps90
   go_wp2_with (first | ((with_reducible refine gate_callee (f := 97) rfl ?_); refine gl_ (some 11) Try.func97 #[.pointer (some ⟨g, 0, none⟩), .int .i64 0] ?_; (with_reducible refine (spec_l20Path.calls k g s0_0 s0_1 0 t1194 t1195 w0 _ ?side1 ?side2 A4.out).mono ?_); (case side1 => repeat (first | (with_reducible first | exact HI0.out | apply IsS91.alloc | apply IsS91.drewN | apply IsS91.drew | apply IsS91.set_1) | exact HI0.out)); (case side2 => exact hs_ (IsS91.ge HI0.out)); rintro e w15 ⟨rfl, hi, hb, hk⟩; refine ⟨_, rfl, ?_⟩; have n0_ := Aside0.mk (Kd.V_mono (Kd.V_keep (Kd.V_mono (ok := fun k_ => (((P1_ k_ ∨ w.heap.size ≤ k_)) ∧ k_ ≠ g)) (kV_ HO1.out) (fun k_ hk_ => (⟨hk_, hk_.2⟩ : _ ∧ k_ ≠ g))) hk (fun _ h => h.2)) (fun _ h => h.1)); have n1_ := Aside0.mk (KeepBut.trans hK0_ hk (.inl rfl)); have n2_ := Aside0.mk (hb); have n3_ := Aside0.mk (hi); clear HO1; clear HK; clear HB; clear HI0; have HO1 := n0_; have HK := n1_; have HB := n2_; have HI0 := n3_; clear n0_ n1_ n2_ n3_; (try clear hb); (try clear hk); (try clear hi)) | ((with_reducible refine gate_callee (f := 70) rfl ?_); refine gl_ (some 17) Try.func70 #[.pointer (some ⟨g, 0, none⟩), .int .i64 5] ?_; (with_reducible refine (spec_l20Rd_pick.calls k g s0_0 t1195 5 t1196 t1197 w0 _ ?side1 ?side2 A7.out).mono ?_); (case side1 => repeat (first | (with_reducible first | exact HI0.out | apply IsS91.alloc | apply IsS91.drewN | apply IsS91.drew | apply IsS91.set_1) | exact HI0.out)); (case side2 => exact hs_ (IsS91.ge HI0.out)); rintro e w16 ⟨rfl, hi, hb, hk⟩; refine ⟨_, rfl, ?_⟩; have n0_ := Aside0.mk (Kd.V_mono (Kd.V_keep (Kd.V_mono (ok := fun k_ => (((P1_ k_ ∨ w.heap.size ≤ k_)) ∧ k_ ≠ g)) (kV_ HO1.out) (fun k_ hk_ => (⟨hk_, hk_.2⟩ : _ ∧ k_ ≠ g))) hk (fun _ h => h.2)) (fun _ h => h.1)); have n1_ := Aside0.mk (KeepBut.trans hK0_ hk (.inl rfl)); have n2_ := Aside0.mk (hb); have n3_ := Aside0.mk (hi); clear HO1; clear HK; clear HB; clear HI0; have HO1 := n0_; have HK := n1_; have HB := n2_; have HI0 := n3_; clear n0_ n1_ n2_ n3_; (try clear hb); (try clear hk); (try clear hi)) | ((with_reducible refine gate_callee (f := 100) rfl ?_); refine gl_ (some 30) Try.func100 #[.pointer (some ⟨g, 0, none⟩)] ?_; (with_reducible refine (spec_l20Content.calls k g s0_0 t1197 t1203 t1204 w0 _ ?side1 ?side2 A13.out).mono ?_); (case side1 => repeat (first | (with_reducible first | exact HI0.out | apply IsS91.alloc | apply IsS91.drewN | apply IsS91.drew | apply IsS91.set_1) | exact HI0.out)); (case side2 => exact hs_ (IsS91.ge HI0.out)); rintro e w17 ⟨rfl, hi, hb, hk⟩; refine ⟨_, rfl, ?_⟩; have n0_ := Aside0.mk (Kd.V_mono (Kd.V_keep (Kd.V_mono (ok := fun k_ => (((P1_ k_ ∨ w.heap.size ≤ k_)) ∧ k_ ≠ g)) (kV_ HO1.out) (fun k_ hk_ => (⟨hk_, hk_.2⟩ : _ ∧ k_ ≠ g))) hk (fun _ h => h.2)) (fun _ h => h.1)); have n1_ := Aside0.mk (KeepBut.trans hK0_ hk (.inl rfl)); have n2_ := Aside0.mk (hb); have n3_ := Aside0.mk (hi); clear HO1; clear HK; clear HB; clear HI0; have HO1 := n0_; have HK := n1_; have HB := n2_; have HI0 := n3_; clear n0_ n1_ n2_ n3_; (try clear hb); (try clear hk); (try clear hi)) | ((with_reducible refine gate_callee (f := 99) rfl ?_); refine gl_ (some 31) Try.func99 #[.slice A1 l1.length c1, .int .i64 a2, .string t1194, .string t1203] ?_; (with_reducible refine (spec_WriteAt.calls k _ _ l1 a2 t1194 t1203 t1205 t1206 t1207 _ ?side1 ?side2 A14.out).mono ?_); (case side1 => exact kC_ ((Kd.V_reads' HO1.out).2.2)); (case side2 => exact (Kd.V_reads' HO1.out).2.1); rintro e w18 ⟨v1208, rfl, ho0, hb⟩; refine ⟨_, rfl, ?_⟩; have n0_ := Aside0.mk (Kd.V_elder' (kV_ HO1.out) (Kd.R_base ho0) hb); have n1_ := Aside0.mk (Kd.R_lower (Kd.R_newM (M := fun k_ => (w.heap.size ≤ k_)) ho0 (keep_size (w := w) (g := g) (row := none) hK0_) (fun k_ h_ => h_)) (keep_size (w := w) (g := g) (row := none) hK0_)); have n2_ := Aside0.mk (IsS91.below (by repeat (first | (with_reducible first | exact HI0.out | apply IsS91.alloc | apply IsS91.drewN | apply IsS91.drew | apply IsS91.set_1) | exact HI0.out)) hb); have n3_ := Aside0.mk (KeepBut.trans hK0_ (KeepBut.of_below hb g none) (.inl rfl)); have n4_ := Aside0.mk (below_step (hs_ (IsS91.ge HI0.out)) hb); clear HO1; clear HI0; clear HK; clear HB; have HO1 := n0_; have HO1209 := n1_; have HI0 := n2_; have HK := n3_; have HB := n4_; clear n0_ n1_ n2_ n3_ n4_; (try clear hb); (try clear hk); (try clear hi); (try clear ho0)))
   go_ret3
   exact ⟨_, er_, Kd.V_mono (Kd.R_V (by refine kR_ ?_; exact Kd.R_mono HO1209.out (fun _ hk => hk.1))) (fun k_ hk => by first | exact ⟨(.inr (hk.1)), hk.2⟩ | exact (.inr (hk))), by repeat (first | (with_reducible first | exact HI0.out | apply IsS91.alloc | apply IsS91.drewN | apply IsS91.drew | apply IsS91.set_1) | exact HI0.out), hs_ (IsS91.ge HI0.out), by repeat (first | (with_reducible first | exact HK.out | apply KeepBut.set_ | apply keep_drewN | apply keep_drew | apply keep_alloc) | exact HK.out)⟩
end Go.Proofs.Ytcbmkonigclceaa.P
