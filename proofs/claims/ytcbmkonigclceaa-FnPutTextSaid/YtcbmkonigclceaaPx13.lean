-- The functions of the seat as plain Lean functions, made by the kit's print.py for all laws at once. Not trusted: Lean checks it.
import Derived.Test.YtcbmkonigclceaaPx0
import Derived.Test.YtcbmkonigclceaaPx1
import Derived.Test.YtcbmkonigclceaaPx2
import Derived.Test.YtcbmkonigclceaaPx12
namespace Go.Proofs.Ytcbmkonigclceaa.P
open Go.RowKit Go.Proofs.YtcbmkonigclceaaW.PrintWords Go.Proofs.YtcbmkonigclceaaW.PrintLast Go.Proofs.YtcbmkonigclceaaW.PrintMore
attribute [local go_sem] max2_int min2_int max_two min_two max_three min_three max_four min_four   -- for this text's walks alone
set_option linter.unusedVariables false
set_option linter.unusedSimpArgs false
/-! ### laws_FnPutText: function 14 -/
mutual
def laws_FnPutText.j0 : Nat → List (S65) → ByteArray → List (S65) → Int → Bool → Bool → Option (Bool)
 | 0, _, _, _, _, _, _ => none
 | k + 1, x3, x4, x5, x6, x7, x54 => if x54 = true then (some false) else (if x7 = true then ((impl_GetText.f k x5 x6).bind fun bt1306 => ((impl_PutText.f k x5 x4).bind fun bt1308 => (laws_FnPutText.l0 k x3 x4 x5 x6 bt1306.1 bt1306.2 bt1308.1 bt1308.2.1 bt1308.2.2 0))) else (if x6 = (-1) then ((laws_samePieces.f k x5 x3).bind fun t1303 => (if t1303 = true then ((laws_alive.f k).bind fun t1304 => (some t1304)) else (if (x5.length : Int) = 0 then ((laws_alive.f k).bind fun t1305 => (some t1305)) else (some false)))) else (some false)))
def laws_FnPutText.l0 : Nat → List (S65) → ByteArray → List (S65) → Int → ByteArray → Bool → List (S65) → Int → Bool → Int → Option (Bool)
 | 0, _, _, _, _, _, _, _, _, _, _ => none
 | k + 1, x3, x4, x5, x6, x11, x12, x13, x14, x15, x16 => if x16 < (x3.length : Int) then (if 0 ≤ x16 then ((impl_GetText.f k x5 ((rd_T65 x3 x16).f0)).bind fun bt1314 => (if bt1314.2 = true then (if bt1314.1.toList = ((rd_T65 x3 x16).f1).toList then (laws_FnPutText.l0 k x3 x4 x5 x6 x11 x12 x13 x14 x15 (wrap64 (x16 + 1))) else (some false)) else (some false))) else (none)) else ((impl_StoreValid.f k x5).bind fun t1317 => (if t1317 = true then (if x12 = true then (if x11.toList = x4.toList then ((impl_PrintOf.f k x4).bind fun t1318 => (if x6 = t1318 then (if x15 = true then (if x14 = x6 then ((laws_samePieces.f k x13 x5).bind fun t1319 => (if t1319 = true then (some (decide ((x5.length : Int) ≤ (wrap64 ((x3.length : Int) + 1))))) else (some false))) else (some false)) else (some false)) else (some false))) else (some false)) else (some false)) else (some false)))
end
def laws_FnPutText.f (k : Nat) (l0 : List Int) : Option (Bool) := if (l0.length : Int) > 1048576 then (some true) else ((spec_DrawPutText.f k l0).bind fun bt1288 => ((impl_PutText.f k bt1288.1 bt1288.2).bind fun bt1292 => ((spec_PutText.f k bt1288.1 bt1288.2).bind fun bt1297 => ((laws_samePieces.f k bt1292.1 bt1297.1).bind fun t1302 => (if t1302 = true then (if bt1292.2.1 = bt1297.2.1 then (laws_FnPutText.j0 k bt1288.1 bt1288.2 bt1292.1 bt1292.2.1 bt1292.2.2 (bt1292.2.2 != bt1297.2.2)) else (laws_FnPutText.j0 k bt1288.1 bt1288.2 bt1292.1 bt1292.2.1 bt1292.2.2 true)) else (laws_FnPutText.j0 k bt1288.1 bt1288.2 bt1292.1 bt1292.2.1 bt1292.2.2 true))))))
set_option maxHeartbeats 8000000 in
set_option maxRecDepth 100000 in
theorem laws_FnPutText.calls (k : Nat) (A0 : Option Addr) (c0 : Nat) (l0 : List Int) (r : Bool) (w : World) (hr0 : Kd.C (Kd.int .u8) w A0 l0.length l0) (hc0 : l0.length ≤ c0) (h : laws_FnPutText.f k l0 = some r) (hrt : r = true) :
  Calls Try.prog 14 #[.slice A0 l0.length c0] w fun e w' => e = .returned (.bool r) ∧ Below w.heap.size w w' := by
 have HR0 := Aside0.mk hr0
 have HC0 := Aside0.mk hc0
 clear hr0 hc0
 have HB := Aside0.mk (Below.refl w.heap.size w)
 have H : (if (l0.length : Int) > 1048576 then (some true) else ((spec_DrawPutText.f k l0).bind fun bt1288 => ((impl_PutText.f k bt1288.1 bt1288.2).bind fun bt1292 => ((spec_PutText.f k bt1288.1 bt1288.2).bind fun bt1297 => ((laws_samePieces.f k bt1292.1 bt1297.1).bind fun t1302 => (if t1302 = true then (if bt1292.2.1 = bt1297.2.1 then (laws_FnPutText.j0 k bt1288.1 bt1288.2 bt1292.1 bt1292.2.1 bt1292.2.2 (bt1292.2.2 != bt1297.2.2)) else (laws_FnPutText.j0 k bt1288.1 bt1288.2 bt1292.1 bt1292.2.1 bt1292.2.2 true)) else (laws_FnPutText.j0 k bt1288.1 bt1288.2 bt1292.1 bt1292.2.1 bt1292.2.2 true))))))) = some r := h
 clear h
 by_cases c2 : (l0.length : Int) > 1048576
 ·rw [if_pos c2] at H
  have c2b0 : decide (1048576 < (l0.length : Int)) = true := decide_eq_true c2
  have c2b1 : decide (1048576 < l0.length) = true := decide_eq_true (by omega)
  clear c2
  obtain rfl := Option.some.inj H
  go_enter Try.func14, Try.ntmps14
  go_wp2
  go_ret
  exact ⟨er_, hb_⟩
 ·rw [if_neg c2] at H
  have c2b0 : decide (1048576 < (l0.length : Int)) = false := decide_eq_false c2
  have c2b1 : decide (1048576 < l0.length) = false := decide_eq_false (by omega)
  clear c2
  replace H := Option.bind_eq_some_iff.mp H
  obtain ⟨⟨t1288, t1291⟩, A30, H⟩ := H
  replace H : ((impl_PutText.f k t1288 t1291).bind fun bt1292 => ((spec_PutText.f k t1288 t1291).bind fun bt1297 => ((laws_samePieces.f k bt1292.1 bt1297.1).bind fun t1302 => (if t1302 = true then (if bt1292.2.1 = bt1297.2.1 then (laws_FnPutText.j0 k t1288 t1291 bt1292.1 bt1292.2.1 bt1292.2.2 (bt1292.2.2 != bt1297.2.2)) else (laws_FnPutText.j0 k t1288 t1291 bt1292.1 bt1292.2.1 bt1292.2.2 true)) else (laws_FnPutText.j0 k t1288 t1291 bt1292.1 bt1292.2.1 bt1292.2.2 true))))) = some r := H
  have A3 := Aside0.mk A30
  clear A30
  replace H := Option.bind_eq_some_iff.mp H
  obtain ⟨⟨t1292, t1293, t1294⟩, A40, H⟩ := H
  replace H : ((spec_PutText.f k t1288 t1291).bind fun bt1297 => ((laws_samePieces.f k t1292 bt1297.1).bind fun t1302 => (if t1302 = true then (if t1293 = bt1297.2.1 then (laws_FnPutText.j0 k t1288 t1291 t1292 t1293 t1294 (t1294 != bt1297.2.2)) else (laws_FnPutText.j0 k t1288 t1291 t1292 t1293 t1294 true)) else (laws_FnPutText.j0 k t1288 t1291 t1292 t1293 t1294 true)))) = some r := H
  have A4 := Aside0.mk A40
  clear A40
  replace H := Option.bind_eq_some_iff.mp H
  obtain ⟨⟨t1297, t1298, t1299⟩, A50, H⟩ := H
  replace H : ((laws_samePieces.f k t1292 t1297).bind fun t1302 => (if t1302 = true then (if t1293 = t1298 then (laws_FnPutText.j0 k t1288 t1291 t1292 t1293 t1294 (t1294 != t1299)) else (laws_FnPutText.j0 k t1288 t1291 t1292 t1293 t1294 true)) else (laws_FnPutText.j0 k t1288 t1291 t1292 t1293 t1294 true))) = some r := H
  have A5 := Aside0.mk A50
  clear A50
  have HC6 := Aside0.mk H
  clear H
  go_enter Try.func14, Try.ntmps14
  go_upto_region 6 with (first | ((with_reducible refine gate_callee (f := 55) rfl ?_); refine gl_ (some 24) Try.func55 #[.slice A0 l0.length c0] ?_; (with_reducible refine (spec_DrawPutText.calls k _ _ l0 t1288 t1291 _ ?side1 ?side2 A3.out).mono ?_); (case side1 => exact kC_ HR0.out); (case side2 => exact HC0.out); rintro e w7 ⟨v1289, rfl, ho0, hb⟩; refine ⟨_, rfl, ?_⟩; have HO1290 := Aside0.mk (Kd.V_lower (Kd.V_mono (ok' := fun k_ => True) ho0 (fun k_ hk_ => trivial)) (below_size hb_)); replace HB := Aside0.mk (below_step hb_ hb); (try clear hb); (try clear ho0); obtain ⟨Ao8, co8, eo8⟩ := Kd.V_slice HO1290.out; subst eo8) | ((with_reducible refine gate_callee (f := 56) rfl ?_); refine gl_ (some 30) Try.func56 #[.slice Ao8 t1288.length co8, .string t1291] ?_; (with_reducible refine (impl_PutText.calls k _ _ t1288 t1291 t1292 t1293 t1294 _ ?side1 ?side2 A4.out).mono ?_); (case side1 => exact kC_ ((Kd.V_reads' HO1290.out).2.2)); (case side2 => exact (Kd.V_reads' HO1290.out).2.1); rintro e w9 ⟨v1295, rfl, ho0, hb⟩; refine ⟨_, rfl, ?_⟩; have n0_ := Aside0.mk (Kd.V_elder' (kV_ HO1290.out) (Kd.R_base ho0) hb); have n1_ := Aside0.mk (Kd.R_lower ho0 (below_size hb_)); have n2_ := Aside0.mk (below_step hb_ hb); clear HO1290; clear HB; have HO1290 := n0_; have HO1296 := n1_; have HB := n2_; clear n0_ n1_ n2_; (try clear hb); (try clear ho0)) | ((with_reducible refine gate_callee (f := 57) rfl ?_); refine gl_ (some 37) Try.func57 #[.slice Ao8 t1288.length co8, .string t1291] ?_; (with_reducible refine (spec_PutText.calls k _ _ t1288 t1291 t1297 t1298 t1299 _ ?side1 ?side2 A5.out).mono ?_); (case side1 => exact kC_ ((Kd.V_reads' HO1290.out).2.2)); (case side2 => exact (Kd.V_reads' HO1290.out).2.1); rintro e w10 ⟨v1300, rfl, ho0, hb⟩; refine ⟨_, rfl, ?_⟩; have n0_ := Aside0.mk (Kd.V_elder' (kV_ HO1290.out) (Kd.R_base ho0) hb); have n1_ := Aside0.mk (Kd.R_elder' (kR_ HO1296.out) (Kd.R_base ho0) hb); have n2_ := Aside0.mk (Kd.R_lower (Kd.R_new' ho0 (Kd.R_lt (kR_ HO1296.out))) (below_size hb_)); have n3_ := Aside0.mk (below_step hb_ hb); clear HO1290; clear HO1296; clear HB; have HO1290 := n0_; have HO1296 := n1_; have HO1301 := n2_; have HB := n3_; clear n0_ n1_ n2_ n3_; (try clear hb); (try clear ho0)))
  (try simp only [Act.put, List.setIfInBounds_toArray, List.set_cons_zero, List.set_cons_succ])
  go_cut [54] (fun v54 wc => ∃ (kq : Nat) (x54_5 : Bool), v54 = .bool x54_5 ∧ Aside0 (laws_FnPutText.j0 kq t1288 t1291 t1292 t1293 t1294 x54_5 = some r) ∧ Aside0 (kq ≤ k) ∧ Aside0 (Kd.V k65 65 wc w.heap.size (fun k_ => some k_ ≠ (v1295 : Value).ownBlock) (.slice Ao8 t1288.length co8) t1288) ∧ Aside0 (Kd.R k65 65 wc w.heap.size (fun _ => True) v1295 t1292) ∧ Aside0 (Below w.heap.size w wc))
  case first =>
   have H := HC6.out
   clear HC6
   replace H := Option.bind_eq_some_iff.mp H
   obtain ⟨t1302, A110, H⟩ := H
   replace H : (if t1302 = true then (if t1293 = t1298 then (laws_FnPutText.j0 k t1288 t1291 t1292 t1293 t1294 (t1294 != t1299)) else (laws_FnPutText.j0 k t1288 t1291 t1292 t1293 t1294 true)) else (laws_FnPutText.j0 k t1288 t1291 t1292 t1293 t1294 true)) = some r := H
   have A11 := Aside0.mk A110
   clear A110
   by_cases c12 : t1302 = true
   ·subst c12
    have H1 : (if t1293 = t1298 then (laws_FnPutText.j0 k t1288 t1291 t1292 t1293 t1294 (t1294 != t1299)) else (laws_FnPutText.j0 k t1288 t1291 t1292 t1293 t1294 true)) = some r := by rw [if_pos rfl] at H; exact H
    clear H
    have H := H1
    clear H1
    by_cases c13 : t1293 = t1298
    ·rw [if_pos c13] at H
     have c13b0 : (t1293 == t1298) = true := beq_iff_eq.mpr c13
     have c13b1 : (t1293 != t1298) = false := bne_eq_false_iff_eq.mpr c13
     clear c13
     (first | rw [c13b0] | (simp only [i64_w, i32_w]; rw [c13b0]) | skip)
     have H' := Aside0.mk H
     clear H
     obtain ⟨Ao14, co14, eo14⟩ := Kd.R_slice HO1296.out
     subst eo14
     obtain ⟨Ao15, co15, eo15⟩ := Kd.R_slice HO1301.out
     subst eo15
     go_wp2_with (first | ((with_reducible refine gate_callee (f := 50) rfl ?_); refine gl_ (some 43) Try.func50 #[.slice Ao14 t1292.length co14, .slice Ao15 t1297.length co15] ?_; (with_reducible refine (laws_samePieces.calls k _ _ t1292 _ _ t1297 true _ ?side1 ?side2 ?side3 ?side4 A11.out).mono ?_); (case side1 => exact kC_ ((Kd.R_reads' HO1296.out).2.2)); (case side2 => exact (Kd.R_reads' HO1296.out).2.1); (case side3 => exact kC_ ((Kd.R_reads' HO1301.out).2.2)); (case side4 => exact (Kd.R_reads' HO1301.out).2.1); rintro e w' ⟨rfl, ⟨nd, rfl⟩⟩; refine ⟨_, rfl, ?_⟩))
     go_meet
     case rel => exact ⟨_, ((t1294 != t1299)), rs_, H', ⟨by first | omega | exact Nat.le_refl _⟩, ⟨by refine kV_ ?_; exact Kd.V_mono HO1290.out (fun _ hk => hk.1.2)⟩, ⟨by refine kR_ ?_; exact Kd.R_mono HO1296.out (fun _ hk => trivial)⟩, ⟨hb_⟩⟩
    ·rw [if_neg c13] at H
     have c13b0 : (t1293 == t1298) = false := beq_eq_false_iff_ne.mpr c13
     have c13b1 : (t1293 != t1298) = true := bne_iff_ne.mpr c13
     (first | rw [c13b0] | (simp only [i64_w, i32_w]; rw [c13b0]) | skip)
     have H' := Aside0.mk H
     clear H
     obtain ⟨Ao16, co16, eo16⟩ := Kd.R_slice HO1296.out
     subst eo16
     obtain ⟨Ao17, co17, eo17⟩ := Kd.R_slice HO1301.out
     subst eo17
     go_wp2_with (first | ((with_reducible refine gate_callee (f := 50) rfl ?_); refine gl_ (some 43) Try.func50 #[.slice Ao16 t1292.length co16, .slice Ao17 t1297.length co17] ?_; (with_reducible refine (laws_samePieces.calls k _ _ t1292 _ _ t1297 true _ ?side1 ?side2 ?side3 ?side4 A11.out).mono ?_); (case side1 => exact kC_ ((Kd.R_reads' HO1296.out).2.2)); (case side2 => exact (Kd.R_reads' HO1296.out).2.1); (case side3 => exact kC_ ((Kd.R_reads' HO1301.out).2.2)); (case side4 => exact (Kd.R_reads' HO1301.out).2.1); rintro e w' ⟨rfl, ⟨nd, rfl⟩⟩; refine ⟨_, rfl, ?_⟩))
     go_meet
     case rel => exact ⟨_, (true), rs_, H', ⟨by first | omega | exact Nat.le_refl _⟩, ⟨by refine kV_ ?_; exact Kd.V_mono HO1290.out (fun _ hk => hk.1.2)⟩, ⟨by refine kR_ ?_; exact Kd.R_mono HO1296.out (fun _ hk => trivial)⟩, ⟨hb_⟩⟩
   ·replace c12 := Bool.eq_false_iff.mpr c12
    subst c12
    have H1 : (laws_FnPutText.j0 k t1288 t1291 t1292 t1293 t1294 true) = some r := by rw [if_neg (show ¬ (false = true) by decide)] at H; exact H
    clear H
    have H := H1
    clear H1
    have H' := Aside0.mk H
    clear H
    obtain ⟨Ao18, co18, eo18⟩ := Kd.R_slice HO1296.out
    subst eo18
    obtain ⟨Ao19, co19, eo19⟩ := Kd.R_slice HO1301.out
    subst eo19
    go_wp2_with (first | ((with_reducible refine gate_callee (f := 50) rfl ?_); refine gl_ (some 43) Try.func50 #[.slice Ao18 t1292.length co18, .slice Ao19 t1297.length co19] ?_; (with_reducible refine (laws_samePieces.calls k _ _ t1292 _ _ t1297 false _ ?side1 ?side2 ?side3 ?side4 A11.out).mono ?_); (case side1 => exact kC_ ((Kd.R_reads' HO1296.out).2.2)); (case side2 => exact (Kd.R_reads' HO1296.out).2.1); (case side3 => exact kC_ ((Kd.R_reads' HO1301.out).2.2)); (case side4 => exact (Kd.R_reads' HO1301.out).2.1); rintro e w' ⟨rfl, ⟨nd, rfl⟩⟩; refine ⟨_, rfl, ?_⟩))
    go_meet
    case rel => exact ⟨_, (true), rs_, H', ⟨by first | omega | exact Nat.le_refl _⟩, ⟨by refine kV_ ?_; exact Kd.V_mono HO1290.out (fun _ hk => hk.1.2)⟩, ⟨by refine kR_ ?_; exact Kd.R_mono HO1296.out (fun _ hk => trivial)⟩, ⟨hb_⟩⟩
  case rest =>
   clear HC6
   try clear c1
   try clear c2
   try clear c2b0
   try clear c2b1
   try clear p2
   try clear c5
   try clear c12
   try clear c13
   try clear c13b0
   try clear c13b1
   try clear c14
   obtain ⟨kq, x54_5, rfl, HA, HJ5, HO_3, HO_5, HB⟩ := hcut
   cases kq with
   | zero => exact absurd HA.out (by simp [laws_FnPutText.j0])
   | succ kj5 =>
    have H := HA.out
    clear HA
    simp only [laws_FnPutText.j0] at H
    by_cases c20 : x54_5 = true
    ·subst c20
     have H1 : (some false) = some r := by rw [if_pos rfl] at H; exact H
     clear H
     have H := H1
     clear H1
     exact absurd H (by subst hrt; decide)
    ·replace c20 := Bool.eq_false_iff.mpr c20
     subst c20
     have H1 : (if t1294 = true then ((impl_GetText.f kj5 t1292 t1293).bind fun bt1306 => ((impl_PutText.f kj5 t1292 t1291).bind fun bt1308 => (laws_FnPutText.l0 kj5 t1288 t1291 t1292 t1293 bt1306.1 bt1306.2 bt1308.1 bt1308.2.1 bt1308.2.2 0))) else (if t1293 = (-1) then ((laws_samePieces.f kj5 t1292 t1288).bind fun t1303 => (if t1303 = true then ((laws_alive.f kj5).bind fun t1304 => (some t1304)) else (if (t1292.length : Int) = 0 then ((laws_alive.f kj5).bind fun t1305 => (some t1305)) else (some false)))) else (some false))) = some r := by rw [if_neg (show ¬ (false = true) by decide)] at H; exact H
     clear H
     have H := H1
     clear H1
     by_cases c21 : t1294 = true
     ·subst c21
      have H1 : ((impl_GetText.f kj5 t1292 t1293).bind fun bt1306 => ((impl_PutText.f kj5 t1292 t1291).bind fun bt1308 => (laws_FnPutText.l0 kj5 t1288 t1291 t1292 t1293 bt1306.1 bt1306.2 bt1308.1 bt1308.2.1 bt1308.2.2 0))) = some r := by rw [if_pos rfl] at H; exact H
      clear H
      have H := H1
      clear H1
      replace H := Option.bind_eq_some_iff.mp H
      obtain ⟨⟨t1306, t1307⟩, A220, H⟩ := H
      replace H : ((impl_PutText.f kj5 t1292 t1291).bind fun bt1308 => (laws_FnPutText.l0 kj5 t1288 t1291 t1292 t1293 t1306 t1307 bt1308.1 bt1308.2.1 bt1308.2.2 0)) = some r := H
      have A22 := Aside0.mk A220
      clear A220
      replace H := Option.bind_eq_some_iff.mp H
      obtain ⟨⟨t1308, t1309, t1310⟩, A230, H⟩ := H
      replace H : (laws_FnPutText.l0 kj5 t1288 t1291 t1292 t1293 t1306 t1307 t1308 t1309 t1310 0) = some r := H
      have A23 := Aside0.mk A230
      clear A230
      have H' := Aside0.mk H
      clear H
      obtain ⟨Ao24, co24, eo24⟩ := Kd.R_slice HO_5.out
      subst eo24
      go_wp2_with (first | ((with_reducible refine gate_callee (f := 51) rfl ?_); refine gl_ (some 75) Try.func51 #[.slice Ao24 t1292.length co24, .int .i64 t1293] ?_; (with_reducible refine (impl_GetText.calls kj5 _ _ t1292 t1293 t1306 t1307 _ ?side1 ?side2 A22.out).mono ?_); (case side1 => exact kC_ ((Kd.R_reads' HO_5.out).2.2)); (case side2 => exact (Kd.R_reads' HO_5.out).2.1); rintro e w25 ⟨rfl, hb⟩; refine ⟨_, rfl, ?_⟩; have n0_ := Aside0.mk (Kd.V_below (kV_ HO_3.out) hb); have n1_ := Aside0.mk (Kd.R_below (kR_ HO_5.out) hb); have n2_ := Aside0.mk (below_step hb_ hb); clear HO_3; clear HO_5; clear HB; have HO_3 := n0_; have HO_5 := n1_; have HB := n2_; clear n0_ n1_ n2_; (try clear hb)) | ((with_reducible refine gate_callee (f := 56) rfl ?_); refine gl_ (some 81) Try.func56 #[.slice Ao24 t1292.length co24, .string t1291] ?_; (with_reducible refine (impl_PutText.calls kj5 _ _ t1292 t1291 t1308 t1309 t1310 _ ?side1 ?side2 A23.out).mono ?_); (case side1 => exact kC_ ((Kd.R_reads' HO_5.out).2.2)); (case side2 => exact (Kd.R_reads' HO_5.out).2.1); rintro e w26 ⟨v1311, rfl, ho0, hb⟩; refine ⟨_, rfl, ?_⟩; have n0_ := Aside0.mk (Kd.V_elder' (kV_ HO_3.out) (Kd.R_base ho0) hb); have n1_ := Aside0.mk (Kd.R_elder' (kR_ HO_5.out) (Kd.R_base ho0) hb); have n2_ := Aside0.mk (Kd.R_lower (Kd.R_new' ho0 (Kd.R_lt (kR_ HO_5.out))) (below_size hb_)); have n3_ := Aside0.mk (below_step hb_ hb); clear HO_3; clear HO_5; clear HB; have HO_3 := n0_; have HO_5 := n1_; have HO1312 := n2_; have HB := n3_; clear n0_ n1_ n2_ n3_; (try clear hb); (try clear ho0)))
      go_loopg [16] kj5 (fun kq v16 w' => ∃ (x16_2 : Int), v16 = .int .i64 x16_2 ∧ Aside0 (laws_FnPutText.l0 kq t1288 t1291 t1292 t1293 t1306 t1307 t1308 t1309 t1310 x16_2 = some r) ∧ Aside0 (kq ≤ kj5) ∧ Aside0 (Kd.V k65 65 w' w.heap.size (fun k_ => some k_ ≠ ((.slice Ao24 t1292.length co24) : Value).ownBlock ∧ some k_ ≠ (v1311 : Value).ownBlock) (.slice Ao8 t1288.length co8) t1288) ∧ Aside0 (Kd.R k65 65 w' w.heap.size (fun k_ => some k_ ≠ (v1311 : Value).ownBlock) (.slice Ao24 t1292.length co24) t1292) ∧ Aside0 (Kd.R k65 65 w' w.heap.size (fun k_ => some k_ ≠ ((.slice Ao24 t1292.length co24) : Value).ownBlock) v1311 t1308) ∧ Aside0 (Below w.heap.size w w'))
      case atStart => exact ⟨(0), rs_, H', ⟨Nat.le_refl _⟩, ⟨by refine kV_ ?_; exact HO_3.out⟩, ⟨by refine kR_ ?_; exact Kd.R_mono HO_5.out (fun _ hk => hk.2)⟩, ⟨by refine kR_ ?_; exact Kd.R_mono HO1312.out (fun _ hk => hk.2)⟩, ⟨hb_⟩⟩
      case round =>
       clear H'
       try clear c1
       try clear c2
       try clear c2b0
       try clear c2b1
       try clear p2
       try clear c5
       try clear c12
       try clear c13
       try clear c13b0
       try clear c13b1
       try clear c14
       try clear c20
       try clear c21
       try clear p2
       obtain ⟨x16_2, rfl, HA, HK2, HO_3, HO_5, HO_13, HB⟩ := hrel
       cases gk with
       | zero => exact absurd HA.out (by simp [laws_FnPutText.l0])
       | succ k2 =>
        have H := HA.out
        clear HA
        simp only [laws_FnPutText.l0] at H
        by_cases c27 : x16_2 < (t1288.length : Int)
        ·rw [if_pos c27] at H
         have c27b0 : decide (x16_2 < (t1288.length : Int)) = true := decide_eq_true c27
         clear c27
         by_cases c28 : 0 ≤ x16_2; rotate_left
         ·rw [if_neg c28] at H; exact absurd H (by simp)
         rw [if_pos c28] at H
         have c28b0 : decide (0 ≤ x16_2) = true := decide_eq_true c28
         clear c28
         replace H := Option.bind_eq_some_iff.mp H
         obtain ⟨⟨t1314, t1315⟩, A290, H⟩ := H
         replace H : (if t1315 = true then (if t1314.toList = ((rd_T65 t1288 x16_2).f1).toList then (laws_FnPutText.l0 k2 t1288 t1291 t1292 t1293 t1306 t1307 t1308 t1309 t1310 (wrap64 (x16_2 + 1))) else (some false)) else (some false)) = some r := H
         have A29 := Aside0.mk A290
         clear A290
         by_cases c30 : t1315 = true
         ·subst c30
          have H1 : (if t1314.toList = ((rd_T65 t1288 x16_2).f1).toList then (laws_FnPutText.l0 k2 t1288 t1291 t1292 t1293 t1306 t1307 t1308 t1309 t1310 (wrap64 (x16_2 + 1))) else (some false)) = some r := by rw [if_pos rfl] at H; exact H
          clear H
          have H := H1
          clear H1
          by_cases c31 : t1314.toList = ((rd_T65 t1288 x16_2).f1).toList
          ·rw [if_pos c31] at H
           have c31b0 : (t1314.toList == ((rd_T65 t1288 x16_2).f1).toList) = true := beq_iff_eq.mpr c31
           have c31b1 : (t1314.toList != ((rd_T65 t1288 x16_2).f1).toList) = false := bne_eq_false_iff_eq.mpr c31
           clear c31
           have H' := Aside0.mk H
           clear H
           have p1313 : 0 ≤ (x16_2 : Int) := dt_
           have q1313 : x16_2 < (t1288.length : Int) := dt_
           obtain ⟨ad1313, e1313, hx1313_0, hx1313_1⟩ := at_T65 (Kd.V_reads' HO_3.out).2.2 x16_2 p1313 q1313
           cases e1313
           replace p1313 := eq_true p1313
           replace q1313 := eq_true q1313
           go_wp2_with (first | ((with_reducible refine gate_callee (f := 51) rfl ?_); refine gl_ (some 98) Try.func51 #[.slice Ao24 t1292.length co24, .int .i64 ((rd_T65 t1288 x16_2).f0)] ?_; (with_reducible refine (impl_GetText.calls k2 _ _ t1292 ((rd_T65 t1288 x16_2).f0) t1314 true _ ?side1 ?side2 A29.out).mono ?_); (case side1 => exact kC_ ((Kd.R_reads' HO_5.out).2.2)); (case side2 => exact (Kd.R_reads' HO_5.out).2.1); rintro e w32 ⟨rfl, hb⟩; refine ⟨_, rfl, ?_⟩; have n0_ := Aside0.mk (Kd.V_below (kV_ HO_3.out) hb); have n1_ := Aside0.mk (Kd.R_below (kR_ HO_5.out) hb); have n2_ := Aside0.mk (Kd.R_below (kR_ HO_13.out) hb); have n3_ := Aside0.mk (below_step hb_ hb); clear HO_3; clear HO_5; clear HO_13; clear HB; have HO_3 := n0_; have HO_5 := n1_; have HO_13 := n2_; have HB := n3_; clear n0_ n1_ n2_ n3_; (try clear hb); have p1316 : 0 ≤ (x16_2 : Int) := dt_; have q1316 : x16_2 < (t1288.length : Int) := dt_; obtain ⟨ad1316, e1316, hx1316_0, hx1316_1⟩ := at_T65 (Kd.V_reads' HO_3.out).2.2 x16_2 p1316 q1316; obtain rfl : ad1313 = ad1316 := (by injection e1316); replace p1316 := eq_true p1316; replace q1316 := eq_true q1316))
           go_roundg k2
           case measure => have := HJ5.out; have := HK2.out; omega
           case rel => exact ⟨(wrap64 (x16_2 + 1)), rs_, H', ⟨by have := HJ5.out; have := HK2.out; omega⟩, ⟨by refine kV_ ?_; exact HO_3.out⟩, ⟨by refine kR_ ?_; exact HO_5.out⟩, ⟨by refine kR_ ?_; exact HO_13.out⟩, ⟨hb_⟩⟩
          ·rw [if_neg c31] at H
           have c31b0 : (t1314.toList == ((rd_T65 t1288 x16_2).f1).toList) = false := beq_eq_false_iff_ne.mpr c31
           have c31b1 : (t1314.toList != ((rd_T65 t1288 x16_2).f1).toList) = true := bne_iff_ne.mpr c31
           exact absurd H (by subst hrt; decide)
         ·replace c30 := Bool.eq_false_iff.mpr c30
          subst c30
          have H1 : (some false) = some r := by rw [if_neg (show ¬ (false = true) by decide)] at H; exact H
          clear H
          have H := H1
          clear H1
          exact absurd H (by subst hrt; decide)
        ·rw [if_neg c27] at H
         have c27b0 : decide (x16_2 < (t1288.length : Int)) = false := decide_eq_false c27
         clear c27
         replace H := Option.bind_eq_some_iff.mp H
         obtain ⟨t1317, A350, H⟩ := H
         replace H : (if t1317 = true then (if t1307 = true then (if t1306.toList = t1291.toList then ((impl_PrintOf.f k2 t1291).bind fun t1318 => (if t1293 = t1318 then (if t1310 = true then (if t1309 = t1293 then ((laws_samePieces.f k2 t1308 t1292).bind fun t1319 => (if t1319 = true then (some (decide ((t1292.length : Int) ≤ (wrap64 ((t1288.length : Int) + 1))))) else (some false))) else (some false)) else (some false)) else (some false))) else (some false)) else (some false)) else (some false)) = some r := H
         have A35 := Aside0.mk A350
         clear A350
         by_cases c36 : t1317 = true
         ·subst c36
          have H1 : (if t1307 = true then (if t1306.toList = t1291.toList then ((impl_PrintOf.f k2 t1291).bind fun t1318 => (if t1293 = t1318 then (if t1310 = true then (if t1309 = t1293 then ((laws_samePieces.f k2 t1308 t1292).bind fun t1319 => (if t1319 = true then (some (decide ((t1292.length : Int) ≤ (wrap64 ((t1288.length : Int) + 1))))) else (some false))) else (some false)) else (some false)) else (some false))) else (some false)) else (some false)) = some r := by rw [if_pos rfl] at H; exact H
          clear H
          have H := H1
          clear H1
          by_cases c37 : t1307 = true
          ·subst c37
           have H1 : (if t1306.toList = t1291.toList then ((impl_PrintOf.f k2 t1291).bind fun t1318 => (if t1293 = t1318 then (if t1310 = true then (if t1309 = t1293 then ((laws_samePieces.f k2 t1308 t1292).bind fun t1319 => (if t1319 = true then (some (decide ((t1292.length : Int) ≤ (wrap64 ((t1288.length : Int) + 1))))) else (some false))) else (some false)) else (some false)) else (some false))) else (some false)) = some r := by rw [if_pos rfl] at H; exact H
           clear H
           have H := H1
           clear H1
           by_cases c38 : t1306.toList = t1291.toList
           ·rw [if_pos c38] at H
            have c38b0 : (t1306.toList == t1291.toList) = true := beq_iff_eq.mpr c38
            have c38b1 : (t1306.toList != t1291.toList) = false := bne_eq_false_iff_eq.mpr c38
            clear c38
            replace H := Option.bind_eq_some_iff.mp H
            obtain ⟨t1318, A390, H⟩ := H
            replace H : (if t1293 = t1318 then (if t1310 = true then (if t1309 = t1293 then ((laws_samePieces.f k2 t1308 t1292).bind fun t1319 => (if t1319 = true then (some (decide ((t1292.length : Int) ≤ (wrap64 ((t1288.length : Int) + 1))))) else (some false))) else (some false)) else (some false)) else (some false)) = some r := H
            have A39 := Aside0.mk A390
            clear A390
            by_cases c40 : t1293 = t1318
            ·rw [if_pos c40] at H
             have c40b0 : (t1293 == t1318) = true := beq_iff_eq.mpr c40
             have c40b1 : (t1293 != t1318) = false := bne_eq_false_iff_eq.mpr c40
             clear c40
             by_cases c41 : t1310 = true
             ·subst c41
              have H1 : (if t1309 = t1293 then ((laws_samePieces.f k2 t1308 t1292).bind fun t1319 => (if t1319 = true then (some (decide ((t1292.length : Int) ≤ (wrap64 ((t1288.length : Int) + 1))))) else (some false))) else (some false)) = some r := by rw [if_pos rfl] at H; exact H
              clear H
              have H := H1
              clear H1
              by_cases c42 : t1309 = t1293
              ·rw [if_pos c42] at H
               have c42b0 : (t1309 == t1293) = true := beq_iff_eq.mpr c42
               have c42b1 : (t1309 != t1293) = false := bne_eq_false_iff_eq.mpr c42
               clear c42
               replace H := Option.bind_eq_some_iff.mp H
               obtain ⟨t1319, A430, H⟩ := H
               replace H : (if t1319 = true then (some (decide ((t1292.length : Int) ≤ (wrap64 ((t1288.length : Int) + 1))))) else (some false)) = some r := H
               have A43 := Aside0.mk A430
               clear A430
               by_cases c44 : t1319 = true
               ·subst c44
                have H1 : (some (decide ((t1292.length : Int) ≤ (wrap64 ((t1288.length : Int) + 1))))) = some r := by rw [if_pos rfl] at H; exact H
                clear H
                have H := H1
                clear H1
                obtain rfl := Option.some.inj H
                go_wp2_with (first | ((with_reducible refine gate_callee (f := 53) rfl ?_); refine gl_ (some 113) Try.func53 #[.slice Ao24 t1292.length co24] ?_; (with_reducible refine (impl_StoreValid.calls k2 _ _ t1292 true _ ?side1 ?side2 A35.out).mono ?_); (case side1 => exact kC_ ((Kd.R_reads' HO_5.out).2.2)); (case side2 => exact (Kd.R_reads' HO_5.out).2.1); rintro e w45 ⟨rfl, hb⟩; refine ⟨_, rfl, ?_⟩; have n0_ := Aside0.mk (Kd.V_below (kV_ HO_3.out) hb); have n1_ := Aside0.mk (Kd.R_below (kR_ HO_5.out) hb); have n2_ := Aside0.mk (Kd.R_below (kR_ HO_13.out) hb); have n3_ := Aside0.mk (below_step hb_ hb); clear HO_3; clear HO_5; clear HO_13; clear HB; have HO_3 := n0_; have HO_5 := n1_; have HO_13 := n2_; have HB := n3_; clear n0_ n1_ n2_ n3_; (try clear hb)) | (go_at_call 52; (with_reducible refine (impl_PrintOf.calls k2 t1291 t1318 _ A39.out).mono ?_); rintro e w' ⟨rfl, ⟨nd, rfl⟩⟩; obtain ⟨Ao46, co46, eo46⟩ := Kd.R_slice HO_13.out; subst eo46) | (go_at_call 50; (with_reducible refine (laws_samePieces.calls k2 _ _ t1308 _ _ t1292 true _ ?side1 ?side2 ?side3 ?side4 A43.out).mono ?_); (case side1 => exact kC_ ((Kd.R_reads' HO_13.out).2.2)); (case side2 => exact (Kd.R_reads' HO_13.out).2.1); (case side3 => exact kC_ ((Kd.R_reads' HO_5.out).2.2)); (case side4 => exact (Kd.R_reads' HO_5.out).2.1); rintro e w' ⟨rfl, ⟨nd, rfl⟩⟩))
                go_ret
                exact ⟨er_, hb_⟩
               ·replace c44 := Bool.eq_false_iff.mpr c44
                subst c44
                have H1 : (some false) = some r := by rw [if_neg (show ¬ (false = true) by decide)] at H; exact H
                clear H
                have H := H1
                clear H1
                exact absurd H (by subst hrt; decide)
              ·rw [if_neg c42] at H
               have c42b0 : (t1309 == t1293) = false := beq_eq_false_iff_ne.mpr c42
               have c42b1 : (t1309 != t1293) = true := bne_iff_ne.mpr c42
               exact absurd H (by subst hrt; decide)
             ·replace c41 := Bool.eq_false_iff.mpr c41
              subst c41
              have H1 : (some false) = some r := by rw [if_neg (show ¬ (false = true) by decide)] at H; exact H
              clear H
              have H := H1
              clear H1
              exact absurd H (by subst hrt; decide)
            ·rw [if_neg c40] at H
             have c40b0 : (t1293 == t1318) = false := beq_eq_false_iff_ne.mpr c40
             have c40b1 : (t1293 != t1318) = true := bne_iff_ne.mpr c40
             exact absurd H (by subst hrt; decide)
           ·rw [if_neg c38] at H
            have c38b0 : (t1306.toList == t1291.toList) = false := beq_eq_false_iff_ne.mpr c38
            have c38b1 : (t1306.toList != t1291.toList) = true := bne_iff_ne.mpr c38
            exact absurd H (by subst hrt; decide)
          ·replace c37 := Bool.eq_false_iff.mpr c37
           subst c37
           have H1 : (some false) = some r := by rw [if_neg (show ¬ (false = true) by decide)] at H; exact H
           clear H
           have H := H1
           clear H1
           exact absurd H (by subst hrt; decide)
         ·replace c36 := Bool.eq_false_iff.mpr c36
          subst c36
          have H1 : (some false) = some r := by rw [if_neg (show ¬ (false = true) by decide)] at H; exact H
          clear H
          have H := H1
          clear H1
          exact absurd H (by subst hrt; decide)
     ·replace c21 := Bool.eq_false_iff.mpr c21
      subst c21
      have H1 : (if t1293 = (-1) then ((laws_samePieces.f kj5 t1292 t1288).bind fun t1303 => (if t1303 = true then ((laws_alive.f kj5).bind fun t1304 => (some t1304)) else (if (t1292.length : Int) = 0 then ((laws_alive.f kj5).bind fun t1305 => (some t1305)) else (some false)))) else (some false)) = some r := by rw [if_neg (show ¬ (false = true) by decide)] at H; exact H
      clear H
      have H := H1
      clear H1
      by_cases c55 : t1293 = (-1)
      ·rw [if_pos c55] at H
       have c55b0 : (t1293 == (-1)) = true := beq_iff_eq.mpr c55
       have c55b1 : (t1293 != (-1)) = false := bne_eq_false_iff_eq.mpr c55
       clear c55
       replace H := Option.bind_eq_some_iff.mp H
       obtain ⟨t1303, A560, H⟩ := H
       replace H : (if t1303 = true then ((laws_alive.f kj5).bind fun t1304 => (some t1304)) else (if (t1292.length : Int) = 0 then ((laws_alive.f kj5).bind fun t1305 => (some t1305)) else (some false))) = some r := H
       have A56 := Aside0.mk A560
       clear A560
       by_cases c57 : t1303 = true
       ·subst c57
        have H1 : ((laws_alive.f kj5).bind fun t1304 => (some t1304)) = some r := by rw [if_pos rfl] at H; exact H
        clear H
        have H := H1
        clear H1
        replace H := Option.bind_eq_some_iff.mp H
        obtain ⟨t1304, A580, H⟩ := H
        replace H : (some t1304) = some r := H
        have A58 := Aside0.mk A580
        clear A580
        obtain rfl := Option.some.inj H
        obtain ⟨Ao59, co59, eo59⟩ := Kd.R_slice HO_5.out
        subst eo59
        go_wp2_with (first | (go_at_call 50; (with_reducible refine (laws_samePieces.calls kj5 _ _ t1292 _ _ t1288 true _ ?side1 ?side2 ?side3 ?side4 A56.out).mono ?_); (case side1 => exact kC_ ((Kd.R_reads' HO_5.out).2.2)); (case side2 => exact (Kd.R_reads' HO_5.out).2.1); (case side3 => exact kC_ ((Kd.V_reads' HO_3.out).2.2)); (case side4 => exact (Kd.V_reads' HO_3.out).2.1); rintro e w' ⟨rfl, ⟨nd, rfl⟩⟩) | (go_at_call 30; (with_reducible refine (laws_alive.calls kj5  t1304 _ A58.out).mono ?_); rintro e w' ⟨rfl, ⟨nd, rfl⟩⟩))
        go_ret
        exact ⟨er_, hb_⟩
       ·replace c57 := Bool.eq_false_iff.mpr c57
        subst c57
        have H1 : (if (t1292.length : Int) = 0 then ((laws_alive.f kj5).bind fun t1305 => (some t1305)) else (some false)) = some r := by rw [if_neg (show ¬ (false = true) by decide)] at H; exact H
        clear H
        have H := H1
        clear H1
        by_cases c60 : (t1292.length : Int) = 0
        ·rw [if_pos c60] at H
         have c60b0 : ((t1292.length : Int) == 0) = true := beq_iff_eq.mpr c60
         have c60b1 : ((t1292.length : Int) != 0) = false := bne_eq_false_iff_eq.mpr c60
         clear c60
         replace H := Option.bind_eq_some_iff.mp H
         obtain ⟨t1305, A610, H⟩ := H
         replace H : (some t1305) = some r := H
         have A61 := Aside0.mk A610
         clear A610
         obtain rfl := Option.some.inj H
         obtain ⟨Ao62, co62, eo62⟩ := Kd.R_slice HO_5.out
         subst eo62
         go_wp2_with (first | (go_at_call 50; (with_reducible refine (laws_samePieces.calls kj5 _ _ t1292 _ _ t1288 false _ ?side1 ?side2 ?side3 ?side4 A56.out).mono ?_); (case side1 => exact kC_ ((Kd.R_reads' HO_5.out).2.2)); (case side2 => exact (Kd.R_reads' HO_5.out).2.1); (case side3 => exact kC_ ((Kd.V_reads' HO_3.out).2.2)); (case side4 => exact (Kd.V_reads' HO_3.out).2.1); rintro e w' ⟨rfl, ⟨nd, rfl⟩⟩) | (go_at_call 30; (with_reducible refine (laws_alive.calls kj5  t1305 _ A61.out).mono ?_); rintro e w' ⟨rfl, ⟨nd, rfl⟩⟩))
         go_ret
         exact ⟨er_, hb_⟩
        ·rw [if_neg c60] at H
         have c60b0 : ((t1292.length : Int) == 0) = false := beq_eq_false_iff_ne.mpr c60
         have c60b1 : ((t1292.length : Int) != 0) = true := bne_iff_ne.mpr c60
         have c60b2 : ¬ (t1292 = []) := fun h_ => c60 (by rw [h_]; rfl)
         exact absurd H (by subst hrt; decide)
      ·rw [if_neg c55] at H
       have c55b0 : (t1293 == (-1)) = false := beq_eq_false_iff_ne.mpr c55
       have c55b1 : (t1293 != (-1)) = true := bne_iff_ne.mpr c55
       exact absurd H (by subst hrt; decide)
/-- THE ONE PURE STATEMENT of laws_FnPutText: yours. -/
def laws_FnPutText.Pure : Prop := ∀ (l0 : List Int), l0.length ≤ maxLen → l0.length * 1 ≤ 140737488351232 → (∀ x ∈ l0, (Lit.int .u8 x).wf = true) → ∃ k, laws_FnPutText.f k l0 = some true
theorem laws_FnPutText.walk (P : laws_FnPutText.Pure) (a0 : Option Addr) (len0 cap0 : Nat) (z0 : List Int) (w : World) (w0 : (a0 = none ∧ len0 = 0 ∧ cap0 = 0 ∧ z0 = []) ∨ ∃ x, a0 = some x ∧ len0 ≤ cap0 ∧ cap0 ≤ maxLen ∧ z0.length = cap0 ∧ (∀ i, i < z0.length → w.cell? (x.add i) = some (.int .u8 (z0.getD i 0))) ∧ ∀ n ∈ z0, (Lit.int .u8 n).wf = true) (y0 : len0 * 1 ≤ 140737488351232) :
  Calls Try.prog 14 #[.slice a0 len0 cap0] w fun e w' => e = .returned (.bool true) ∧ Below w.heap.size w w' := by
 obtain ⟨l0, rfl, hr0, hm0, hw0, hc0⟩ := ReadsInt.ofRowC w0
 obtain ⟨k, h⟩ := P l0 hm0 y0 hw0
 refine (laws_FnPutText.calls k _ _ l0 true w (Kd.C_of_reads (d := (0 : Int)) (h1 := fun _ => rfl) hr0) hc0 h rfl).mono ?_
 rintro e w' ⟨rfl, hd⟩
 exact ⟨rfl, hd⟩
end Go.Proofs.Ytcbmkonigclceaa.P
