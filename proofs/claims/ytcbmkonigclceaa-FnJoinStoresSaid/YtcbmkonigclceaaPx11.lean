-- The functions of the seat as plain Lean functions, made by the kit's print.py for all laws at once. Not trusted: Lean checks it.
import Derived.Test.YtcbmkonigclceaaPx0
import Derived.Test.YtcbmkonigclceaaPx1
import Derived.Test.YtcbmkonigclceaaPx2
import Derived.Test.YtcbmkonigclceaaPx10
namespace Go.Proofs.Ytcbmkonigclceaa.P
open Go.RowKit Go.Proofs.YtcbmkonigclceaaW.PrintWords Go.Proofs.YtcbmkonigclceaaW.PrintLast Go.Proofs.YtcbmkonigclceaaW.PrintMore
attribute [local go_sem] max2_int min2_int max_two min_two max_three min_three max_four min_four   -- for this text's walks alone
set_option linter.unusedVariables false
set_option linter.unusedSimpArgs false
/-! ### laws_FnJoinStores: function 15 -/
mutual
def laws_FnJoinStores.j0 : Nat → List (S65) → List (S65) → List (S65) → Bool → Bool → Option (Bool)
 | 0, _, _, _, _, _ => none
 | k + 1, x3, x4, x5, x6, x42 => if x42 = true then (some false) else ((impl_JoinStores.f k x4 x3).bind fun bt1384 => (if (bt1384.2 != x6) = true then (laws_FnJoinStores.j1 k x3 x4 x5 x6 true) else ((laws_samePieces.f k bt1384.1 x5).bind fun t1388 => (laws_FnJoinStores.j1 k x3 x4 x5 x6 (!t1388)))))
def laws_FnJoinStores.j1 : Nat → List (S65) → List (S65) → List (S65) → Bool → Bool → Option (Bool)
 | 0, _, _, _, _, _ => none
 | k + 1, x3, x4, x5, x6, x57 => if x57 = true then (some false) else (if x6 = true then (laws_FnJoinStores.l0 k x3 x4 x5 0) else (if (x5.length : Int) = 0 then ((laws_alive.f k).bind fun t1389 => (some t1389)) else (some false)))
def laws_FnJoinStores.l0 : Nat → List (S65) → List (S65) → List (S65) → Int → Option (Bool)
 | 0, _, _, _, _ => none
 | k + 1, x3, x4, x5, x11 => if x11 < (x3.length : Int) then (if 0 ≤ x11 then ((impl_GetText.f k x5 ((rd_T65 x3 x11).f0)).bind fun bt1392 => (if bt1392.2 = true then (if bt1392.1.toList = ((rd_T65 x3 x11).f1).toList then (laws_FnJoinStores.l0 k x3 x4 x5 (wrap64 (x11 + 1))) else (some false)) else (some false))) else (none)) else ((impl_StoreValid.f k x5).bind fun t1390 => (if t1390 = true then (if (x5.length : Int) ≥ (x3.length : Int) then (some (decide ((x5.length : Int) ≤ (wrap64 ((x3.length : Int) + (x4.length : Int)))))) else (some false)) else (some false)))
end
def laws_FnJoinStores.f (k : Nat) (l0 : List Int) : Option (Bool) := if (l0.length : Int) > 1048576 then (some true) else ((spec_DrawJoinStores.f k l0).bind fun bt1369 => ((impl_JoinStores.f k bt1369.1 bt1369.2).bind fun bt1375 => ((spec_JoinStores.f k bt1369.1 bt1369.2).bind fun bt1379 => ((laws_samePieces.f k bt1375.1 bt1379.1).bind fun t1383 => (if t1383 = true then (laws_FnJoinStores.j0 k bt1369.1 bt1369.2 bt1375.1 bt1375.2 (bt1375.2 != bt1379.2)) else (laws_FnJoinStores.j0 k bt1369.1 bt1369.2 bt1375.1 bt1375.2 true))))))
set_option maxHeartbeats 8000000 in
set_option maxRecDepth 100000 in
theorem laws_FnJoinStores.calls (k : Nat) (A0 : Option Addr) (c0 : Nat) (l0 : List Int) (r : Bool) (w : World) (hr0 : Kd.C (Kd.int .u8) w A0 l0.length l0) (hc0 : l0.length ≤ c0) (h : laws_FnJoinStores.f k l0 = some r) (hrt : r = true) :
  Calls Try.prog 15 #[.slice A0 l0.length c0] w fun e w' => e = .returned (.bool r) ∧ Below w.heap.size w w' := by
 have HR0 := Aside0.mk hr0
 have HC0 := Aside0.mk hc0
 clear hr0 hc0
 have HB := Aside0.mk (Below.refl w.heap.size w)
 have H : (if (l0.length : Int) > 1048576 then (some true) else ((spec_DrawJoinStores.f k l0).bind fun bt1369 => ((impl_JoinStores.f k bt1369.1 bt1369.2).bind fun bt1375 => ((spec_JoinStores.f k bt1369.1 bt1369.2).bind fun bt1379 => ((laws_samePieces.f k bt1375.1 bt1379.1).bind fun t1383 => (if t1383 = true then (laws_FnJoinStores.j0 k bt1369.1 bt1369.2 bt1375.1 bt1375.2 (bt1375.2 != bt1379.2)) else (laws_FnJoinStores.j0 k bt1369.1 bt1369.2 bt1375.1 bt1375.2 true))))))) = some r := h
 clear h
 by_cases c2 : (l0.length : Int) > 1048576
 ·rw [if_pos c2] at H
  have c2b0 : decide (1048576 < (l0.length : Int)) = true := decide_eq_true c2
  have c2b1 : decide (1048576 < l0.length) = true := decide_eq_true (by omega)
  clear c2
  obtain rfl := Option.some.inj H
  go_enter Try.func15, Try.ntmps15
  go_wp2
  go_ret
  exact ⟨er_, hb_⟩
 ·rw [if_neg c2] at H
  have c2b0 : decide (1048576 < (l0.length : Int)) = false := decide_eq_false c2
  have c2b1 : decide (1048576 < l0.length) = false := decide_eq_false (by omega)
  clear c2
  replace H := Option.bind_eq_some_iff.mp H
  obtain ⟨⟨t1369, t1372⟩, A30, H⟩ := H
  replace H : ((impl_JoinStores.f k t1369 t1372).bind fun bt1375 => ((spec_JoinStores.f k t1369 t1372).bind fun bt1379 => ((laws_samePieces.f k bt1375.1 bt1379.1).bind fun t1383 => (if t1383 = true then (laws_FnJoinStores.j0 k t1369 t1372 bt1375.1 bt1375.2 (bt1375.2 != bt1379.2)) else (laws_FnJoinStores.j0 k t1369 t1372 bt1375.1 bt1375.2 true))))) = some r := H
  have A3 := Aside0.mk A30
  clear A30
  replace H := Option.bind_eq_some_iff.mp H
  obtain ⟨⟨t1375, t1376⟩, A40, H⟩ := H
  replace H : ((spec_JoinStores.f k t1369 t1372).bind fun bt1379 => ((laws_samePieces.f k t1375 bt1379.1).bind fun t1383 => (if t1383 = true then (laws_FnJoinStores.j0 k t1369 t1372 t1375 t1376 (t1376 != bt1379.2)) else (laws_FnJoinStores.j0 k t1369 t1372 t1375 t1376 true)))) = some r := H
  have A4 := Aside0.mk A40
  clear A40
  replace H := Option.bind_eq_some_iff.mp H
  obtain ⟨⟨t1379, t1380⟩, A50, H⟩ := H
  replace H : ((laws_samePieces.f k t1375 t1379).bind fun t1383 => (if t1383 = true then (laws_FnJoinStores.j0 k t1369 t1372 t1375 t1376 (t1376 != t1380)) else (laws_FnJoinStores.j0 k t1369 t1372 t1375 t1376 true))) = some r := H
  have A5 := Aside0.mk A50
  clear A50
  have HC6 := Aside0.mk H
  clear H
  go_enter Try.func15, Try.ntmps15
  go_upto_region 6 with (first | ((with_reducible refine gate_callee (f := 58) rfl ?_); refine gl_ (some 19) Try.func58 #[.slice A0 l0.length c0] ?_; (with_reducible refine (spec_DrawJoinStores.calls k _ _ l0 t1369 t1372 _ ?side1 ?side2 A3.out).mono ?_); (case side1 => exact kC_ HR0.out); (case side2 => exact HC0.out); rintro e w7 ⟨v1370, v1373, rfl, ho0, ho1, hb⟩; refine ⟨_, rfl, ?_⟩; have HO1371 := Aside0.mk (Kd.V_lower (Kd.V_mono (ok' := fun k_ => True) ho0 (fun k_ hk_ => trivial)) (below_size hb_)); have HO1374 := Aside0.mk (Kd.V_lower (Kd.V_mono (ok' := fun k_ => True) ho1 (fun k_ hk_ => trivial)) (below_size hb_)); replace HB := Aside0.mk (below_step hb_ hb); (try clear hb); (try clear ho0); (try clear ho1); obtain ⟨Ao8, co8, eo8⟩ := Kd.V_slice HO1371.out; subst eo8; obtain ⟨Ao9, co9, eo9⟩ := Kd.V_slice HO1374.out; subst eo9) | ((with_reducible refine gate_callee (f := 59) rfl ?_); refine gl_ (some 25) Try.func59 #[.slice Ao8 t1369.length co8, .slice Ao9 t1372.length co9] ?_; (with_reducible refine (impl_JoinStores.calls k _ _ t1369 _ _ t1372 t1375 t1376 _ ?side1 ?side2 ?side3 ?side4 A4.out).mono ?_); (case side1 => exact kC_ ((Kd.V_reads' HO1371.out).2.2)); (case side2 => exact (Kd.V_reads' HO1371.out).2.1); (case side3 => exact kC_ ((Kd.V_reads' HO1374.out).2.2)); (case side4 => exact (Kd.V_reads' HO1374.out).2.1); rintro e w10 ⟨v1377, rfl, ho0, hb⟩; refine ⟨_, rfl, ?_⟩; have n0_ := Aside0.mk (Kd.V_elder' (kV_ HO1371.out) (Kd.R_base ho0) hb); have n1_ := Aside0.mk (Kd.V_elder' (kV_ HO1374.out) (Kd.R_base ho0) hb); have n2_ := Aside0.mk (Kd.R_lower ho0 (below_size hb_)); have n3_ := Aside0.mk (below_step hb_ hb); clear HO1371; clear HO1374; clear HB; have HO1371 := n0_; have HO1374 := n1_; have HO1378 := n2_; have HB := n3_; clear n0_ n1_ n2_ n3_; (try clear hb); (try clear ho0)) | ((with_reducible refine gate_callee (f := 60) rfl ?_); refine gl_ (some 31) Try.func60 #[.slice Ao8 t1369.length co8, .slice Ao9 t1372.length co9] ?_; (with_reducible refine (spec_JoinStores.calls k _ _ t1369 _ _ t1372 t1379 t1380 _ ?side1 ?side2 ?side3 ?side4 A5.out).mono ?_); (case side1 => exact kC_ ((Kd.V_reads' HO1371.out).2.2)); (case side2 => exact (Kd.V_reads' HO1371.out).2.1); (case side3 => exact kC_ ((Kd.V_reads' HO1374.out).2.2)); (case side4 => exact (Kd.V_reads' HO1374.out).2.1); rintro e w11 ⟨v1381, rfl, ho0, hb⟩; refine ⟨_, rfl, ?_⟩; have n0_ := Aside0.mk (Kd.V_elder' (kV_ HO1371.out) (Kd.R_base ho0) hb); have n1_ := Aside0.mk (Kd.V_elder' (kV_ HO1374.out) (Kd.R_base ho0) hb); have n2_ := Aside0.mk (Kd.R_elder' (kR_ HO1378.out) (Kd.R_base ho0) hb); have n3_ := Aside0.mk (Kd.R_lower (Kd.R_new' ho0 (Kd.R_lt (kR_ HO1378.out))) (below_size hb_)); have n4_ := Aside0.mk (below_step hb_ hb); clear HO1371; clear HO1374; clear HO1378; clear HB; have HO1371 := n0_; have HO1374 := n1_; have HO1378 := n2_; have HO1382 := n3_; have HB := n4_; clear n0_ n1_ n2_ n3_ n4_; (try clear hb); (try clear ho0)))
  (try simp only [Act.put, List.setIfInBounds_toArray, List.set_cons_zero, List.set_cons_succ])
  go_cut [42] (fun v42 wc => ∃ (kq : Nat) (x42_5 : Bool), v42 = .bool x42_5 ∧ Aside0 (laws_FnJoinStores.j0 kq t1369 t1372 t1375 t1376 x42_5 = some r) ∧ Aside0 (kq ≤ k) ∧ Aside0 (Kd.V k65 65 wc w.heap.size (fun k_ => some k_ ≠ (v1377 : Value).ownBlock) (.slice Ao8 t1369.length co8) t1369) ∧ Aside0 (Kd.V k65 65 wc w.heap.size (fun k_ => some k_ ≠ (v1377 : Value).ownBlock) (.slice Ao9 t1372.length co9) t1372) ∧ Aside0 (Kd.R k65 65 wc w.heap.size (fun _ => True) v1377 t1375) ∧ Aside0 (Below w.heap.size w wc))
  case first =>
   have H := HC6.out
   clear HC6
   replace H := Option.bind_eq_some_iff.mp H
   obtain ⟨t1383, A120, H⟩ := H
   replace H : (if t1383 = true then (laws_FnJoinStores.j0 k t1369 t1372 t1375 t1376 (t1376 != t1380)) else (laws_FnJoinStores.j0 k t1369 t1372 t1375 t1376 true)) = some r := H
   have A12 := Aside0.mk A120
   clear A120
   by_cases c13 : t1383 = true
   ·subst c13
    have H1 : (laws_FnJoinStores.j0 k t1369 t1372 t1375 t1376 (t1376 != t1380)) = some r := by rw [if_pos rfl] at H; exact H
    clear H
    have H := H1
    clear H1
    have H' := Aside0.mk H
    clear H
    obtain ⟨Ao14, co14, eo14⟩ := Kd.R_slice HO1378.out
    subst eo14
    obtain ⟨Ao15, co15, eo15⟩ := Kd.R_slice HO1382.out
    subst eo15
    go_wp2_with (first | ((with_reducible refine gate_callee (f := 50) rfl ?_); refine gl_ (some 36) Try.func50 #[.slice Ao14 t1375.length co14, .slice Ao15 t1379.length co15] ?_; (with_reducible refine (laws_samePieces.calls k _ _ t1375 _ _ t1379 true _ ?side1 ?side2 ?side3 ?side4 A12.out).mono ?_); (case side1 => exact kC_ ((Kd.R_reads' HO1378.out).2.2)); (case side2 => exact (Kd.R_reads' HO1378.out).2.1); (case side3 => exact kC_ ((Kd.R_reads' HO1382.out).2.2)); (case side4 => exact (Kd.R_reads' HO1382.out).2.1); rintro e w' ⟨rfl, ⟨nd, rfl⟩⟩; refine ⟨_, rfl, ?_⟩))
    go_meet
    case rel => exact ⟨_, ((t1376 != t1380)), rs_, H', ⟨by first | omega | exact Nat.le_refl _⟩, ⟨by refine kV_ ?_; exact Kd.V_mono HO1371.out (fun _ hk => hk.1.2)⟩, ⟨by refine kV_ ?_; exact Kd.V_mono HO1374.out (fun _ hk => hk.1.2)⟩, ⟨by refine kR_ ?_; exact Kd.R_mono HO1378.out (fun _ hk => trivial)⟩, ⟨hb_⟩⟩
   ·replace c13 := Bool.eq_false_iff.mpr c13
    subst c13
    have H1 : (laws_FnJoinStores.j0 k t1369 t1372 t1375 t1376 true) = some r := by rw [if_neg (show ¬ (false = true) by decide)] at H; exact H
    clear H
    have H := H1
    clear H1
    have H' := Aside0.mk H
    clear H
    obtain ⟨Ao16, co16, eo16⟩ := Kd.R_slice HO1378.out
    subst eo16
    obtain ⟨Ao17, co17, eo17⟩ := Kd.R_slice HO1382.out
    subst eo17
    go_wp2_with (first | ((with_reducible refine gate_callee (f := 50) rfl ?_); refine gl_ (some 36) Try.func50 #[.slice Ao16 t1375.length co16, .slice Ao17 t1379.length co17] ?_; (with_reducible refine (laws_samePieces.calls k _ _ t1375 _ _ t1379 false _ ?side1 ?side2 ?side3 ?side4 A12.out).mono ?_); (case side1 => exact kC_ ((Kd.R_reads' HO1378.out).2.2)); (case side2 => exact (Kd.R_reads' HO1378.out).2.1); (case side3 => exact kC_ ((Kd.R_reads' HO1382.out).2.2)); (case side4 => exact (Kd.R_reads' HO1382.out).2.1); rintro e w' ⟨rfl, ⟨nd, rfl⟩⟩; refine ⟨_, rfl, ?_⟩))
    go_meet
    case rel => exact ⟨_, (true), rs_, H', ⟨by first | omega | exact Nat.le_refl _⟩, ⟨by refine kV_ ?_; exact Kd.V_mono HO1371.out (fun _ hk => hk.1.2)⟩, ⟨by refine kV_ ?_; exact Kd.V_mono HO1374.out (fun _ hk => hk.1.2)⟩, ⟨by refine kR_ ?_; exact Kd.R_mono HO1378.out (fun _ hk => trivial)⟩, ⟨hb_⟩⟩
  case rest =>
   clear HC6
   try clear c1
   try clear c2
   try clear c2b0
   try clear c2b1
   try clear p2
   try clear c5
   try clear c6
   try clear c13
   try clear c15
   obtain ⟨kq, x42_5, rfl, HA, HJ5, HO_3, HO_4, HO_5, HB⟩ := hcut
   cases kq with
   | zero => exact absurd HA.out (by simp [laws_FnJoinStores.j0])
   | succ kj5 =>
    have H := HA.out
    clear HA
    simp only [laws_FnJoinStores.j0] at H
    by_cases c18 : x42_5 = true
    ·subst c18
     have H1 : (some false) = some r := by rw [if_pos rfl] at H; exact H
     clear H
     have H := H1
     clear H1
     exact absurd H (by subst hrt; decide)
    ·replace c18 := Bool.eq_false_iff.mpr c18
     subst c18
     have H1 : ((impl_JoinStores.f kj5 t1372 t1369).bind fun bt1384 => (if (bt1384.2 != t1376) = true then (laws_FnJoinStores.j1 kj5 t1369 t1372 t1375 t1376 true) else ((laws_samePieces.f kj5 bt1384.1 t1375).bind fun t1388 => (laws_FnJoinStores.j1 kj5 t1369 t1372 t1375 t1376 (!t1388))))) = some r := by rw [if_neg (show ¬ (false = true) by decide)] at H; exact H
     clear H
     have H := H1
     clear H1
     replace H := Option.bind_eq_some_iff.mp H
     obtain ⟨⟨t1384, t1385⟩, A190, H⟩ := H
     replace H : (if (t1385 != t1376) = true then (laws_FnJoinStores.j1 kj5 t1369 t1372 t1375 t1376 true) else ((laws_samePieces.f kj5 t1384 t1375).bind fun t1388 => (laws_FnJoinStores.j1 kj5 t1369 t1372 t1375 t1376 (!t1388)))) = some r := H
     have A19 := Aside0.mk A190
     clear A190
     have HC20 := Aside0.mk H
     clear H
     go_upto_region 9 with (first | ((with_reducible refine gate_callee (f := 59) rfl ?_); refine gl_ (some 46) Try.func59 #[.slice Ao9 t1372.length co9, .slice Ao8 t1369.length co8] ?_; (with_reducible refine (impl_JoinStores.calls kj5 _ _ t1372 _ _ t1369 t1384 t1385 _ ?side1 ?side2 ?side3 ?side4 A19.out).mono ?_); (case side1 => exact kC_ ((Kd.V_reads' HO_4.out).2.2)); (case side2 => exact (Kd.V_reads' HO_4.out).2.1); (case side3 => exact kC_ ((Kd.V_reads' HO_3.out).2.2)); (case side4 => exact (Kd.V_reads' HO_3.out).2.1); rintro e w21 ⟨v1386, rfl, ho0, hb⟩; refine ⟨_, rfl, ?_⟩; have n0_ := Aside0.mk (Kd.V_elder' (kV_ HO_3.out) (Kd.R_base ho0) hb); have n1_ := Aside0.mk (Kd.V_elder' (kV_ HO_4.out) (Kd.R_base ho0) hb); have n2_ := Aside0.mk (Kd.R_elder' (kR_ HO_5.out) (Kd.R_base ho0) hb); have n3_ := Aside0.mk (Kd.R_lower (Kd.R_new' ho0 (Kd.R_lt (kR_ HO_5.out))) (below_size hb_)); have n4_ := Aside0.mk (below_step hb_ hb); clear HO_3; clear HO_4; clear HO_5; clear HB; have HO_3 := n0_; have HO_4 := n1_; have HO_5 := n2_; have HO1387 := n3_; have HB := n4_; clear n0_ n1_ n2_ n3_ n4_; (try clear hb); (try clear ho0)))
     (try simp only [Act.put, List.setIfInBounds_toArray, List.set_cons_zero, List.set_cons_succ])
     go_cut [57] (fun v57 wc => ∃ (kq : Nat) (x57_19 : Bool), v57 = .bool x57_19 ∧ Aside0 (laws_FnJoinStores.j1 kq t1369 t1372 t1375 t1376 x57_19 = some r) ∧ Aside0 (kq ≤ kj5) ∧ Aside0 (Kd.V k65 65 wc w.heap.size (fun k_ => some k_ ≠ (v1377 : Value).ownBlock) (.slice Ao8 t1369.length co8) t1369) ∧ Aside0 (Kd.V k65 65 wc w.heap.size (fun k_ => some k_ ≠ (v1377 : Value).ownBlock) (.slice Ao9 t1372.length co9) t1372) ∧ Aside0 (Kd.R k65 65 wc w.heap.size (fun _ => True) v1377 t1375) ∧ Aside0 (Below w.heap.size w wc))
     case first =>
      have H := HC20.out
      clear HC20
      by_cases c22 : (t1385 != t1376) = true
      ·rw [if_pos c22] at H
       have c22b0 : (t1385 != t1376) = true := c22
       (try (have c22b1 : decide (t1385 = t1376) = false := by simpa using c22))
       (try (have c22b2 : (t1385 == t1376) = false := by simpa using c22))
       (try (have c22b3 : ¬ (t1385 = t1376) := by simpa using c22))
       clear c22
       (first | rw [c22b0] | (simp only [i64_w, i32_w]; rw [c22b0]) | skip)
       have H' := Aside0.mk H
       clear H
       go_wp2
       go_meet
       case rel => exact ⟨_, (true), rs_, H', ⟨by have := HJ5.out; first | omega | exact Nat.le_refl _⟩, ⟨by refine kV_ ?_; exact Kd.V_mono HO_3.out (fun _ hk => hk.1)⟩, ⟨by refine kV_ ?_; exact Kd.V_mono HO_4.out (fun _ hk => hk.1)⟩, ⟨by refine kR_ ?_; exact Kd.R_mono HO_5.out (fun _ hk => trivial)⟩, ⟨hb_⟩⟩
      ·rw [if_neg c22] at H
       have c22b0 : (t1385 != t1376) = false := by simpa using c22
       (try (have c22b1 : decide (t1385 = t1376) = true := by simpa using c22))
       (try (have c22b2 : (t1385 == t1376) = true := by simpa using c22))
       clear c22
       (first | rw [c22b0] | (simp only [i64_w, i32_w]; rw [c22b0]) | skip)
       replace H := Option.bind_eq_some_iff.mp H
       obtain ⟨t1388, A230, H⟩ := H
       replace H : (laws_FnJoinStores.j1 kj5 t1369 t1372 t1375 t1376 (!t1388)) = some r := H
       have A23 := Aside0.mk A230
       clear A230
       have H' := Aside0.mk H
       clear H
       obtain ⟨Ao24, co24, eo24⟩ := Kd.R_slice HO1387.out
       subst eo24
       obtain ⟨Ao25, co25, eo25⟩ := Kd.R_slice HO_5.out
       subst eo25
       go_wp2_with (first | (go_at_call 50; (with_reducible refine (laws_samePieces.calls kj5 _ _ t1384 _ _ t1375 t1388 _ ?side1 ?side2 ?side3 ?side4 A23.out).mono ?_); (case side1 => exact kC_ ((Kd.R_reads' HO1387.out).2.2)); (case side2 => exact (Kd.R_reads' HO1387.out).2.1); (case side3 => exact kC_ ((Kd.R_reads' HO_5.out).2.2)); (case side4 => exact (Kd.R_reads' HO_5.out).2.1); rintro e w' ⟨rfl, ⟨nd, rfl⟩⟩))
       go_meet
       case rel => exact ⟨_, (!t1388), rs_, H', ⟨by have := HJ5.out; first | omega | exact Nat.le_refl _⟩, ⟨by refine kV_ ?_; exact Kd.V_mono HO_3.out (fun _ hk => hk.1)⟩, ⟨by refine kV_ ?_; exact Kd.V_mono HO_4.out (fun _ hk => hk.1)⟩, ⟨by refine kR_ ?_; exact Kd.R_mono HO_5.out (fun _ hk => trivial)⟩, ⟨hb_⟩⟩
     case rest =>
      clear HC20
      try clear c1
      try clear c2
      try clear c2b0
      try clear c2b1
      try clear p2
      try clear c5
      try clear c6
      try clear c13
      try clear c15
      try clear c18
      try clear c22
      try clear c22b0
      try clear c22b1
      try clear c22b2
      try clear p2
      obtain ⟨kq, x57_19, rfl, HA, HJ19, HO_3, HO_4, HO_5, HB⟩ := hcut
      cases kq with
      | zero => exact absurd HA.out (by simp [laws_FnJoinStores.j1])
      | succ kj19 =>
       have H := HA.out
       clear HA
       simp only [laws_FnJoinStores.j1] at H
       by_cases c26 : x57_19 = true
       ·subst c26
        have H1 : (some false) = some r := by rw [if_pos rfl] at H; exact H
        clear H
        have H := H1
        clear H1
        exact absurd H (by subst hrt; decide)
       ·replace c26 := Bool.eq_false_iff.mpr c26
        subst c26
        have H1 : (if t1376 = true then (laws_FnJoinStores.l0 kj19 t1369 t1372 t1375 0) else (if (t1375.length : Int) = 0 then ((laws_alive.f kj19).bind fun t1389 => (some t1389)) else (some false))) = some r := by rw [if_neg (show ¬ (false = true) by decide)] at H; exact H
        clear H
        have H := H1
        clear H1
        by_cases c27 : t1376 = true
        ·subst c27
         have H1 : (laws_FnJoinStores.l0 kj19 t1369 t1372 t1375 0) = some r := by rw [if_pos rfl] at H; exact H
         clear H
         have H := H1
         clear H1
         have H' := Aside0.mk H
         clear H
         go_wp2
         go_loopg [11] kj19 (fun kq v11 w' => ∃ (x11_3 : Int), v11 = .int .i64 x11_3 ∧ Aside0 (laws_FnJoinStores.l0 kq t1369 t1372 t1375 x11_3 = some r) ∧ Aside0 (kq ≤ kj19) ∧ Aside0 (Kd.V k65 65 w' w.heap.size (fun k_ => some k_ ≠ (v1377 : Value).ownBlock) (.slice Ao8 t1369.length co8) t1369) ∧ Aside0 (Kd.V k65 65 w' w.heap.size (fun k_ => some k_ ≠ (v1377 : Value).ownBlock) (.slice Ao9 t1372.length co9) t1372) ∧ Aside0 (Kd.R k65 65 w' w.heap.size (fun _ => True) v1377 t1375) ∧ Aside0 (Below w.heap.size w w'))
         case atStart => exact ⟨(0), rs_, H', ⟨Nat.le_refl _⟩, ⟨by refine kV_ ?_; exact HO_3.out⟩, ⟨by refine kV_ ?_; exact HO_4.out⟩, ⟨by refine kR_ ?_; exact HO_5.out⟩, ⟨hb_⟩⟩
         case round =>
          clear H'
          try clear c1
          try clear c2
          try clear c2b0
          try clear c2b1
          try clear p2
          try clear c5
          try clear c6
          try clear c13
          try clear c15
          try clear c18
          try clear c22
          try clear c22b0
          try clear c22b1
          try clear c22b2
          try clear c26
          try clear c27
          try clear p2
          obtain ⟨x11_3, rfl, HA, HK3, HO_3, HO_4, HO_5, HB⟩ := hrel
          cases gk with
          | zero => exact absurd HA.out (by simp [laws_FnJoinStores.l0])
          | succ k3 =>
           have H := HA.out
           clear HA
           simp only [laws_FnJoinStores.l0] at H
           by_cases c28 : x11_3 < (t1369.length : Int)
           ·rw [if_pos c28] at H
            have c28b0 : decide (x11_3 < (t1369.length : Int)) = true := decide_eq_true c28
            clear c28
            by_cases c29 : 0 ≤ x11_3; rotate_left
            ·rw [if_neg c29] at H; exact absurd H (by simp)
            rw [if_pos c29] at H
            have c29b0 : decide (0 ≤ x11_3) = true := decide_eq_true c29
            clear c29
            replace H := Option.bind_eq_some_iff.mp H
            obtain ⟨⟨t1392, t1393⟩, A300, H⟩ := H
            replace H : (if t1393 = true then (if t1392.toList = ((rd_T65 t1369 x11_3).f1).toList then (laws_FnJoinStores.l0 k3 t1369 t1372 t1375 (wrap64 (x11_3 + 1))) else (some false)) else (some false)) = some r := H
            have A30 := Aside0.mk A300
            clear A300
            by_cases c31 : t1393 = true
            ·subst c31
             have H1 : (if t1392.toList = ((rd_T65 t1369 x11_3).f1).toList then (laws_FnJoinStores.l0 k3 t1369 t1372 t1375 (wrap64 (x11_3 + 1))) else (some false)) = some r := by rw [if_pos rfl] at H; exact H
             clear H
             have H := H1
             clear H1
             by_cases c32 : t1392.toList = ((rd_T65 t1369 x11_3).f1).toList
             ·rw [if_pos c32] at H
              have c32b0 : (t1392.toList == ((rd_T65 t1369 x11_3).f1).toList) = true := beq_iff_eq.mpr c32
              have c32b1 : (t1392.toList != ((rd_T65 t1369 x11_3).f1).toList) = false := bne_eq_false_iff_eq.mpr c32
              clear c32
              have H' := Aside0.mk H
              clear H
              have p1391 : 0 ≤ (x11_3 : Int) := dt_
              have q1391 : x11_3 < (t1369.length : Int) := dt_
              obtain ⟨ad1391, e1391, hx1391_0, hx1391_1⟩ := at_T65 (Kd.V_reads' HO_3.out).2.2 x11_3 p1391 q1391
              cases e1391
              replace p1391 := eq_true p1391
              replace q1391 := eq_true q1391
              obtain ⟨Ao33, co33, eo33⟩ := Kd.R_slice HO_5.out
              subst eo33
              go_wp2_with (first | ((with_reducible refine gate_callee (f := 51) rfl ?_); refine gl_ (some 79) Try.func51 #[.slice Ao33 t1375.length co33, .int .i64 ((rd_T65 t1369 x11_3).f0)] ?_; (with_reducible refine (impl_GetText.calls k3 _ _ t1375 ((rd_T65 t1369 x11_3).f0) t1392 true _ ?side1 ?side2 A30.out).mono ?_); (case side1 => exact kC_ ((Kd.R_reads' HO_5.out).2.2)); (case side2 => exact (Kd.R_reads' HO_5.out).2.1); rintro e w34 ⟨rfl, hb⟩; refine ⟨_, rfl, ?_⟩; have n0_ := Aside0.mk (Kd.V_below (kV_ HO_3.out) hb); have n1_ := Aside0.mk (Kd.V_below (kV_ HO_4.out) hb); have n2_ := Aside0.mk (Kd.R_below (kR_ HO_5.out) hb); have n3_ := Aside0.mk (below_step hb_ hb); clear HO_3; clear HO_4; clear HO_5; clear HB; have HO_3 := n0_; have HO_4 := n1_; have HO_5 := n2_; have HB := n3_; clear n0_ n1_ n2_ n3_; (try clear hb); have p1394 : 0 ≤ (x11_3 : Int) := dt_; have q1394 : x11_3 < (t1369.length : Int) := dt_; obtain ⟨ad1394, e1394, hx1394_0, hx1394_1⟩ := at_T65 (Kd.V_reads' HO_3.out).2.2 x11_3 p1394 q1394; obtain rfl : ad1391 = ad1394 := (by injection e1394); replace p1394 := eq_true p1394; replace q1394 := eq_true q1394))
              go_roundg k3
              case measure => have := HJ5.out; have := HJ19.out; have := HK3.out; omega
              case rel => exact ⟨(wrap64 (x11_3 + 1)), rs_, H', ⟨by have := HJ5.out; have := HJ19.out; have := HK3.out; omega⟩, ⟨by refine kV_ ?_; exact HO_3.out⟩, ⟨by refine kV_ ?_; exact HO_4.out⟩, ⟨by refine kR_ ?_; exact HO_5.out⟩, ⟨hb_⟩⟩
             ·rw [if_neg c32] at H
              have c32b0 : (t1392.toList == ((rd_T65 t1369 x11_3).f1).toList) = false := beq_eq_false_iff_ne.mpr c32
              have c32b1 : (t1392.toList != ((rd_T65 t1369 x11_3).f1).toList) = true := bne_iff_ne.mpr c32
              exact absurd H (by subst hrt; decide)
            ·replace c31 := Bool.eq_false_iff.mpr c31
             subst c31
             have H1 : (some false) = some r := by rw [if_neg (show ¬ (false = true) by decide)] at H; exact H
             clear H
             have H := H1
             clear H1
             exact absurd H (by subst hrt; decide)
           ·rw [if_neg c28] at H
            have c28b0 : decide (x11_3 < (t1369.length : Int)) = false := decide_eq_false c28
            clear c28
            replace H := Option.bind_eq_some_iff.mp H
            obtain ⟨t1390, A390, H⟩ := H
            replace H : (if t1390 = true then (if (t1375.length : Int) ≥ (t1369.length : Int) then (some (decide ((t1375.length : Int) ≤ (wrap64 ((t1369.length : Int) + (t1372.length : Int)))))) else (some false)) else (some false)) = some r := H
            have A39 := Aside0.mk A390
            clear A390
            by_cases c40 : t1390 = true
            ·subst c40
             have H1 : (if (t1375.length : Int) ≥ (t1369.length : Int) then (some (decide ((t1375.length : Int) ≤ (wrap64 ((t1369.length : Int) + (t1372.length : Int)))))) else (some false)) = some r := by rw [if_pos rfl] at H; exact H
             clear H
             have H := H1
             clear H1
             by_cases c41 : (t1375.length : Int) ≥ (t1369.length : Int)
             ·rw [if_pos c41] at H
              have c41b0 : decide ((t1369.length : Int) ≤ (t1375.length : Int)) = true := decide_eq_true c41
              have c41b1 : decide (t1369.length ≤ t1375.length) = true := decide_eq_true (Int.ofNat_le.mp c41)
              clear c41
              obtain rfl := Option.some.inj H
              obtain ⟨Ao42, co42, eo42⟩ := Kd.R_slice HO_5.out
              subst eo42
              go_wp2_with (first | ((with_reducible refine gate_callee (f := 53) rfl ?_); refine gl_ (some 94) Try.func53 #[.slice Ao42 t1375.length co42] ?_; (with_reducible refine (impl_StoreValid.calls k3 _ _ t1375 true _ ?side1 ?side2 A39.out).mono ?_); (case side1 => exact kC_ ((Kd.R_reads' HO_5.out).2.2)); (case side2 => exact (Kd.R_reads' HO_5.out).2.1); rintro e w43 ⟨rfl, hb⟩; refine ⟨_, rfl, ?_⟩; have n0_ := Aside0.mk (Kd.V_below (kV_ HO_3.out) hb); have n1_ := Aside0.mk (Kd.V_below (kV_ HO_4.out) hb); have n2_ := Aside0.mk (Kd.R_below (kR_ HO_5.out) hb); have n3_ := Aside0.mk (below_step hb_ hb); clear HO_3; clear HO_4; clear HO_5; clear HB; have HO_3 := n0_; have HO_4 := n1_; have HO_5 := n2_; have HB := n3_; clear n0_ n1_ n2_ n3_; (try clear hb)))
              go_ret
              exact ⟨er_, hb_⟩
             ·rw [if_neg c41] at H
              have c41b0 : decide ((t1369.length : Int) ≤ (t1375.length : Int)) = false := decide_eq_false c41
              have c41b1 : decide (t1369.length ≤ t1375.length) = false := decide_eq_false (fun h => c41 (Int.ofNat_le.mpr h))
              clear c41
              exact absurd H (by subst hrt; decide)
            ·replace c40 := Bool.eq_false_iff.mpr c40
             subst c40
             have H1 : (some false) = some r := by rw [if_neg (show ¬ (false = true) by decide)] at H; exact H
             clear H
             have H := H1
             clear H1
             exact absurd H (by subst hrt; decide)
        ·replace c27 := Bool.eq_false_iff.mpr c27
         subst c27
         have H1 : (if (t1375.length : Int) = 0 then ((laws_alive.f kj19).bind fun t1389 => (some t1389)) else (some false)) = some r := by rw [if_neg (show ¬ (false = true) by decide)] at H; exact H
         clear H
         have H := H1
         clear H1
         by_cases c48 : (t1375.length : Int) = 0
         ·rw [if_pos c48] at H
          have c48b0 : ((t1375.length : Int) == 0) = true := beq_iff_eq.mpr c48
          have c48b1 : ((t1375.length : Int) != 0) = false := bne_eq_false_iff_eq.mpr c48
          clear c48
          replace H := Option.bind_eq_some_iff.mp H
          obtain ⟨t1389, A490, H⟩ := H
          replace H : (some t1389) = some r := H
          have A49 := Aside0.mk A490
          clear A490
          obtain rfl := Option.some.inj H
          obtain ⟨Ao50, co50, eo50⟩ := Kd.R_slice HO_5.out
          subst eo50
          go_wp2_with (first | (go_at_call 30; (with_reducible refine (laws_alive.calls kj19  t1389 _ A49.out).mono ?_); rintro e w' ⟨rfl, ⟨nd, rfl⟩⟩))
          go_ret
          exact ⟨er_, hb_⟩
         ·rw [if_neg c48] at H
          have c48b0 : ((t1375.length : Int) == 0) = false := beq_eq_false_iff_ne.mpr c48
          have c48b1 : ((t1375.length : Int) != 0) = true := bne_iff_ne.mpr c48
          have c48b2 : ¬ (t1375 = []) := fun h_ => c48 (by rw [h_]; rfl)
          exact absurd H (by subst hrt; decide)
/-- THE ONE PURE STATEMENT of laws_FnJoinStores: yours. -/
def laws_FnJoinStores.Pure : Prop := ∀ (l0 : List Int), l0.length ≤ maxLen → l0.length * 1 ≤ 140737488351232 → (∀ x ∈ l0, (Lit.int .u8 x).wf = true) → ∃ k, laws_FnJoinStores.f k l0 = some true
theorem laws_FnJoinStores.walk (P : laws_FnJoinStores.Pure) (a0 : Option Addr) (len0 cap0 : Nat) (z0 : List Int) (w : World) (w0 : (a0 = none ∧ len0 = 0 ∧ cap0 = 0 ∧ z0 = []) ∨ ∃ x, a0 = some x ∧ len0 ≤ cap0 ∧ cap0 ≤ maxLen ∧ z0.length = cap0 ∧ (∀ i, i < z0.length → w.cell? (x.add i) = some (.int .u8 (z0.getD i 0))) ∧ ∀ n ∈ z0, (Lit.int .u8 n).wf = true) (y0 : len0 * 1 ≤ 140737488351232) :
  Calls Try.prog 15 #[.slice a0 len0 cap0] w fun e w' => e = .returned (.bool true) ∧ Below w.heap.size w w' := by
 obtain ⟨l0, rfl, hr0, hm0, hw0, hc0⟩ := ReadsInt.ofRowC w0
 obtain ⟨k, h⟩ := P l0 hm0 y0 hw0
 refine (laws_FnJoinStores.calls k _ _ l0 true w (Kd.C_of_reads (d := (0 : Int)) (h1 := fun _ => rfl) hr0) hc0 h rfl).mono ?_
 rintro e w' ⟨rfl, hd⟩
 exact ⟨rfl, hd⟩
end Go.Proofs.Ytcbmkonigclceaa.P
