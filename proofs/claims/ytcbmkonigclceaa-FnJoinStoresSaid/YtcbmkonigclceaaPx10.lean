-- The functions of the seat as plain Lean functions, made by the kit's print.py for all laws at once. Not trusted: Lean checks it.
import Derived.Test.YtcbmkonigclceaaPx0
import Derived.Test.YtcbmkonigclceaaPx1
import Derived.Test.YtcbmkonigclceaaPx2
import Derived.Test.YtcbmkonigclceaaPx9
namespace Go.Proofs.Ytcbmkonigclceaa.P
open Go.RowKit Go.Proofs.YtcbmkonigclceaaW.PrintWords Go.Proofs.YtcbmkonigclceaaW.PrintLast Go.Proofs.YtcbmkonigclceaaW.PrintMore
attribute [local go_sem] max2_int min2_int max_two min_two max_three min_three max_four min_four   -- for this text's walks alone
set_option linter.unusedVariables false
set_option linter.unusedSimpArgs false
/-! ### spec_DrawJoinStores: function 58 -/
def spec_DrawJoinStores.f (k : Nat) (l0 : List Int) : Option ((List (S65)) × (List (S65))) := (spec_l20Open.f l0).bind fun bt1320 => ((spec_l20Store.f k bt1320.1 bt1320.2 12).bind fun bt1323 => ((spec_l20Store.f k bt1320.1 bt1323.2.2 12).bind fun bt1328 => (some (bt1323.1, bt1328.1))))
set_option maxHeartbeats 8000000 in
set_option maxRecDepth 100000 in
theorem spec_DrawJoinStores.calls (k : Nat) (A0 : Option Addr) (c0 : Nat) (l0 : List Int) (r1 : List (S65)) (r2 : List (S65)) (w : World) (hr0 : Kd.C (Kd.int .u8) w A0 l0.length l0) (hc0 : l0.length ≤ c0) (h : spec_DrawJoinStores.f k l0 = some (r1, r2)) :
  Calls Try.prog 58 #[.slice A0 l0.length c0] w fun e w' => ∃ v0_ v1_ : Value, e = .returned (.tuple #[v0_, v1_]) ∧ Kd.V k65 65 w' w.heap.size (fun k_ => (w.heap.size ≤ k_)) v0_ r1 ∧ Kd.V k65 65 w' w.heap.size (fun k_ => (w.heap.size ≤ k_)) v1_ r2 ∧ Below w.heap.size w w' := by
 have HR0 := Aside0.mk hr0
 have HC0 := Aside0.mk hc0
 clear hr0 hc0
 have HB := Aside0.mk (Below.refl w.heap.size w)
 have H : ((spec_l20Open.f l0).bind fun bt1320 => ((spec_l20Store.f k bt1320.1 bt1320.2 12).bind fun bt1323 => ((spec_l20Store.f k bt1320.1 bt1323.2.2 12).bind fun bt1328 => (some (bt1323.1, bt1328.1))))) = some (r1, r2) := h
 clear h
 replace H := Option.bind_eq_some_iff.mp H
 obtain ⟨⟨t1320, t1321⟩, A20, H⟩ := H
 replace H : ((spec_l20Store.f k t1320 t1321 12).bind fun bt1323 => ((spec_l20Store.f k t1320 bt1323.2.2 12).bind fun bt1328 => (some (bt1323.1, bt1328.1)))) = some (r1, r2) := H
 have A2 := Aside0.mk A20
 clear A20
 replace H := Option.bind_eq_some_iff.mp H
 obtain ⟨⟨t1323, t1326, t1327⟩, A30, H⟩ := H
 replace H : ((spec_l20Store.f k t1320 t1327 12).bind fun bt1328 => (some (t1323, bt1328.1))) = some (r1, r2) := H
 have A3 := Aside0.mk A30
 clear A30
 replace H := Option.bind_eq_some_iff.mp H
 obtain ⟨⟨t1328, t1331, t1332⟩, A40, H⟩ := H
 replace H : (some (t1323, t1328)) = some (r1, r2) := H
 have A4 := Aside0.mk A40
 clear A40
 simp only [Option.some.injEq, Prod.mk.injEq] at H
 obtain ⟨rfl, rfl⟩ := H
 go_enter Try.func58, Try.ntmps58
 go_wp2_with (first | ((with_reducible refine gate_callee (f := 67) rfl ?_); refine gl_ (some 10) Try.func67 #[.slice A0 l0.length c0] ?_; (with_reducible refine (spec_l20Open.calls _ _ l0 t1320 t1321 w _ ?side1 ?side2 ?side3 A2.out).mono ?_); (case side1 => repeat (first | (with_reducible first | exact HB.out | apply below_alloc | apply pw_below_drewN | apply below_drew1) | exact HB.out)); (case side2 => exact HR0.out); (case side3 => exact HC0.out); rintro e w5 ⟨g1322, rfl, hi, hb, hb2⟩; refine ⟨_, rfl, ?_⟩; replace HB := Aside0.mk (hb); have HI1322 := Aside0.mk (hi); (try clear hb); (try clear hb2); (try clear hk); (try clear hi)) | ((with_reducible refine gate_callee (f := 78) rfl ?_); refine gl_ (some 13) Try.func78 #[.pointer (some ⟨g1322, 0, none⟩), .int .i64 12] ?_; (with_reducible refine (spec_l20Store.calls k g1322 t1320 t1321 12 t1323 t1326 t1327 w _ ?side1 ?side2 A3.out).mono ?_); (case side1 => repeat (first | (with_reducible first | exact HI1322.out | apply IsS91.alloc | apply IsS91.drewN | apply IsS91.drew | apply IsS91.set_1) | exact HI1322.out)); (case side2 => exact hs_ (IsS91.ge HI1322.out)); rintro e w6 ⟨v1324, rfl, ho0, hi, hb, hk⟩; refine ⟨_, rfl, ?_⟩; have HO1325 := Aside0.mk (Kd.V_lower (Kd.V_mono (ok' := fun k_ => (w.heap.size ≤ k_) ∧ k_ ≠ g1322) ho0 (fun k_ hk_ => ⟨(Nat.le_trans (below_size (hs_ (IsS91.ge HI1322.out))) hk_), (IsS91.fresh (by repeat (first | (with_reducible first | exact HI1322.out | apply IsS91.alloc | apply IsS91.drewN | apply IsS91.drew | apply IsS91.set_1) | exact HI1322.out)) k_ hk_)⟩)) (below_size (hs_ (IsS91.ge HI1322.out)))); replace HB := Aside0.mk (hb); replace HI1322 := Aside0.mk (hi); (try clear hb); (try clear hb2); (try clear hk); (try clear hi); (try clear ho0)) | ((with_reducible refine gate_callee (f := 78) rfl ?_); refine gl_ (some 18) Try.func78 #[.pointer (some ⟨g1322, 0, none⟩), .int .i64 12] ?_; (with_reducible refine (spec_l20Store.calls k g1322 t1320 t1327 12 t1328 t1331 t1332 w _ ?side1 ?side2 A4.out).mono ?_); (case side1 => repeat (first | (with_reducible first | exact HI1322.out | apply IsS91.alloc | apply IsS91.drewN | apply IsS91.drew | apply IsS91.set_1) | exact HI1322.out)); (case side2 => exact hs_ (IsS91.ge HI1322.out)); rintro e w7 ⟨v1329, rfl, ho0, hi, hb, hk⟩; refine ⟨_, rfl, ?_⟩; have n0_ := Aside0.mk (Kd.V_mono (Kd.V_keep (Kd.V_mono (ok := fun k_ => (((w.heap.size ≤ k_)) ∧ k_ ≠ g1322)) (kV_ HO1325.out) (fun k_ hk_ => (⟨hk_, hk_.2⟩ : _ ∧ k_ ≠ g1322))) hk (fun _ h => h.2)) (fun _ h => h.1)); have n1_ := Aside0.mk (Kd.V_lower (Kd.V_mono (ok' := fun k_ => (w.heap.size ≤ k_) ∧ k_ ≠ g1322) ho0 (fun k_ hk_ => ⟨(Nat.le_trans (below_size (hs_ (IsS91.ge HI1322.out))) hk_), (IsS91.fresh (by repeat (first | (with_reducible first | exact HI1322.out | apply IsS91.alloc | apply IsS91.drewN | apply IsS91.drew | apply IsS91.set_1) | exact HI1322.out)) k_ hk_)⟩)) (below_size (hs_ (IsS91.ge HI1322.out)))); have n2_ := Aside0.mk (hb); have n3_ := Aside0.mk (hi); clear HO1325; clear HB; clear HI1322; have HO1325 := n0_; have HO1330 := n1_; have HB := n2_; have HI1322 := n3_; clear n0_ n1_ n2_ n3_; (try clear hb); (try clear hb2); (try clear hk); (try clear hi); (try clear ho0)))
 go_ret2
 exact ⟨_, _, by first | rfl | (simp [errW_none, errW_some] <;> rfl) | (simp [*, errW_none, errW_some] <;> rfl), by refine kV_ ?_; exact Kd.V_mono HO1325.out (fun _ hk => hk.1), by refine kV_ ?_; exact Kd.V_mono HO1330.out (fun _ hk => hk.1), hs_ (IsS91.ge HI1322.out)⟩
/-! ### impl_JoinStores: function 59 -/
mutual
def impl_JoinStores.j0 : Nat → List (S65) → List (S65) → Bool → Option ((List (S65)) × Bool)
 | 0, _, _, _ => none
 | k + 1, x0, x1, x18 => if x18 = true then (some (([] : List (S65)), false)) else ((slices_Clone_Piece.f x0).bind fun t1335 => (impl_JoinStores.l0 k t1335 x1 (x1.length : Int) 0))
def impl_JoinStores.l0 : Nat → List (S65) → List (S65) → Int → Int → Option ((List (S65)) × Bool)
 | 0, _, _, _, _ => none
 | k + 1, x6, x21, x22, x23 => if x23 < x22 then (if 0 ≤ x23 then (if x23 < (x21.length : Int) then ((impl_findPiece.f k x6 ((rd_T65 x21 x23).f0)).bind fun bt1340 => (if bt1340.2 = true then (if 0 ≤ bt1340.1 then (if bt1340.1 < (x6.length : Int) then (if ((rd_T65 x6 bt1340.1).f1).toList = ((rd_T65 x21 x23).f1).toList then (impl_JoinStores.l0 k x6 x21 x22 (wrap64 (x23 + 1))) else (some (([] : List (S65)), false))) else (none)) else (none)) else ((slices_Insert_Piece.f x6 bt1340.1 (([(⟨(rd_T65 x21 x23).f0, (rd_T65 x21 x23).f1⟩ : S65)] : List (S65)))).bind fun t1346 => (impl_JoinStores.l0 k t1346 x21 x22 (wrap64 (x23 + 1)))))) else (none)) else (none)) else (if (x6.length : Int) > 40 then (some (([] : List (S65)), false)) else (some (x6, true)))
end
def impl_JoinStores.f (k : Nat) (l0 : List (S65)) (l1 : List (S65)) : Option ((List (S65)) × Bool) := (impl_StoreValid.f k l0).bind fun t1333 => (if t1333 = true then ((impl_StoreValid.f k l1).bind fun t1334 => (impl_JoinStores.j0 k l0 l1 (!t1334))) else (impl_JoinStores.j0 k l0 l1 true))
set_option maxHeartbeats 8000000 in
set_option maxRecDepth 100000 in
theorem impl_JoinStores.calls (k : Nat) (A0 : Option Addr) (c0 : Nat) (l0 : List (S65)) (A1 : Option Addr) (c1 : Nat) (l1 : List (S65)) (r1 : List (S65)) (r2 : Bool) (w : World) (hr0 : Kd.C k65 w A0 l0.length l0) (hc0 : l0.length ≤ c0) (hr1 : Kd.C k65 w A1 l1.length l1) (hc1 : l1.length ≤ c1) (h : impl_JoinStores.f k l0 l1 = some (r1, r2)) :
  Calls Try.prog 59 #[.slice A0 l0.length c0, .slice A1 l1.length c1] w fun e w' => ∃ v0_ : Value, e = .returned (.tuple #[v0_, .bool r2]) ∧ Kd.R k65 65 w' w.heap.size (fun _ => True) v0_ r1 ∧ Below w.heap.size w w' := by
 have hu65 := Try.underlying65
 have HR0 := Aside0.mk hr0
 have HC0 := Aside0.mk hc0
 clear hr0 hc0
 have HR1 := Aside0.mk hr1
 have HC1 := Aside0.mk hc1
 clear hr1 hc1
 have HB := Aside0.mk (Below.refl w.heap.size w)
 have H : ((impl_StoreValid.f k l0).bind fun t1333 => (if t1333 = true then ((impl_StoreValid.f k l1).bind fun t1334 => (impl_JoinStores.j0 k l0 l1 (!t1334))) else (impl_JoinStores.j0 k l0 l1 true))) = some (r1, r2) := h
 clear h
 have HC3 := Aside0.mk H
 clear H
 go_enter Try.func59, Try.ntmps59
 go_upto_region 1 with (fail)
 repeat (go_quiet (fail); go_upto_region 1 with (fail))
 go_cut [18] (fun v18 wc => ∃ (kq : Nat) (x18_2 : Bool), v18 = .bool x18_2 ∧ Aside0 (impl_JoinStores.j0 kq l0 l1 x18_2 = some (r1, r2)) ∧ Aside0 (kq ≤ k) ∧ Aside0 (Below w.heap.size w wc))
 case first =>
  have H := HC3.out
  clear HC3
  replace H := Option.bind_eq_some_iff.mp H
  obtain ⟨t1333, A40, H⟩ := H
  replace H : (if t1333 = true then ((impl_StoreValid.f k l1).bind fun t1334 => (impl_JoinStores.j0 k l0 l1 (!t1334))) else (impl_JoinStores.j0 k l0 l1 true)) = some (r1, r2) := H
  have A4 := Aside0.mk A40
  clear A40
  by_cases c5 : t1333 = true
  ·subst c5
   have H1 : ((impl_StoreValid.f k l1).bind fun t1334 => (impl_JoinStores.j0 k l0 l1 (!t1334))) = some (r1, r2) := by rw [if_pos rfl] at H; exact H
   clear H
   have H := H1
   clear H1
   replace H := Option.bind_eq_some_iff.mp H
   obtain ⟨t1334, A60, H⟩ := H
   replace H : (impl_JoinStores.j0 k l0 l1 (!t1334)) = some (r1, r2) := H
   have A6 := Aside0.mk A60
   clear A60
   have H' := Aside0.mk H
   clear H
   go_wp2_with (first | (go_at_call 53; (with_reducible refine (impl_StoreValid.calls k _ _ l0 true _ ?side1 ?side2 A4.out).mono ?_); (case side1 => exact kC_ (Kd.C_below HR0.out HB.out)); (case side2 => exact HC0.out); rintro e w7 ⟨rfl, hb⟩; replace HB := Aside0.mk (below_step hb_ hb); (try clear hb)) | (go_at_call 53; (with_reducible refine (impl_StoreValid.calls k _ _ l1 t1334 _ ?side1 ?side2 A6.out).mono ?_); (case side1 => exact kC_ (Kd.C_below HR1.out HB.out)); (case side2 => exact HC1.out); rintro e w8 ⟨rfl, hb⟩; replace HB := Aside0.mk (below_step hb_ hb); (try clear hb)))
   repeat (go_quiet (first | (go_at_call 53; (with_reducible refine (impl_StoreValid.calls k _ _ l0 true _ ?side1 ?side2 A4.out).mono ?_); (case side1 => exact kC_ (Kd.C_below HR0.out HB.out)); (case side2 => exact HC0.out); rintro e w7 ⟨rfl, hb⟩; replace HB := Aside0.mk (below_step hb_ hb); (try clear hb)) | (go_at_call 53; (with_reducible refine (impl_StoreValid.calls k _ _ l1 t1334 _ ?side1 ?side2 A6.out).mono ?_); (case side1 => exact kC_ (Kd.C_below HR1.out HB.out)); (case side2 => exact HC1.out); rintro e w8 ⟨rfl, hb⟩; replace HB := Aside0.mk (below_step hb_ hb); (try clear hb))); try go_wp2_with (first | (go_at_call 53; (with_reducible refine (impl_StoreValid.calls k _ _ l0 true _ ?side1 ?side2 A4.out).mono ?_); (case side1 => exact kC_ (Kd.C_below HR0.out HB.out)); (case side2 => exact HC0.out); rintro e w7 ⟨rfl, hb⟩; replace HB := Aside0.mk (below_step hb_ hb); (try clear hb)) | (go_at_call 53; (with_reducible refine (impl_StoreValid.calls k _ _ l1 t1334 _ ?side1 ?side2 A6.out).mono ?_); (case side1 => exact kC_ (Kd.C_below HR1.out HB.out)); (case side2 => exact HC1.out); rintro e w8 ⟨rfl, hb⟩; replace HB := Aside0.mk (below_step hb_ hb); (try clear hb))))
   go_meet
   case rel => exact ⟨_, (!t1334), rs_, H', ⟨by first | omega | exact Nat.le_refl _⟩, ⟨hb_⟩⟩
  ·replace c5 := Bool.eq_false_iff.mpr c5
   subst c5
   have H1 : (impl_JoinStores.j0 k l0 l1 true) = some (r1, r2) := by rw [if_neg (show ¬ (false = true) by decide)] at H; exact H
   clear H
   have H := H1
   clear H1
   have H' := Aside0.mk H
   clear H
   go_wp2_with (first | (go_at_call 53; (with_reducible refine (impl_StoreValid.calls k _ _ l0 false _ ?side1 ?side2 A4.out).mono ?_); (case side1 => exact kC_ (Kd.C_below HR0.out HB.out)); (case side2 => exact HC0.out); rintro e w9 ⟨rfl, hb⟩; replace HB := Aside0.mk (below_step hb_ hb); (try clear hb)))
   repeat (go_quiet (first | (go_at_call 53; (with_reducible refine (impl_StoreValid.calls k _ _ l0 false _ ?side1 ?side2 A4.out).mono ?_); (case side1 => exact kC_ (Kd.C_below HR0.out HB.out)); (case side2 => exact HC0.out); rintro e w9 ⟨rfl, hb⟩; replace HB := Aside0.mk (below_step hb_ hb); (try clear hb))); try go_wp2_with (first | (go_at_call 53; (with_reducible refine (impl_StoreValid.calls k _ _ l0 false _ ?side1 ?side2 A4.out).mono ?_); (case side1 => exact kC_ (Kd.C_below HR0.out HB.out)); (case side2 => exact HC0.out); rintro e w9 ⟨rfl, hb⟩; replace HB := Aside0.mk (below_step hb_ hb); (try clear hb))))
   go_meet
   case rel => exact ⟨_, (true), rs_, H', ⟨by first | omega | exact Nat.le_refl _⟩, ⟨hb_⟩⟩
 case rest =>
  clear HC3
  try clear c1
  try clear p2
  try clear c5
  obtain ⟨kq, x18_2, rfl, HA, HJ2, HB⟩ := hcut
  cases kq with
  | zero => exact absurd HA.out (by simp [impl_JoinStores.j0])
  | succ kj2 =>
   have H := HA.out
   clear HA
   simp only [impl_JoinStores.j0] at H
   by_cases c10 : x18_2 = true
   ·subst c10
    have H1 : (some (([] : List (S65)), false)) = some (r1, r2) := by rw [if_pos rfl] at H; exact H
    clear H
    have H := H1
    clear H1
    simp only [Option.some.injEq, Prod.mk.injEq] at H
    obtain ⟨rfl, rfl⟩ := H
    go_wp2
    repeat (go_quiet (fail); try go_wp2)
    go_ret2
    exact ⟨_, er_, by first | exact Kd.R_nil _ _ _ _ _ | exact Kd.N_nil _ _ _ _ _ | exact Kd.V_nil _ _ _ _ _ | exact Kd.Q_nil _ _ _ _ _ | exact Kd.S_nil _ _ _ _ _, hb_⟩
   ·replace c10 := Bool.eq_false_iff.mpr c10
    subst c10
    have H1 : ((slices_Clone_Piece.f l0).bind fun t1335 => (impl_JoinStores.l0 kj2 t1335 l1 (l1.length : Int) 0)) = some (r1, r2) := by rw [if_neg (show ¬ (false = true) by decide)] at H; exact H
    clear H
    have H := H1
    clear H1
    replace H := Option.bind_eq_some_iff.mp H
    obtain ⟨t1335, A110, H⟩ := H
    replace H : (impl_JoinStores.l0 kj2 t1335 l1 (l1.length : Int) 0) = some (r1, r2) := H
    have A11 := Aside0.mk A110
    clear A110
    have H' := Aside0.mk H
    clear H
    go_wp2_with (first | (go_at_call 80; (with_reducible refine (slices_Clone_Piece.calls _ _ l0 t1335 _ ?side1 ?side2 A11.out).mono ?_); (case side1 => exact kC_ (Kd.C_below HR0.out HB.out)); (case side2 => exact HC0.out); rintro e w12 ⟨v1336, rfl, ho0, hb⟩; have HO1337 := Aside0.mk (Kd.R_lower ho0 (below_size hb_)); replace HB := Aside0.mk (below_step hb_ hb); (try clear hb); (try clear ho0)))
    repeat (go_quiet (first | (go_at_call 80; (with_reducible refine (slices_Clone_Piece.calls _ _ l0 t1335 _ ?side1 ?side2 A11.out).mono ?_); (case side1 => exact kC_ (Kd.C_below HR0.out HB.out)); (case side2 => exact HC0.out); rintro e w12 ⟨v1336, rfl, ho0, hb⟩; have HO1337 := Aside0.mk (Kd.R_lower ho0 (below_size hb_)); replace HB := Aside0.mk (below_step hb_ hb); (try clear hb); (try clear ho0))); try go_wp2_with (first | (go_at_call 80; (with_reducible refine (slices_Clone_Piece.calls _ _ l0 t1335 _ ?side1 ?side2 A11.out).mono ?_); (case side1 => exact kC_ (Kd.C_below HR0.out HB.out)); (case side2 => exact HC0.out); rintro e w12 ⟨v1336, rfl, ho0, hb⟩; have HO1337 := Aside0.mk (Kd.R_lower ho0 (below_size hb_)); replace HB := Aside0.mk (below_step hb_ hb); (try clear hb); (try clear ho0))))
    go_loopg [6, 23] kj2 (fun kq v6 v23 w' => ∃ (x6_2 : List (S65)) (x23_2 : Int), v23 = .int .i64 x23_2 ∧ Aside0 (impl_JoinStores.l0 kq x6_2 l1 (l1.length : Int) x23_2 = some (r1, r2)) ∧ Aside0 (kq ≤ kj2) ∧ Aside0 (Kd.R k65 65 w' w.heap.size (fun _ => True) v6 x6_2) ∧ Aside0 (Below w.heap.size w w'))
    case atStart => exact ⟨(t1335), (0), rs_, H', ⟨Nat.le_refl _⟩, ⟨by refine kR_ ?_; exact HO1337.out⟩, ⟨hb_⟩⟩
    case round =>
     clear H'
     try clear c1
     try clear p2
     try clear c5
     try clear c10
     try clear p2
     obtain ⟨x6_2, x23_2, rfl, HA, HK2, HO_6, HB⟩ := hrel
     cases gk with
     | zero => exact absurd HA.out (by simp [impl_JoinStores.l0])
     | succ k2 =>
      have H := HA.out
      clear HA
      simp only [impl_JoinStores.l0] at H
      by_cases c13 : x23_2 < (l1.length : Int)
      ·rw [if_pos c13] at H
       have c13b0 : decide (x23_2 < (l1.length : Int)) = true := decide_eq_true c13
       clear c13
       by_cases c14 : 0 ≤ x23_2; rotate_left
       ·rw [if_neg c14] at H; exact absurd H (by simp)
       rw [if_pos c14] at H
       have c14b0 : decide (0 ≤ x23_2) = true := decide_eq_true c14
       clear c14
       by_cases c15 : x23_2 < (l1.length : Int); rotate_left
       ·rw [if_neg c15] at H; exact absurd H (by simp)
       rw [if_pos c15] at H
       have c15b0 : decide (x23_2 < (l1.length : Int)) = true := decide_eq_true c15
       clear c15
       replace H := Option.bind_eq_some_iff.mp H
       obtain ⟨⟨t1340, t1341⟩, A160, H⟩ := H
       replace H : (if t1341 = true then (if 0 ≤ t1340 then (if t1340 < (x6_2.length : Int) then (if ((rd_T65 x6_2 t1340).f1).toList = ((rd_T65 l1 x23_2).f1).toList then (impl_JoinStores.l0 k2 x6_2 l1 (l1.length : Int) (wrap64 (x23_2 + 1))) else (some (([] : List (S65)), false))) else (none)) else (none)) else ((slices_Insert_Piece.f x6_2 t1340 (([(⟨(rd_T65 l1 x23_2).f0, (rd_T65 l1 x23_2).f1⟩ : S65)] : List (S65)))).bind fun t1346 => (impl_JoinStores.l0 k2 t1346 l1 (l1.length : Int) (wrap64 (x23_2 + 1))))) = some (r1, r2) := H
       have A16 := Aside0.mk A160
       clear A160
       by_cases c17 : t1341 = true
       ·subst c17
        have H1 : (if 0 ≤ t1340 then (if t1340 < (x6_2.length : Int) then (if ((rd_T65 x6_2 t1340).f1).toList = ((rd_T65 l1 x23_2).f1).toList then (impl_JoinStores.l0 k2 x6_2 l1 (l1.length : Int) (wrap64 (x23_2 + 1))) else (some (([] : List (S65)), false))) else (none)) else (none)) = some (r1, r2) := by rw [if_pos rfl] at H; exact H
        clear H
        have H := H1
        clear H1
        by_cases c18 : 0 ≤ t1340; rotate_left
        ·rw [if_neg c18] at H; exact absurd H (by simp)
        rw [if_pos c18] at H
        have c18b0 : decide (0 ≤ t1340) = true := decide_eq_true c18
        clear c18
        by_cases c19 : t1340 < (x6_2.length : Int); rotate_left
        ·rw [if_neg c19] at H; exact absurd H (by simp)
        rw [if_pos c19] at H
        have c19b0 : decide (t1340 < (x6_2.length : Int)) = true := decide_eq_true c19
        clear c19
        by_cases c20 : ((rd_T65 x6_2 t1340).f1).toList = ((rd_T65 l1 x23_2).f1).toList
        ·rw [if_pos c20] at H
         have c20b0 : (((rd_T65 x6_2 t1340).f1).toList == ((rd_T65 l1 x23_2).f1).toList) = true := beq_iff_eq.mpr c20
         have c20b1 : (((rd_T65 x6_2 t1340).f1).toList != ((rd_T65 l1 x23_2).f1).toList) = false := bne_eq_false_iff_eq.mpr c20
         clear c20
         have H' := Aside0.mk H
         clear H
         have p1338 : 0 ≤ (x23_2 : Int) := dt_
         have q1338 : x23_2 < (l1.length : Int) := dt_
         obtain ⟨ad1338, e1338, hx1338_0, hx1338_1⟩ := at_T65 HR1.out x23_2 p1338 q1338
         cases e1338
         replace hx1338_0 := cb_ HB.out hx1338_0
         replace hx1338_1 := cb_ HB.out hx1338_1
         replace p1338 := eq_true p1338
         replace q1338 := eq_true q1338
         go_wp2_with (first | ((with_reducible refine gate_dst (N := 8) rfl ?_); refine box_event ?hg (N := 8) ?hd (cs := #[.int .i64 0, .string (⟨#[]⟩ : ByteArray)]) (t := 65) ?hr ?_; (case hd => rfl); (case hg => rfl); (case hr => first | (go_simp; done) | (go_simp; rfl)); intro gb1339 hg w21 hbox hb; have n0_ := Aside0.mk (Kd.R_below (Kd.R_elderB (kR_ HO_6.out) gb1339 (Nat.le_of_eq hg.symm)) hb); have n1_ := Aside0.mk (below_step hb_ hb); have n2_ := Aside0.mk (hbox); have n3_ := Aside0.mk ((by rw [hg]; exact (below_size hb_) : w.heap.size ≤ gb1339)); have n4_ := Aside0.mk ((by rw [hg]; exact (below_size hb_) : w.heap.size ≤ gb1339)); clear HO_6; clear HB; have HO_6 := n0_; have HB := n1_; have BK1339 := n2_; have GW1339 := n3_; have GE1339 := n4_; clear n0_ n1_ n2_ n3_ n4_; clear hb hbox hg; have hcz22_0 : w21.cell? ⟨gb1339, 0, none⟩ = some (.int .i64 0) := (blk_cell BK1339.out 0).trans rfl; have hcz22_1 : w21.cell? ⟨gb1339, 1, none⟩ = some (.string (⟨#[]⟩ : ByteArray)) := (blk_cell BK1339.out 1).trans rfl; have hfz22_0 := blk_frozen BK1339.out 0; have hfz22_1 := blk_frozen BK1339.out 1; obtain ⟨Ao23, co23, eo23⟩ := Kd.R_slice HO_6.out; subst eo23) | (go_at_call 81; (with_reducible refine (impl_findPiece.calls k2 _ _ x6_2 ((rd_T65 l1 x23_2).f0) t1340 true _ ?side1 ?side2 A16.out).mono ?_); (case side1 => refine (Kd.R_reads' (e := 65) (base := w.heap.size) (ok := fun k_ => (True ∧ k_ ≠ gb1339)) (n := x6_2.length) (c := co23) ?_).2.2; exact (by refine kR_ ?_; exact (Kd.R_mono (Kd.R_far (p := ⟨gb1339, 1, none⟩) (Kd.R_far (p := ⟨gb1339, 0, none⟩) (Kd.R_mono HO_6.out (fun k_ hk => (⟨hk, hk.2⟩ : _ ∧ k_ ≠ gb1339))) (fun _ hk => hk.2) (.int .i64 ((rd_T65 l1 x23_2).f0))) (fun _ hk => hk.2) (.string ((rd_T65 l1 x23_2).f1))) (fun _ h_ => h_.1)))); (case side2 => exact (Kd.R_reads' HO_6.out).2.1); rintro e w24 ⟨rfl, hb⟩; have n0_ := Aside0.mk (Kd.R_below (by refine kR_ ?_; exact (Kd.R_mono (Kd.R_far (p := ⟨gb1339, 1, none⟩) (Kd.R_far (p := ⟨gb1339, 0, none⟩) (Kd.R_mono HO_6.out (fun k_ hk => (⟨hk, hk.2⟩ : _ ∧ k_ ≠ gb1339))) (fun _ hk => hk.2) (.int .i64 ((rd_T65 l1 x23_2).f0))) (fun _ hk => hk.2) (.string ((rd_T65 l1 x23_2).f1))) (fun _ h_ => h_.1))) hb); have n1_ := Aside0.mk (blk_below (g := gb1339) (o := .cells #[.int .i64 ((rd_T65 l1 x23_2).f0), .string ((rd_T65 l1 x23_2).f1)] 65 (0, 0)) (by (with_reducible repeat (first | refine blk_drewN ?_ _ | refine blk_drew ?_ | refine blk_alloc ?_ _)); refine blk_put (cs := #[.int .i64 ((rd_T65 l1 x23_2).f0), .string (⟨#[]⟩ : ByteArray)]) ?_ 1 _ rfl; (with_reducible repeat (first | refine blk_drewN ?_ _ | refine blk_drew ?_ | refine blk_alloc ?_ _)); refine blk_put (cs := #[.int .i64 0, .string (⟨#[]⟩ : ByteArray)]) ?_ 0 _ rfl; (with_reducible repeat (first | refine blk_drewN ?_ _ | refine blk_drew ?_ | refine blk_alloc ?_ _)); exact BK1339.out) hb); have n2_ := Aside0.mk (below_step (hs_ GE1339.out) hb); clear HO_6; clear BK1339; clear HB; have HO_6 := n0_; have BK1339 := n1_; have HB := n2_; clear n0_ n1_ n2_; (try clear hb); (try clear hk); have p1342 : 0 ≤ (t1340 : Int) := dt_; have q1342 : t1340 < (x6_2.length : Int) := dt_; obtain ⟨ad1342, e1342, hx1342_0, hx1342_1⟩ := at_T65 (Kd.R_reads' HO_6.out).2.2 t1340 p1342 q1342; cases e1342; replace p1342 := eq_true p1342; replace q1342 := eq_true q1342; have hcz25_0 : w24.cell? ⟨gb1339, 0, none⟩ = some (.int .i64 ((rd_T65 l1 x23_2).f0)) := (blk_cell BK1339.out 0).trans rfl; have hcz25_1 : w24.cell? ⟨gb1339, 1, none⟩ = some (.string ((rd_T65 l1 x23_2).f1)) := (blk_cell BK1339.out 1).trans rfl; have hfz25_0 := blk_frozen BK1339.out 0; have hfz25_1 := blk_frozen BK1339.out 1))
         repeat (go_quiet (first | ((with_reducible refine gate_dst (N := 8) rfl ?_); refine box_event ?hg (N := 8) ?hd (cs := #[.int .i64 0, .string (⟨#[]⟩ : ByteArray)]) (t := 65) ?hr ?_; (case hd => rfl); (case hg => rfl); (case hr => first | (go_simp; done) | (go_simp; rfl)); intro gb1339 hg w21 hbox hb; have n0_ := Aside0.mk (Kd.R_below (Kd.R_elderB (kR_ HO_6.out) gb1339 (Nat.le_of_eq hg.symm)) hb); have n1_ := Aside0.mk (below_step hb_ hb); have n2_ := Aside0.mk (hbox); have n3_ := Aside0.mk ((by rw [hg]; exact (below_size hb_) : w.heap.size ≤ gb1339)); have n4_ := Aside0.mk ((by rw [hg]; exact (below_size hb_) : w.heap.size ≤ gb1339)); clear HO_6; clear HB; have HO_6 := n0_; have HB := n1_; have BK1339 := n2_; have GW1339 := n3_; have GE1339 := n4_; clear n0_ n1_ n2_ n3_ n4_; clear hb hbox hg; have hcz22_0 : w21.cell? ⟨gb1339, 0, none⟩ = some (.int .i64 0) := (blk_cell BK1339.out 0).trans rfl; have hcz22_1 : w21.cell? ⟨gb1339, 1, none⟩ = some (.string (⟨#[]⟩ : ByteArray)) := (blk_cell BK1339.out 1).trans rfl; have hfz22_0 := blk_frozen BK1339.out 0; have hfz22_1 := blk_frozen BK1339.out 1; obtain ⟨Ao23, co23, eo23⟩ := Kd.R_slice HO_6.out; subst eo23) | (go_at_call 81; (with_reducible refine (impl_findPiece.calls k2 _ _ x6_2 ((rd_T65 l1 x23_2).f0) t1340 true _ ?side1 ?side2 A16.out).mono ?_); (case side1 => refine (Kd.R_reads' (e := 65) (base := w.heap.size) (ok := fun k_ => (True ∧ k_ ≠ gb1339)) (n := x6_2.length) (c := co23) ?_).2.2; exact (by refine kR_ ?_; exact (Kd.R_mono (Kd.R_far (p := ⟨gb1339, 1, none⟩) (Kd.R_far (p := ⟨gb1339, 0, none⟩) (Kd.R_mono HO_6.out (fun k_ hk => (⟨hk, hk.2⟩ : _ ∧ k_ ≠ gb1339))) (fun _ hk => hk.2) (.int .i64 ((rd_T65 l1 x23_2).f0))) (fun _ hk => hk.2) (.string ((rd_T65 l1 x23_2).f1))) (fun _ h_ => h_.1)))); (case side2 => exact (Kd.R_reads' HO_6.out).2.1); rintro e w24 ⟨rfl, hb⟩; have n0_ := Aside0.mk (Kd.R_below (by refine kR_ ?_; exact (Kd.R_mono (Kd.R_far (p := ⟨gb1339, 1, none⟩) (Kd.R_far (p := ⟨gb1339, 0, none⟩) (Kd.R_mono HO_6.out (fun k_ hk => (⟨hk, hk.2⟩ : _ ∧ k_ ≠ gb1339))) (fun _ hk => hk.2) (.int .i64 ((rd_T65 l1 x23_2).f0))) (fun _ hk => hk.2) (.string ((rd_T65 l1 x23_2).f1))) (fun _ h_ => h_.1))) hb); have n1_ := Aside0.mk (blk_below (g := gb1339) (o := .cells #[.int .i64 ((rd_T65 l1 x23_2).f0), .string ((rd_T65 l1 x23_2).f1)] 65 (0, 0)) (by (with_reducible repeat (first | refine blk_drewN ?_ _ | refine blk_drew ?_ | refine blk_alloc ?_ _)); refine blk_put (cs := #[.int .i64 ((rd_T65 l1 x23_2).f0), .string (⟨#[]⟩ : ByteArray)]) ?_ 1 _ rfl; (with_reducible repeat (first | refine blk_drewN ?_ _ | refine blk_drew ?_ | refine blk_alloc ?_ _)); refine blk_put (cs := #[.int .i64 0, .string (⟨#[]⟩ : ByteArray)]) ?_ 0 _ rfl; (with_reducible repeat (first | refine blk_drewN ?_ _ | refine blk_drew ?_ | refine blk_alloc ?_ _)); exact BK1339.out) hb); have n2_ := Aside0.mk (below_step (hs_ GE1339.out) hb); clear HO_6; clear BK1339; clear HB; have HO_6 := n0_; have BK1339 := n1_; have HB := n2_; clear n0_ n1_ n2_; (try clear hb); (try clear hk); have p1342 : 0 ≤ (t1340 : Int) := dt_; have q1342 : t1340 < (x6_2.length : Int) := dt_; obtain ⟨ad1342, e1342, hx1342_0, hx1342_1⟩ := at_T65 (Kd.R_reads' HO_6.out).2.2 t1340 p1342 q1342; cases e1342; replace p1342 := eq_true p1342; replace q1342 := eq_true q1342; have hcz25_0 : w24.cell? ⟨gb1339, 0, none⟩ = some (.int .i64 ((rd_T65 l1 x23_2).f0)) := (blk_cell BK1339.out 0).trans rfl; have hcz25_1 : w24.cell? ⟨gb1339, 1, none⟩ = some (.string ((rd_T65 l1 x23_2).f1)) := (blk_cell BK1339.out 1).trans rfl; have hfz25_0 := blk_frozen BK1339.out 0; have hfz25_1 := blk_frozen BK1339.out 1)); try go_wp2_with (first | ((with_reducible refine gate_dst (N := 8) rfl ?_); refine box_event ?hg (N := 8) ?hd (cs := #[.int .i64 0, .string (⟨#[]⟩ : ByteArray)]) (t := 65) ?hr ?_; (case hd => rfl); (case hg => rfl); (case hr => first | (go_simp; done) | (go_simp; rfl)); intro gb1339 hg w21 hbox hb; have n0_ := Aside0.mk (Kd.R_below (Kd.R_elderB (kR_ HO_6.out) gb1339 (Nat.le_of_eq hg.symm)) hb); have n1_ := Aside0.mk (below_step hb_ hb); have n2_ := Aside0.mk (hbox); have n3_ := Aside0.mk ((by rw [hg]; exact (below_size hb_) : w.heap.size ≤ gb1339)); have n4_ := Aside0.mk ((by rw [hg]; exact (below_size hb_) : w.heap.size ≤ gb1339)); clear HO_6; clear HB; have HO_6 := n0_; have HB := n1_; have BK1339 := n2_; have GW1339 := n3_; have GE1339 := n4_; clear n0_ n1_ n2_ n3_ n4_; clear hb hbox hg; have hcz22_0 : w21.cell? ⟨gb1339, 0, none⟩ = some (.int .i64 0) := (blk_cell BK1339.out 0).trans rfl; have hcz22_1 : w21.cell? ⟨gb1339, 1, none⟩ = some (.string (⟨#[]⟩ : ByteArray)) := (blk_cell BK1339.out 1).trans rfl; have hfz22_0 := blk_frozen BK1339.out 0; have hfz22_1 := blk_frozen BK1339.out 1; obtain ⟨Ao23, co23, eo23⟩ := Kd.R_slice HO_6.out; subst eo23) | (go_at_call 81; (with_reducible refine (impl_findPiece.calls k2 _ _ x6_2 ((rd_T65 l1 x23_2).f0) t1340 true _ ?side1 ?side2 A16.out).mono ?_); (case side1 => refine (Kd.R_reads' (e := 65) (base := w.heap.size) (ok := fun k_ => (True ∧ k_ ≠ gb1339)) (n := x6_2.length) (c := co23) ?_).2.2; exact (by refine kR_ ?_; exact (Kd.R_mono (Kd.R_far (p := ⟨gb1339, 1, none⟩) (Kd.R_far (p := ⟨gb1339, 0, none⟩) (Kd.R_mono HO_6.out (fun k_ hk => (⟨hk, hk.2⟩ : _ ∧ k_ ≠ gb1339))) (fun _ hk => hk.2) (.int .i64 ((rd_T65 l1 x23_2).f0))) (fun _ hk => hk.2) (.string ((rd_T65 l1 x23_2).f1))) (fun _ h_ => h_.1)))); (case side2 => exact (Kd.R_reads' HO_6.out).2.1); rintro e w24 ⟨rfl, hb⟩; have n0_ := Aside0.mk (Kd.R_below (by refine kR_ ?_; exact (Kd.R_mono (Kd.R_far (p := ⟨gb1339, 1, none⟩) (Kd.R_far (p := ⟨gb1339, 0, none⟩) (Kd.R_mono HO_6.out (fun k_ hk => (⟨hk, hk.2⟩ : _ ∧ k_ ≠ gb1339))) (fun _ hk => hk.2) (.int .i64 ((rd_T65 l1 x23_2).f0))) (fun _ hk => hk.2) (.string ((rd_T65 l1 x23_2).f1))) (fun _ h_ => h_.1))) hb); have n1_ := Aside0.mk (blk_below (g := gb1339) (o := .cells #[.int .i64 ((rd_T65 l1 x23_2).f0), .string ((rd_T65 l1 x23_2).f1)] 65 (0, 0)) (by (with_reducible repeat (first | refine blk_drewN ?_ _ | refine blk_drew ?_ | refine blk_alloc ?_ _)); refine blk_put (cs := #[.int .i64 ((rd_T65 l1 x23_2).f0), .string (⟨#[]⟩ : ByteArray)]) ?_ 1 _ rfl; (with_reducible repeat (first | refine blk_drewN ?_ _ | refine blk_drew ?_ | refine blk_alloc ?_ _)); refine blk_put (cs := #[.int .i64 0, .string (⟨#[]⟩ : ByteArray)]) ?_ 0 _ rfl; (with_reducible repeat (first | refine blk_drewN ?_ _ | refine blk_drew ?_ | refine blk_alloc ?_ _)); exact BK1339.out) hb); have n2_ := Aside0.mk (below_step (hs_ GE1339.out) hb); clear HO_6; clear BK1339; clear HB; have HO_6 := n0_; have BK1339 := n1_; have HB := n2_; clear n0_ n1_ n2_; (try clear hb); (try clear hk); have p1342 : 0 ≤ (t1340 : Int) := dt_; have q1342 : t1340 < (x6_2.length : Int) := dt_; obtain ⟨ad1342, e1342, hx1342_0, hx1342_1⟩ := at_T65 (Kd.R_reads' HO_6.out).2.2 t1340 p1342 q1342; cases e1342; replace p1342 := eq_true p1342; replace q1342 := eq_true q1342; have hcz25_0 : w24.cell? ⟨gb1339, 0, none⟩ = some (.int .i64 ((rd_T65 l1 x23_2).f0)) := (blk_cell BK1339.out 0).trans rfl; have hcz25_1 : w24.cell? ⟨gb1339, 1, none⟩ = some (.string ((rd_T65 l1 x23_2).f1)) := (blk_cell BK1339.out 1).trans rfl; have hfz25_0 := blk_frozen BK1339.out 0; have hfz25_1 := blk_frozen BK1339.out 1)))
         go_roundg k2
         case measure => have := HJ2.out; have := HK2.out; omega
         case rel => exact ⟨(x6_2), (wrap64 (x23_2 + 1)), rs_, H', ⟨by have := HJ2.out; have := HK2.out; omega⟩, ⟨by refine kR_ ?_; exact Kd.R_mono HO_6.out (fun _ hk => trivial)⟩, ⟨by repeat (first | (with_reducible first | exact HB.out | apply below_alloc | apply pw_below_drewN | apply below_drew1 | refine below_set ?_ GE1339.out) | exact HB.out)⟩⟩
        ·rw [if_neg c20] at H
         have c20b0 : (((rd_T65 x6_2 t1340).f1).toList == ((rd_T65 l1 x23_2).f1).toList) = false := beq_eq_false_iff_ne.mpr c20
         have c20b1 : (((rd_T65 x6_2 t1340).f1).toList != ((rd_T65 l1 x23_2).f1).toList) = true := bne_iff_ne.mpr c20
         simp only [Option.some.injEq, Prod.mk.injEq] at H
         obtain ⟨rfl, rfl⟩ := H
         have p1338 : 0 ≤ (x23_2 : Int) := dt_
         have q1338 : x23_2 < (l1.length : Int) := dt_
         obtain ⟨ad1338, e1338, hx1338_0, hx1338_1⟩ := at_T65 HR1.out x23_2 p1338 q1338
         cases e1338
         replace hx1338_0 := cb_ HB.out hx1338_0
         replace hx1338_1 := cb_ HB.out hx1338_1
         replace p1338 := eq_true p1338
         replace q1338 := eq_true q1338
         go_wp2_with (first | ((with_reducible refine gate_dst (N := 8) rfl ?_); refine box_event ?hg (N := 8) ?hd (cs := #[.int .i64 0, .string (⟨#[]⟩ : ByteArray)]) (t := 65) ?hr ?_; (case hd => rfl); (case hg => rfl); (case hr => first | (go_simp; done) | (go_simp; rfl)); intro gb1339 hg w26 hbox hb; have n0_ := Aside0.mk (Kd.R_below (Kd.R_elderB (kR_ HO_6.out) gb1339 (Nat.le_of_eq hg.symm)) hb); have n1_ := Aside0.mk (below_step hb_ hb); have n2_ := Aside0.mk (hbox); have n3_ := Aside0.mk ((by rw [hg]; exact (below_size hb_) : w.heap.size ≤ gb1339)); have n4_ := Aside0.mk ((by rw [hg]; exact (below_size hb_) : w.heap.size ≤ gb1339)); clear HO_6; clear HB; have HO_6 := n0_; have HB := n1_; have BK1339 := n2_; have GW1339 := n3_; have GE1339 := n4_; clear n0_ n1_ n2_ n3_ n4_; clear hb hbox hg; have hcz27_0 : w26.cell? ⟨gb1339, 0, none⟩ = some (.int .i64 0) := (blk_cell BK1339.out 0).trans rfl; have hcz27_1 : w26.cell? ⟨gb1339, 1, none⟩ = some (.string (⟨#[]⟩ : ByteArray)) := (blk_cell BK1339.out 1).trans rfl; have hfz27_0 := blk_frozen BK1339.out 0; have hfz27_1 := blk_frozen BK1339.out 1; obtain ⟨Ao28, co28, eo28⟩ := Kd.R_slice HO_6.out; subst eo28) | (go_at_call 81; (with_reducible refine (impl_findPiece.calls k2 _ _ x6_2 ((rd_T65 l1 x23_2).f0) t1340 true _ ?side1 ?side2 A16.out).mono ?_); (case side1 => refine (Kd.R_reads' (e := 65) (base := w.heap.size) (ok := fun k_ => (True ∧ k_ ≠ gb1339)) (n := x6_2.length) (c := co28) ?_).2.2; exact (by refine kR_ ?_; exact (Kd.R_mono (Kd.R_far (p := ⟨gb1339, 1, none⟩) (Kd.R_far (p := ⟨gb1339, 0, none⟩) (Kd.R_mono HO_6.out (fun k_ hk => (⟨hk, hk.2⟩ : _ ∧ k_ ≠ gb1339))) (fun _ hk => hk.2) (.int .i64 ((rd_T65 l1 x23_2).f0))) (fun _ hk => hk.2) (.string ((rd_T65 l1 x23_2).f1))) (fun _ h_ => h_.1)))); (case side2 => exact (Kd.R_reads' HO_6.out).2.1); rintro e w29 ⟨rfl, hb⟩; have n0_ := Aside0.mk (Kd.R_below (by refine kR_ ?_; exact (Kd.R_mono (Kd.R_far (p := ⟨gb1339, 1, none⟩) (Kd.R_far (p := ⟨gb1339, 0, none⟩) (Kd.R_mono HO_6.out (fun k_ hk => (⟨hk, hk.2⟩ : _ ∧ k_ ≠ gb1339))) (fun _ hk => hk.2) (.int .i64 ((rd_T65 l1 x23_2).f0))) (fun _ hk => hk.2) (.string ((rd_T65 l1 x23_2).f1))) (fun _ h_ => h_.1))) hb); have n1_ := Aside0.mk (blk_below (g := gb1339) (o := .cells #[.int .i64 ((rd_T65 l1 x23_2).f0), .string ((rd_T65 l1 x23_2).f1)] 65 (0, 0)) (by (with_reducible repeat (first | refine blk_drewN ?_ _ | refine blk_drew ?_ | refine blk_alloc ?_ _)); refine blk_put (cs := #[.int .i64 ((rd_T65 l1 x23_2).f0), .string (⟨#[]⟩ : ByteArray)]) ?_ 1 _ rfl; (with_reducible repeat (first | refine blk_drewN ?_ _ | refine blk_drew ?_ | refine blk_alloc ?_ _)); refine blk_put (cs := #[.int .i64 0, .string (⟨#[]⟩ : ByteArray)]) ?_ 0 _ rfl; (with_reducible repeat (first | refine blk_drewN ?_ _ | refine blk_drew ?_ | refine blk_alloc ?_ _)); exact BK1339.out) hb); have n2_ := Aside0.mk (below_step (hs_ GE1339.out) hb); clear HO_6; clear BK1339; clear HB; have HO_6 := n0_; have BK1339 := n1_; have HB := n2_; clear n0_ n1_ n2_; (try clear hb); (try clear hk); have p1342 : 0 ≤ (t1340 : Int) := dt_; have q1342 : t1340 < (x6_2.length : Int) := dt_; obtain ⟨ad1342, e1342, hx1342_0, hx1342_1⟩ := at_T65 (Kd.R_reads' HO_6.out).2.2 t1340 p1342 q1342; cases e1342; replace p1342 := eq_true p1342; replace q1342 := eq_true q1342; have hcz30_0 : w29.cell? ⟨gb1339, 0, none⟩ = some (.int .i64 ((rd_T65 l1 x23_2).f0)) := (blk_cell BK1339.out 0).trans rfl; have hcz30_1 : w29.cell? ⟨gb1339, 1, none⟩ = some (.string ((rd_T65 l1 x23_2).f1)) := (blk_cell BK1339.out 1).trans rfl; have hfz30_0 := blk_frozen BK1339.out 0; have hfz30_1 := blk_frozen BK1339.out 1))
         repeat (go_quiet (first | ((with_reducible refine gate_dst (N := 8) rfl ?_); refine box_event ?hg (N := 8) ?hd (cs := #[.int .i64 0, .string (⟨#[]⟩ : ByteArray)]) (t := 65) ?hr ?_; (case hd => rfl); (case hg => rfl); (case hr => first | (go_simp; done) | (go_simp; rfl)); intro gb1339 hg w26 hbox hb; have n0_ := Aside0.mk (Kd.R_below (Kd.R_elderB (kR_ HO_6.out) gb1339 (Nat.le_of_eq hg.symm)) hb); have n1_ := Aside0.mk (below_step hb_ hb); have n2_ := Aside0.mk (hbox); have n3_ := Aside0.mk ((by rw [hg]; exact (below_size hb_) : w.heap.size ≤ gb1339)); have n4_ := Aside0.mk ((by rw [hg]; exact (below_size hb_) : w.heap.size ≤ gb1339)); clear HO_6; clear HB; have HO_6 := n0_; have HB := n1_; have BK1339 := n2_; have GW1339 := n3_; have GE1339 := n4_; clear n0_ n1_ n2_ n3_ n4_; clear hb hbox hg; have hcz27_0 : w26.cell? ⟨gb1339, 0, none⟩ = some (.int .i64 0) := (blk_cell BK1339.out 0).trans rfl; have hcz27_1 : w26.cell? ⟨gb1339, 1, none⟩ = some (.string (⟨#[]⟩ : ByteArray)) := (blk_cell BK1339.out 1).trans rfl; have hfz27_0 := blk_frozen BK1339.out 0; have hfz27_1 := blk_frozen BK1339.out 1; obtain ⟨Ao28, co28, eo28⟩ := Kd.R_slice HO_6.out; subst eo28) | (go_at_call 81; (with_reducible refine (impl_findPiece.calls k2 _ _ x6_2 ((rd_T65 l1 x23_2).f0) t1340 true _ ?side1 ?side2 A16.out).mono ?_); (case side1 => refine (Kd.R_reads' (e := 65) (base := w.heap.size) (ok := fun k_ => (True ∧ k_ ≠ gb1339)) (n := x6_2.length) (c := co28) ?_).2.2; exact (by refine kR_ ?_; exact (Kd.R_mono (Kd.R_far (p := ⟨gb1339, 1, none⟩) (Kd.R_far (p := ⟨gb1339, 0, none⟩) (Kd.R_mono HO_6.out (fun k_ hk => (⟨hk, hk.2⟩ : _ ∧ k_ ≠ gb1339))) (fun _ hk => hk.2) (.int .i64 ((rd_T65 l1 x23_2).f0))) (fun _ hk => hk.2) (.string ((rd_T65 l1 x23_2).f1))) (fun _ h_ => h_.1)))); (case side2 => exact (Kd.R_reads' HO_6.out).2.1); rintro e w29 ⟨rfl, hb⟩; have n0_ := Aside0.mk (Kd.R_below (by refine kR_ ?_; exact (Kd.R_mono (Kd.R_far (p := ⟨gb1339, 1, none⟩) (Kd.R_far (p := ⟨gb1339, 0, none⟩) (Kd.R_mono HO_6.out (fun k_ hk => (⟨hk, hk.2⟩ : _ ∧ k_ ≠ gb1339))) (fun _ hk => hk.2) (.int .i64 ((rd_T65 l1 x23_2).f0))) (fun _ hk => hk.2) (.string ((rd_T65 l1 x23_2).f1))) (fun _ h_ => h_.1))) hb); have n1_ := Aside0.mk (blk_below (g := gb1339) (o := .cells #[.int .i64 ((rd_T65 l1 x23_2).f0), .string ((rd_T65 l1 x23_2).f1)] 65 (0, 0)) (by (with_reducible repeat (first | refine blk_drewN ?_ _ | refine blk_drew ?_ | refine blk_alloc ?_ _)); refine blk_put (cs := #[.int .i64 ((rd_T65 l1 x23_2).f0), .string (⟨#[]⟩ : ByteArray)]) ?_ 1 _ rfl; (with_reducible repeat (first | refine blk_drewN ?_ _ | refine blk_drew ?_ | refine blk_alloc ?_ _)); refine blk_put (cs := #[.int .i64 0, .string (⟨#[]⟩ : ByteArray)]) ?_ 0 _ rfl; (with_reducible repeat (first | refine blk_drewN ?_ _ | refine blk_drew ?_ | refine blk_alloc ?_ _)); exact BK1339.out) hb); have n2_ := Aside0.mk (below_step (hs_ GE1339.out) hb); clear HO_6; clear BK1339; clear HB; have HO_6 := n0_; have BK1339 := n1_; have HB := n2_; clear n0_ n1_ n2_; (try clear hb); (try clear hk); have p1342 : 0 ≤ (t1340 : Int) := dt_; have q1342 : t1340 < (x6_2.length : Int) := dt_; obtain ⟨ad1342, e1342, hx1342_0, hx1342_1⟩ := at_T65 (Kd.R_reads' HO_6.out).2.2 t1340 p1342 q1342; cases e1342; replace p1342 := eq_true p1342; replace q1342 := eq_true q1342; have hcz30_0 : w29.cell? ⟨gb1339, 0, none⟩ = some (.int .i64 ((rd_T65 l1 x23_2).f0)) := (blk_cell BK1339.out 0).trans rfl; have hcz30_1 : w29.cell? ⟨gb1339, 1, none⟩ = some (.string ((rd_T65 l1 x23_2).f1)) := (blk_cell BK1339.out 1).trans rfl; have hfz30_0 := blk_frozen BK1339.out 0; have hfz30_1 := blk_frozen BK1339.out 1)); try go_wp2_with (first | ((with_reducible refine gate_dst (N := 8) rfl ?_); refine box_event ?hg (N := 8) ?hd (cs := #[.int .i64 0, .string (⟨#[]⟩ : ByteArray)]) (t := 65) ?hr ?_; (case hd => rfl); (case hg => rfl); (case hr => first | (go_simp; done) | (go_simp; rfl)); intro gb1339 hg w26 hbox hb; have n0_ := Aside0.mk (Kd.R_below (Kd.R_elderB (kR_ HO_6.out) gb1339 (Nat.le_of_eq hg.symm)) hb); have n1_ := Aside0.mk (below_step hb_ hb); have n2_ := Aside0.mk (hbox); have n3_ := Aside0.mk ((by rw [hg]; exact (below_size hb_) : w.heap.size ≤ gb1339)); have n4_ := Aside0.mk ((by rw [hg]; exact (below_size hb_) : w.heap.size ≤ gb1339)); clear HO_6; clear HB; have HO_6 := n0_; have HB := n1_; have BK1339 := n2_; have GW1339 := n3_; have GE1339 := n4_; clear n0_ n1_ n2_ n3_ n4_; clear hb hbox hg; have hcz27_0 : w26.cell? ⟨gb1339, 0, none⟩ = some (.int .i64 0) := (blk_cell BK1339.out 0).trans rfl; have hcz27_1 : w26.cell? ⟨gb1339, 1, none⟩ = some (.string (⟨#[]⟩ : ByteArray)) := (blk_cell BK1339.out 1).trans rfl; have hfz27_0 := blk_frozen BK1339.out 0; have hfz27_1 := blk_frozen BK1339.out 1; obtain ⟨Ao28, co28, eo28⟩ := Kd.R_slice HO_6.out; subst eo28) | (go_at_call 81; (with_reducible refine (impl_findPiece.calls k2 _ _ x6_2 ((rd_T65 l1 x23_2).f0) t1340 true _ ?side1 ?side2 A16.out).mono ?_); (case side1 => refine (Kd.R_reads' (e := 65) (base := w.heap.size) (ok := fun k_ => (True ∧ k_ ≠ gb1339)) (n := x6_2.length) (c := co28) ?_).2.2; exact (by refine kR_ ?_; exact (Kd.R_mono (Kd.R_far (p := ⟨gb1339, 1, none⟩) (Kd.R_far (p := ⟨gb1339, 0, none⟩) (Kd.R_mono HO_6.out (fun k_ hk => (⟨hk, hk.2⟩ : _ ∧ k_ ≠ gb1339))) (fun _ hk => hk.2) (.int .i64 ((rd_T65 l1 x23_2).f0))) (fun _ hk => hk.2) (.string ((rd_T65 l1 x23_2).f1))) (fun _ h_ => h_.1)))); (case side2 => exact (Kd.R_reads' HO_6.out).2.1); rintro e w29 ⟨rfl, hb⟩; have n0_ := Aside0.mk (Kd.R_below (by refine kR_ ?_; exact (Kd.R_mono (Kd.R_far (p := ⟨gb1339, 1, none⟩) (Kd.R_far (p := ⟨gb1339, 0, none⟩) (Kd.R_mono HO_6.out (fun k_ hk => (⟨hk, hk.2⟩ : _ ∧ k_ ≠ gb1339))) (fun _ hk => hk.2) (.int .i64 ((rd_T65 l1 x23_2).f0))) (fun _ hk => hk.2) (.string ((rd_T65 l1 x23_2).f1))) (fun _ h_ => h_.1))) hb); have n1_ := Aside0.mk (blk_below (g := gb1339) (o := .cells #[.int .i64 ((rd_T65 l1 x23_2).f0), .string ((rd_T65 l1 x23_2).f1)] 65 (0, 0)) (by (with_reducible repeat (first | refine blk_drewN ?_ _ | refine blk_drew ?_ | refine blk_alloc ?_ _)); refine blk_put (cs := #[.int .i64 ((rd_T65 l1 x23_2).f0), .string (⟨#[]⟩ : ByteArray)]) ?_ 1 _ rfl; (with_reducible repeat (first | refine blk_drewN ?_ _ | refine blk_drew ?_ | refine blk_alloc ?_ _)); refine blk_put (cs := #[.int .i64 0, .string (⟨#[]⟩ : ByteArray)]) ?_ 0 _ rfl; (with_reducible repeat (first | refine blk_drewN ?_ _ | refine blk_drew ?_ | refine blk_alloc ?_ _)); exact BK1339.out) hb); have n2_ := Aside0.mk (below_step (hs_ GE1339.out) hb); clear HO_6; clear BK1339; clear HB; have HO_6 := n0_; have BK1339 := n1_; have HB := n2_; clear n0_ n1_ n2_; (try clear hb); (try clear hk); have p1342 : 0 ≤ (t1340 : Int) := dt_; have q1342 : t1340 < (x6_2.length : Int) := dt_; obtain ⟨ad1342, e1342, hx1342_0, hx1342_1⟩ := at_T65 (Kd.R_reads' HO_6.out).2.2 t1340 p1342 q1342; cases e1342; replace p1342 := eq_true p1342; replace q1342 := eq_true q1342; have hcz30_0 : w29.cell? ⟨gb1339, 0, none⟩ = some (.int .i64 ((rd_T65 l1 x23_2).f0)) := (blk_cell BK1339.out 0).trans rfl; have hcz30_1 : w29.cell? ⟨gb1339, 1, none⟩ = some (.string ((rd_T65 l1 x23_2).f1)) := (blk_cell BK1339.out 1).trans rfl; have hfz30_0 := blk_frozen BK1339.out 0; have hfz30_1 := blk_frozen BK1339.out 1)))
         go_ret2
         exact ⟨_, er_, by first | exact Kd.R_nil _ _ _ _ _ | exact Kd.N_nil _ _ _ _ _ | exact Kd.V_nil _ _ _ _ _ | exact Kd.Q_nil _ _ _ _ _ | exact Kd.S_nil _ _ _ _ _, hs_ GE1339.out⟩
       ·replace c17 := Bool.eq_false_iff.mpr c17
        subst c17
        have H1 : ((slices_Insert_Piece.f x6_2 t1340 (([(⟨(rd_T65 l1 x23_2).f0, (rd_T65 l1 x23_2).f1⟩ : S65)] : List (S65)))).bind fun t1346 => (impl_JoinStores.l0 k2 t1346 l1 (l1.length : Int) (wrap64 (x23_2 + 1)))) = some (r1, r2) := by rw [if_neg (show ¬ (false = true) by decide)] at H; exact H
        clear H
        have H := H1
        clear H1
        obtain ⟨y1343, hy1343⟩ : ∃ y_ : List (S65), y_ = (([(⟨(rd_T65 l1 x23_2).f0, (rd_T65 l1 x23_2).f1⟩ : S65)] : List (S65))) := ⟨_, rfl⟩
        replace H : ((slices_Insert_Piece.f x6_2 t1340 y1343).bind fun t1346 => (impl_JoinStores.l0 k2 t1346 l1 (l1.length : Int) (wrap64 (x23_2 + 1)))) = some (r1, r2) := hq_ hy1343 H
        have Ny1343 := Aside0.mk hy1343
        clear hy1343
        replace H := Option.bind_eq_some_iff.mp H
        obtain ⟨t1346, A310, H⟩ := H
        replace H : (impl_JoinStores.l0 k2 t1346 l1 (l1.length : Int) (wrap64 (x23_2 + 1))) = some (r1, r2) := H
        have A31 := Aside0.mk A310
        clear A310
        have H' := Aside0.mk H
        clear H
        have p1338 : 0 ≤ (x23_2 : Int) := dt_
        have q1338 : x23_2 < (l1.length : Int) := dt_
        obtain ⟨ad1338, e1338, hx1338_0, hx1338_1⟩ := at_T65 HR1.out x23_2 p1338 q1338
        cases e1338
        replace hx1338_0 := cb_ HB.out hx1338_0
        replace hx1338_1 := cb_ HB.out hx1338_1
        replace p1338 := eq_true p1338
        replace q1338 := eq_true q1338
        go_wp2_with (first | ((with_reducible refine gate_dst (N := 8) rfl ?_); refine box_event ?hg (N := 8) ?hd (cs := #[.int .i64 0, .string (⟨#[]⟩ : ByteArray)]) (t := 65) ?hr ?_; (case hd => rfl); (case hg => rfl); (case hr => first | (go_simp; done) | (go_simp; rfl)); intro gb1339 hg w32 hbox hb; have n0_ := Aside0.mk (Kd.R_below (Kd.R_elderB (kR_ HO_6.out) gb1339 (Nat.le_of_eq hg.symm)) hb); have n1_ := Aside0.mk (below_step hb_ hb); have n2_ := Aside0.mk (hbox); have n3_ := Aside0.mk ((by rw [hg]; exact (below_size hb_) : w.heap.size ≤ gb1339)); have n4_ := Aside0.mk ((by rw [hg]; exact (below_size hb_) : w.heap.size ≤ gb1339)); clear HO_6; clear HB; have HO_6 := n0_; have HB := n1_; have BK1339 := n2_; have GW1339 := n3_; have GE1339 := n4_; clear n0_ n1_ n2_ n3_ n4_; clear hb hbox hg; have hcz33_0 : w32.cell? ⟨gb1339, 0, none⟩ = some (.int .i64 0) := (blk_cell BK1339.out 0).trans rfl; have hcz33_1 : w32.cell? ⟨gb1339, 1, none⟩ = some (.string (⟨#[]⟩ : ByteArray)) := (blk_cell BK1339.out 1).trans rfl; have hfz33_0 := blk_frozen BK1339.out 0; have hfz33_1 := blk_frozen BK1339.out 1; obtain ⟨Ao34, co34, eo34⟩ := Kd.R_slice HO_6.out; subst eo34) | (go_at_call 81; (with_reducible refine (impl_findPiece.calls k2 _ _ x6_2 ((rd_T65 l1 x23_2).f0) t1340 false _ ?side1 ?side2 A16.out).mono ?_); (case side1 => refine (Kd.R_reads' (e := 65) (base := w.heap.size) (ok := fun k_ => (True ∧ k_ ≠ gb1339)) (n := x6_2.length) (c := co34) ?_).2.2; exact (by refine kR_ ?_; exact (Kd.R_mono (Kd.R_far (p := ⟨gb1339, 1, none⟩) (Kd.R_far (p := ⟨gb1339, 0, none⟩) (Kd.R_mono HO_6.out (fun k_ hk => (⟨hk, hk.2⟩ : _ ∧ k_ ≠ gb1339))) (fun _ hk => hk.2) (.int .i64 ((rd_T65 l1 x23_2).f0))) (fun _ hk => hk.2) (.string ((rd_T65 l1 x23_2).f1))) (fun _ h_ => h_.1)))); (case side2 => exact (Kd.R_reads' HO_6.out).2.1); rintro e w35 ⟨rfl, hb⟩; have n0_ := Aside0.mk (Kd.R_below (by refine kR_ ?_; exact (Kd.R_mono (Kd.R_far (p := ⟨gb1339, 1, none⟩) (Kd.R_far (p := ⟨gb1339, 0, none⟩) (Kd.R_mono HO_6.out (fun k_ hk => (⟨hk, hk.2⟩ : _ ∧ k_ ≠ gb1339))) (fun _ hk => hk.2) (.int .i64 ((rd_T65 l1 x23_2).f0))) (fun _ hk => hk.2) (.string ((rd_T65 l1 x23_2).f1))) (fun _ h_ => h_.1))) hb); have n1_ := Aside0.mk (blk_below (g := gb1339) (o := .cells #[.int .i64 ((rd_T65 l1 x23_2).f0), .string ((rd_T65 l1 x23_2).f1)] 65 (0, 0)) (by (with_reducible repeat (first | refine blk_drewN ?_ _ | refine blk_drew ?_ | refine blk_alloc ?_ _)); refine blk_put (cs := #[.int .i64 ((rd_T65 l1 x23_2).f0), .string (⟨#[]⟩ : ByteArray)]) ?_ 1 _ rfl; (with_reducible repeat (first | refine blk_drewN ?_ _ | refine blk_drew ?_ | refine blk_alloc ?_ _)); refine blk_put (cs := #[.int .i64 0, .string (⟨#[]⟩ : ByteArray)]) ?_ 0 _ rfl; (with_reducible repeat (first | refine blk_drewN ?_ _ | refine blk_drew ?_ | refine blk_alloc ?_ _)); exact BK1339.out) hb); have n2_ := Aside0.mk (below_step (hs_ GE1339.out) hb); clear HO_6; clear BK1339; clear HB; have HO_6 := n0_; have BK1339 := n1_; have HB := n2_; clear n0_ n1_ n2_; (try clear hb); (try clear hk); have hcz36_0 : w35.cell? ⟨gb1339, 0, none⟩ = some (.int .i64 ((rd_T65 l1 x23_2).f0)) := (blk_cell BK1339.out 0).trans rfl; have hcz36_1 : w35.cell? ⟨gb1339, 1, none⟩ = some (.string ((rd_T65 l1 x23_2).f1)) := (blk_cell BK1339.out 1).trans rfl; have hfz36_0 := blk_frozen BK1339.out 0; have hfz36_1 := blk_frozen BK1339.out 1) | ((with_reducible refine gate_dst (N := 46) rfl ?_); refine Kd.R_lit k65 _ 65 ?hg (N := 46) ?hd (xs := ([(⟨(rd_T65 l1 x23_2).f0, (rd_T65 l1 x23_2).f1⟩ : S65)] : List (S65))) (inner := [.int .i64 ((rd_T65 l1 x23_2).f0), .string ((rd_T65 l1 x23_2).f1)]) (ok := fun _ => True) (okp := fun _ => True) ?hr ?hp (fun _ hk => hk) trivial (Below.refl _ _) (Nat.le_refl _) (by simp) ?_; (case hd => rfl); (case hg => rfl); (case hr => first | (go_simp; done) | (go_simp; rfl)); (case hp => exact (Reps.c2 (show Kd.M k65 _ _ _ (⟨(rd_T65 l1 x23_2).f0, (rd_T65 l1 x23_2).f1⟩ : S65) [.int .i64 ((rd_T65 l1 x23_2).f0), .string ((rd_T65 l1 x23_2).f1)] from (k65_mkM _ _ _ (⟨(rd_T65 l1 x23_2).f0, (rd_T65 l1 x23_2).f1⟩ : S65) )) (Reps.none _ _))); intro v1344 w37 ho38 hb hg_ hnew_; clear hg_ hnew_; (first | rw [← Ny1343.out] at ho38 | (simp only [Int.reduceToNat] at ho38; rw [← Ny1343.out] at ho38)); have HO1345 := Aside0.mk (Kd.R_lower (Kd.R_newB (Kd.R_new' ho38 (Kd.R_lt (kR_ HO_6.out))) (g := gb1339) (o := .cells #[.int .i64 ((rd_T65 l1 x23_2).f0), .string ((rd_T65 l1 x23_2).f1)] 65 (0, 0)) (kB_ BK1339.out)) (below_size (hs_ GE1339.out))); replace HO_6 := Aside0.mk (Kd.R_elder' (kR_ HO_6.out) (Kd.R_base ho38) hb); replace BK1339 := Aside0.mk (blk_below (g := gb1339) (o := .cells #[.int .i64 ((rd_T65 l1 x23_2).f0), .string ((rd_T65 l1 x23_2).f1)] 65 (0, 0)) (kB_ BK1339.out) hb); replace HB := Aside0.mk (below_step (hs_ GE1339.out) hb); clear hb ho38; obtain ⟨Ao39, co39, eo39⟩ := Kd.R_slice HO1345.out; subst eo39) | (go_at_call 82; (with_reducible refine (slices_Insert_Piece.calls (fun k_ => some k_ = (.slice Ao34 x6_2.length co34 : Value).ownBlock) (.slice Ao34 x6_2.length co34) x6_2 t1340 (fun k_ => some k_ = (.slice Ao39 y1343.length co39 : Value).ownBlock) (.slice Ao39 y1343.length co39) y1343 t1346 w _ ?side1 ?side2 ?side3 ?side4 ?side5 A31.out).mono ?_); (case side1 => exact hs_ GE1339.out); (case side2 => exact Kd.R_tight rfl HO_6.out); (case side3 => exact fun k_ e_ => (HO_6.out.1 k_ e_.symm).2); (case side4 => exact Kd.R_tight rfl HO1345.out); (case side5 => exact fun k_ e_ => (HO1345.out.1 k_ e_.symm).1.2); rintro e w40 ⟨v1347, rfl, ho0, hb, hkp⟩; have n0_ := Aside0.mk (blk_kept (kB_ BK1339.out) hkp (fun hs_ => Or.elim hs_ (fun e_ => (fun e_ => (Kd.R_away HO_6.out (fun _ hk => hk.1.2)) e_) e_) (fun e_ => (fun e_ => (Kd.R_away HO1345.out (fun _ hk => hk.2)) e_) e_))); have n1_ := Aside0.mk (Kd.R_mono (ok' := fun k_ => k_ ≠ gb1339) ho0 (fun k_ hk_ => Or.elim hk_ (fun hs_ => Or.elim hs_ (fun hs_ => fun e_ => (Kd.R_away HO_6.out (fun _ hk => hk.1.2)) (by rw [← e_]; exact hs_)) (fun hs_ => fun e_ => (Kd.R_away HO1345.out (fun _ hk => hk.2)) (by rw [← e_]; exact hs_))) (fun hn_ => (Kd.freshB (g := gb1339) (o := .cells #[.int .i64 ((rd_T65 l1 x23_2).f0), .string ((rd_T65 l1 x23_2).f1)] 65 (0, 0)) (kB_ BK1339.out) k_ hn_)))); have n2_ := Aside0.mk (hb); clear BK1339; clear HB; clear HO1345; clear HO_6; have BK1339 := n0_; have HO1348 := n1_; have HB := n2_; clear n0_ n1_ n2_; (try clear hb); (try clear hkp); (try clear ho0)))
        repeat (go_quiet (first | ((with_reducible refine gate_dst (N := 8) rfl ?_); refine box_event ?hg (N := 8) ?hd (cs := #[.int .i64 0, .string (⟨#[]⟩ : ByteArray)]) (t := 65) ?hr ?_; (case hd => rfl); (case hg => rfl); (case hr => first | (go_simp; done) | (go_simp; rfl)); intro gb1339 hg w32 hbox hb; have n0_ := Aside0.mk (Kd.R_below (Kd.R_elderB (kR_ HO_6.out) gb1339 (Nat.le_of_eq hg.symm)) hb); have n1_ := Aside0.mk (below_step hb_ hb); have n2_ := Aside0.mk (hbox); have n3_ := Aside0.mk ((by rw [hg]; exact (below_size hb_) : w.heap.size ≤ gb1339)); have n4_ := Aside0.mk ((by rw [hg]; exact (below_size hb_) : w.heap.size ≤ gb1339)); clear HO_6; clear HB; have HO_6 := n0_; have HB := n1_; have BK1339 := n2_; have GW1339 := n3_; have GE1339 := n4_; clear n0_ n1_ n2_ n3_ n4_; clear hb hbox hg; have hcz33_0 : w32.cell? ⟨gb1339, 0, none⟩ = some (.int .i64 0) := (blk_cell BK1339.out 0).trans rfl; have hcz33_1 : w32.cell? ⟨gb1339, 1, none⟩ = some (.string (⟨#[]⟩ : ByteArray)) := (blk_cell BK1339.out 1).trans rfl; have hfz33_0 := blk_frozen BK1339.out 0; have hfz33_1 := blk_frozen BK1339.out 1; obtain ⟨Ao34, co34, eo34⟩ := Kd.R_slice HO_6.out; subst eo34) | (go_at_call 81; (with_reducible refine (impl_findPiece.calls k2 _ _ x6_2 ((rd_T65 l1 x23_2).f0) t1340 false _ ?side1 ?side2 A16.out).mono ?_); (case side1 => refine (Kd.R_reads' (e := 65) (base := w.heap.size) (ok := fun k_ => (True ∧ k_ ≠ gb1339)) (n := x6_2.length) (c := co34) ?_).2.2; exact (by refine kR_ ?_; exact (Kd.R_mono (Kd.R_far (p := ⟨gb1339, 1, none⟩) (Kd.R_far (p := ⟨gb1339, 0, none⟩) (Kd.R_mono HO_6.out (fun k_ hk => (⟨hk, hk.2⟩ : _ ∧ k_ ≠ gb1339))) (fun _ hk => hk.2) (.int .i64 ((rd_T65 l1 x23_2).f0))) (fun _ hk => hk.2) (.string ((rd_T65 l1 x23_2).f1))) (fun _ h_ => h_.1)))); (case side2 => exact (Kd.R_reads' HO_6.out).2.1); rintro e w35 ⟨rfl, hb⟩; have n0_ := Aside0.mk (Kd.R_below (by refine kR_ ?_; exact (Kd.R_mono (Kd.R_far (p := ⟨gb1339, 1, none⟩) (Kd.R_far (p := ⟨gb1339, 0, none⟩) (Kd.R_mono HO_6.out (fun k_ hk => (⟨hk, hk.2⟩ : _ ∧ k_ ≠ gb1339))) (fun _ hk => hk.2) (.int .i64 ((rd_T65 l1 x23_2).f0))) (fun _ hk => hk.2) (.string ((rd_T65 l1 x23_2).f1))) (fun _ h_ => h_.1))) hb); have n1_ := Aside0.mk (blk_below (g := gb1339) (o := .cells #[.int .i64 ((rd_T65 l1 x23_2).f0), .string ((rd_T65 l1 x23_2).f1)] 65 (0, 0)) (by (with_reducible repeat (first | refine blk_drewN ?_ _ | refine blk_drew ?_ | refine blk_alloc ?_ _)); refine blk_put (cs := #[.int .i64 ((rd_T65 l1 x23_2).f0), .string (⟨#[]⟩ : ByteArray)]) ?_ 1 _ rfl; (with_reducible repeat (first | refine blk_drewN ?_ _ | refine blk_drew ?_ | refine blk_alloc ?_ _)); refine blk_put (cs := #[.int .i64 0, .string (⟨#[]⟩ : ByteArray)]) ?_ 0 _ rfl; (with_reducible repeat (first | refine blk_drewN ?_ _ | refine blk_drew ?_ | refine blk_alloc ?_ _)); exact BK1339.out) hb); have n2_ := Aside0.mk (below_step (hs_ GE1339.out) hb); clear HO_6; clear BK1339; clear HB; have HO_6 := n0_; have BK1339 := n1_; have HB := n2_; clear n0_ n1_ n2_; (try clear hb); (try clear hk); have hcz36_0 : w35.cell? ⟨gb1339, 0, none⟩ = some (.int .i64 ((rd_T65 l1 x23_2).f0)) := (blk_cell BK1339.out 0).trans rfl; have hcz36_1 : w35.cell? ⟨gb1339, 1, none⟩ = some (.string ((rd_T65 l1 x23_2).f1)) := (blk_cell BK1339.out 1).trans rfl; have hfz36_0 := blk_frozen BK1339.out 0; have hfz36_1 := blk_frozen BK1339.out 1) | ((with_reducible refine gate_dst (N := 46) rfl ?_); refine Kd.R_lit k65 _ 65 ?hg (N := 46) ?hd (xs := ([(⟨(rd_T65 l1 x23_2).f0, (rd_T65 l1 x23_2).f1⟩ : S65)] : List (S65))) (inner := [.int .i64 ((rd_T65 l1 x23_2).f0), .string ((rd_T65 l1 x23_2).f1)]) (ok := fun _ => True) (okp := fun _ => True) ?hr ?hp (fun _ hk => hk) trivial (Below.refl _ _) (Nat.le_refl _) (by simp) ?_; (case hd => rfl); (case hg => rfl); (case hr => first | (go_simp; done) | (go_simp; rfl)); (case hp => exact (Reps.c2 (show Kd.M k65 _ _ _ (⟨(rd_T65 l1 x23_2).f0, (rd_T65 l1 x23_2).f1⟩ : S65) [.int .i64 ((rd_T65 l1 x23_2).f0), .string ((rd_T65 l1 x23_2).f1)] from (k65_mkM _ _ _ (⟨(rd_T65 l1 x23_2).f0, (rd_T65 l1 x23_2).f1⟩ : S65) )) (Reps.none _ _))); intro v1344 w37 ho38 hb hg_ hnew_; clear hg_ hnew_; (first | rw [← Ny1343.out] at ho38 | (simp only [Int.reduceToNat] at ho38; rw [← Ny1343.out] at ho38)); have HO1345 := Aside0.mk (Kd.R_lower (Kd.R_newB (Kd.R_new' ho38 (Kd.R_lt (kR_ HO_6.out))) (g := gb1339) (o := .cells #[.int .i64 ((rd_T65 l1 x23_2).f0), .string ((rd_T65 l1 x23_2).f1)] 65 (0, 0)) (kB_ BK1339.out)) (below_size (hs_ GE1339.out))); replace HO_6 := Aside0.mk (Kd.R_elder' (kR_ HO_6.out) (Kd.R_base ho38) hb); replace BK1339 := Aside0.mk (blk_below (g := gb1339) (o := .cells #[.int .i64 ((rd_T65 l1 x23_2).f0), .string ((rd_T65 l1 x23_2).f1)] 65 (0, 0)) (kB_ BK1339.out) hb); replace HB := Aside0.mk (below_step (hs_ GE1339.out) hb); clear hb ho38; obtain ⟨Ao39, co39, eo39⟩ := Kd.R_slice HO1345.out; subst eo39) | (go_at_call 82; (with_reducible refine (slices_Insert_Piece.calls (fun k_ => some k_ = (.slice Ao34 x6_2.length co34 : Value).ownBlock) (.slice Ao34 x6_2.length co34) x6_2 t1340 (fun k_ => some k_ = (.slice Ao39 y1343.length co39 : Value).ownBlock) (.slice Ao39 y1343.length co39) y1343 t1346 w _ ?side1 ?side2 ?side3 ?side4 ?side5 A31.out).mono ?_); (case side1 => exact hs_ GE1339.out); (case side2 => exact Kd.R_tight rfl HO_6.out); (case side3 => exact fun k_ e_ => (HO_6.out.1 k_ e_.symm).2); (case side4 => exact Kd.R_tight rfl HO1345.out); (case side5 => exact fun k_ e_ => (HO1345.out.1 k_ e_.symm).1.2); rintro e w40 ⟨v1347, rfl, ho0, hb, hkp⟩; have n0_ := Aside0.mk (blk_kept (kB_ BK1339.out) hkp (fun hs_ => Or.elim hs_ (fun e_ => (fun e_ => (Kd.R_away HO_6.out (fun _ hk => hk.1.2)) e_) e_) (fun e_ => (fun e_ => (Kd.R_away HO1345.out (fun _ hk => hk.2)) e_) e_))); have n1_ := Aside0.mk (Kd.R_mono (ok' := fun k_ => k_ ≠ gb1339) ho0 (fun k_ hk_ => Or.elim hk_ (fun hs_ => Or.elim hs_ (fun hs_ => fun e_ => (Kd.R_away HO_6.out (fun _ hk => hk.1.2)) (by rw [← e_]; exact hs_)) (fun hs_ => fun e_ => (Kd.R_away HO1345.out (fun _ hk => hk.2)) (by rw [← e_]; exact hs_))) (fun hn_ => (Kd.freshB (g := gb1339) (o := .cells #[.int .i64 ((rd_T65 l1 x23_2).f0), .string ((rd_T65 l1 x23_2).f1)] 65 (0, 0)) (kB_ BK1339.out) k_ hn_)))); have n2_ := Aside0.mk (hb); clear BK1339; clear HB; clear HO1345; clear HO_6; have BK1339 := n0_; have HO1348 := n1_; have HB := n2_; clear n0_ n1_ n2_; (try clear hb); (try clear hkp); (try clear ho0))); try go_wp2_with (first | ((with_reducible refine gate_dst (N := 8) rfl ?_); refine box_event ?hg (N := 8) ?hd (cs := #[.int .i64 0, .string (⟨#[]⟩ : ByteArray)]) (t := 65) ?hr ?_; (case hd => rfl); (case hg => rfl); (case hr => first | (go_simp; done) | (go_simp; rfl)); intro gb1339 hg w32 hbox hb; have n0_ := Aside0.mk (Kd.R_below (Kd.R_elderB (kR_ HO_6.out) gb1339 (Nat.le_of_eq hg.symm)) hb); have n1_ := Aside0.mk (below_step hb_ hb); have n2_ := Aside0.mk (hbox); have n3_ := Aside0.mk ((by rw [hg]; exact (below_size hb_) : w.heap.size ≤ gb1339)); have n4_ := Aside0.mk ((by rw [hg]; exact (below_size hb_) : w.heap.size ≤ gb1339)); clear HO_6; clear HB; have HO_6 := n0_; have HB := n1_; have BK1339 := n2_; have GW1339 := n3_; have GE1339 := n4_; clear n0_ n1_ n2_ n3_ n4_; clear hb hbox hg; have hcz33_0 : w32.cell? ⟨gb1339, 0, none⟩ = some (.int .i64 0) := (blk_cell BK1339.out 0).trans rfl; have hcz33_1 : w32.cell? ⟨gb1339, 1, none⟩ = some (.string (⟨#[]⟩ : ByteArray)) := (blk_cell BK1339.out 1).trans rfl; have hfz33_0 := blk_frozen BK1339.out 0; have hfz33_1 := blk_frozen BK1339.out 1; obtain ⟨Ao34, co34, eo34⟩ := Kd.R_slice HO_6.out; subst eo34) | (go_at_call 81; (with_reducible refine (impl_findPiece.calls k2 _ _ x6_2 ((rd_T65 l1 x23_2).f0) t1340 false _ ?side1 ?side2 A16.out).mono ?_); (case side1 => refine (Kd.R_reads' (e := 65) (base := w.heap.size) (ok := fun k_ => (True ∧ k_ ≠ gb1339)) (n := x6_2.length) (c := co34) ?_).2.2; exact (by refine kR_ ?_; exact (Kd.R_mono (Kd.R_far (p := ⟨gb1339, 1, none⟩) (Kd.R_far (p := ⟨gb1339, 0, none⟩) (Kd.R_mono HO_6.out (fun k_ hk => (⟨hk, hk.2⟩ : _ ∧ k_ ≠ gb1339))) (fun _ hk => hk.2) (.int .i64 ((rd_T65 l1 x23_2).f0))) (fun _ hk => hk.2) (.string ((rd_T65 l1 x23_2).f1))) (fun _ h_ => h_.1)))); (case side2 => exact (Kd.R_reads' HO_6.out).2.1); rintro e w35 ⟨rfl, hb⟩; have n0_ := Aside0.mk (Kd.R_below (by refine kR_ ?_; exact (Kd.R_mono (Kd.R_far (p := ⟨gb1339, 1, none⟩) (Kd.R_far (p := ⟨gb1339, 0, none⟩) (Kd.R_mono HO_6.out (fun k_ hk => (⟨hk, hk.2⟩ : _ ∧ k_ ≠ gb1339))) (fun _ hk => hk.2) (.int .i64 ((rd_T65 l1 x23_2).f0))) (fun _ hk => hk.2) (.string ((rd_T65 l1 x23_2).f1))) (fun _ h_ => h_.1))) hb); have n1_ := Aside0.mk (blk_below (g := gb1339) (o := .cells #[.int .i64 ((rd_T65 l1 x23_2).f0), .string ((rd_T65 l1 x23_2).f1)] 65 (0, 0)) (by (with_reducible repeat (first | refine blk_drewN ?_ _ | refine blk_drew ?_ | refine blk_alloc ?_ _)); refine blk_put (cs := #[.int .i64 ((rd_T65 l1 x23_2).f0), .string (⟨#[]⟩ : ByteArray)]) ?_ 1 _ rfl; (with_reducible repeat (first | refine blk_drewN ?_ _ | refine blk_drew ?_ | refine blk_alloc ?_ _)); refine blk_put (cs := #[.int .i64 0, .string (⟨#[]⟩ : ByteArray)]) ?_ 0 _ rfl; (with_reducible repeat (first | refine blk_drewN ?_ _ | refine blk_drew ?_ | refine blk_alloc ?_ _)); exact BK1339.out) hb); have n2_ := Aside0.mk (below_step (hs_ GE1339.out) hb); clear HO_6; clear BK1339; clear HB; have HO_6 := n0_; have BK1339 := n1_; have HB := n2_; clear n0_ n1_ n2_; (try clear hb); (try clear hk); have hcz36_0 : w35.cell? ⟨gb1339, 0, none⟩ = some (.int .i64 ((rd_T65 l1 x23_2).f0)) := (blk_cell BK1339.out 0).trans rfl; have hcz36_1 : w35.cell? ⟨gb1339, 1, none⟩ = some (.string ((rd_T65 l1 x23_2).f1)) := (blk_cell BK1339.out 1).trans rfl; have hfz36_0 := blk_frozen BK1339.out 0; have hfz36_1 := blk_frozen BK1339.out 1) | ((with_reducible refine gate_dst (N := 46) rfl ?_); refine Kd.R_lit k65 _ 65 ?hg (N := 46) ?hd (xs := ([(⟨(rd_T65 l1 x23_2).f0, (rd_T65 l1 x23_2).f1⟩ : S65)] : List (S65))) (inner := [.int .i64 ((rd_T65 l1 x23_2).f0), .string ((rd_T65 l1 x23_2).f1)]) (ok := fun _ => True) (okp := fun _ => True) ?hr ?hp (fun _ hk => hk) trivial (Below.refl _ _) (Nat.le_refl _) (by simp) ?_; (case hd => rfl); (case hg => rfl); (case hr => first | (go_simp; done) | (go_simp; rfl)); (case hp => exact (Reps.c2 (show Kd.M k65 _ _ _ (⟨(rd_T65 l1 x23_2).f0, (rd_T65 l1 x23_2).f1⟩ : S65) [.int .i64 ((rd_T65 l1 x23_2).f0), .string ((rd_T65 l1 x23_2).f1)] from (k65_mkM _ _ _ (⟨(rd_T65 l1 x23_2).f0, (rd_T65 l1 x23_2).f1⟩ : S65) )) (Reps.none _ _))); intro v1344 w37 ho38 hb hg_ hnew_; clear hg_ hnew_; (first | rw [← Ny1343.out] at ho38 | (simp only [Int.reduceToNat] at ho38; rw [← Ny1343.out] at ho38)); have HO1345 := Aside0.mk (Kd.R_lower (Kd.R_newB (Kd.R_new' ho38 (Kd.R_lt (kR_ HO_6.out))) (g := gb1339) (o := .cells #[.int .i64 ((rd_T65 l1 x23_2).f0), .string ((rd_T65 l1 x23_2).f1)] 65 (0, 0)) (kB_ BK1339.out)) (below_size (hs_ GE1339.out))); replace HO_6 := Aside0.mk (Kd.R_elder' (kR_ HO_6.out) (Kd.R_base ho38) hb); replace BK1339 := Aside0.mk (blk_below (g := gb1339) (o := .cells #[.int .i64 ((rd_T65 l1 x23_2).f0), .string ((rd_T65 l1 x23_2).f1)] 65 (0, 0)) (kB_ BK1339.out) hb); replace HB := Aside0.mk (below_step (hs_ GE1339.out) hb); clear hb ho38; obtain ⟨Ao39, co39, eo39⟩ := Kd.R_slice HO1345.out; subst eo39) | (go_at_call 82; (with_reducible refine (slices_Insert_Piece.calls (fun k_ => some k_ = (.slice Ao34 x6_2.length co34 : Value).ownBlock) (.slice Ao34 x6_2.length co34) x6_2 t1340 (fun k_ => some k_ = (.slice Ao39 y1343.length co39 : Value).ownBlock) (.slice Ao39 y1343.length co39) y1343 t1346 w _ ?side1 ?side2 ?side3 ?side4 ?side5 A31.out).mono ?_); (case side1 => exact hs_ GE1339.out); (case side2 => exact Kd.R_tight rfl HO_6.out); (case side3 => exact fun k_ e_ => (HO_6.out.1 k_ e_.symm).2); (case side4 => exact Kd.R_tight rfl HO1345.out); (case side5 => exact fun k_ e_ => (HO1345.out.1 k_ e_.symm).1.2); rintro e w40 ⟨v1347, rfl, ho0, hb, hkp⟩; have n0_ := Aside0.mk (blk_kept (kB_ BK1339.out) hkp (fun hs_ => Or.elim hs_ (fun e_ => (fun e_ => (Kd.R_away HO_6.out (fun _ hk => hk.1.2)) e_) e_) (fun e_ => (fun e_ => (Kd.R_away HO1345.out (fun _ hk => hk.2)) e_) e_))); have n1_ := Aside0.mk (Kd.R_mono (ok' := fun k_ => k_ ≠ gb1339) ho0 (fun k_ hk_ => Or.elim hk_ (fun hs_ => Or.elim hs_ (fun hs_ => fun e_ => (Kd.R_away HO_6.out (fun _ hk => hk.1.2)) (by rw [← e_]; exact hs_)) (fun hs_ => fun e_ => (Kd.R_away HO1345.out (fun _ hk => hk.2)) (by rw [← e_]; exact hs_))) (fun hn_ => (Kd.freshB (g := gb1339) (o := .cells #[.int .i64 ((rd_T65 l1 x23_2).f0), .string ((rd_T65 l1 x23_2).f1)] 65 (0, 0)) (kB_ BK1339.out) k_ hn_)))); have n2_ := Aside0.mk (hb); clear BK1339; clear HB; clear HO1345; clear HO_6; have BK1339 := n0_; have HO1348 := n1_; have HB := n2_; clear n0_ n1_ n2_; (try clear hb); (try clear hkp); (try clear ho0))))
        go_roundg k2
        case measure => have := HJ2.out; have := HK2.out; omega
        case rel => exact ⟨(t1346), (wrap64 (x23_2 + 1)), rs_, H', ⟨by have := HJ2.out; have := HK2.out; omega⟩, ⟨by refine kR_ ?_; exact Kd.R_mono HO1348.out (fun _ hk => trivial)⟩, ⟨by repeat (first | (with_reducible first | exact HB.out | apply below_alloc | apply pw_below_drewN | apply below_drew1 | refine below_set ?_ GE1339.out) | exact HB.out)⟩⟩
      ·rw [if_neg c13] at H
       have c13b0 : decide (x23_2 < (l1.length : Int)) = false := decide_eq_false c13
       clear c13
       by_cases c41 : (x6_2.length : Int) > 40
       ·rw [if_pos c41] at H
        have c41b0 : decide (40 < (x6_2.length : Int)) = true := decide_eq_true c41
        have c41b1 : decide (40 < x6_2.length) = true := decide_eq_true (by omega)
        clear c41
        simp only [Option.some.injEq, Prod.mk.injEq] at H
        obtain ⟨rfl, rfl⟩ := H
        obtain ⟨Ao42, co42, eo42⟩ := Kd.R_slice HO_6.out
        subst eo42
        go_wp2
        repeat (go_quiet (fail); try go_wp2)
        go_ret2
        exact ⟨_, er_, by first | exact Kd.R_nil _ _ _ _ _ | exact Kd.N_nil _ _ _ _ _ | exact Kd.V_nil _ _ _ _ _ | exact Kd.Q_nil _ _ _ _ _ | exact Kd.S_nil _ _ _ _ _, hb_⟩
       ·rw [if_neg c41] at H
        have c41b0 : decide (40 < (x6_2.length : Int)) = false := decide_eq_false c41
        have c41b1 : decide (40 < x6_2.length) = false := decide_eq_false (by omega)
        clear c41
        simp only [Option.some.injEq, Prod.mk.injEq] at H
        obtain ⟨rfl, rfl⟩ := H
        obtain ⟨Ao43, co43, eo43⟩ := Kd.R_slice HO_6.out
        subst eo43
        go_wp2
        repeat (go_quiet (fail); try go_wp2)
        go_ret2
        exact ⟨_, er_, by refine kR_ ?_; exact HO_6.out, hb_⟩
/-! ### spec_JoinStores: function 60 -/
mutual
def spec_JoinStores.j0 : Nat → List (S65) → List (S65) → Bool → Option ((List (S65)) × Bool)
 | 0, _, _, _ => none
 | k + 1, x0, x1, x18 => if x18 = true then (some ((([] : List (S65))), false)) else ((some (([] : List (S65)) : List (S65))).bind fun y1354 => (if y1354.length + x0.length < 5864062014805 then (spec_JoinStores.l0 k x1 (y1354 ++ x0) 0) else (none)))
def spec_JoinStores.l0 : Nat → List (S65) → List (S65) → Int → Option ((List (S65)) × Bool)
 | 0, _, _, _ => none
 | k + 1, x1, x6, x7 => if x7 < (x1.length : Int) then (if 0 ≤ x7 then ((spec_PutText.f k x6 ((rd_T65 x1 x7).f1)).bind fun bt1361 => (if bt1361.2.2 = true then (spec_JoinStores.l0 k x1 bt1361.1 (wrap64 (x7 + 1))) else (some ((([] : List (S65))), false)))) else (none)) else (some (x6, true))
end
def spec_JoinStores.f (k : Nat) (l0 : List (S65)) (l1 : List (S65)) : Option ((List (S65)) × Bool) := (spec_StoreValid.f k l0).bind fun t1349 => (if t1349 = true then ((spec_StoreValid.f k l1).bind fun t1350 => (spec_JoinStores.j0 k l0 l1 (!t1350))) else (spec_JoinStores.j0 k l0 l1 true))
set_option maxHeartbeats 8000000 in
set_option maxRecDepth 100000 in
theorem spec_JoinStores.calls (k : Nat) (A0 : Option Addr) (c0 : Nat) (l0 : List (S65)) (A1 : Option Addr) (c1 : Nat) (l1 : List (S65)) (r1 : List (S65)) (r2 : Bool) (w : World) (hr0 : Kd.C k65 w A0 l0.length l0) (hc0 : l0.length ≤ c0) (hr1 : Kd.C k65 w A1 l1.length l1) (hc1 : l1.length ≤ c1) (h : spec_JoinStores.f k l0 l1 = some (r1, r2)) :
  Calls Try.prog 60 #[.slice A0 l0.length c0, .slice A1 l1.length c1] w fun e w' => ∃ v0_ : Value, e = .returned (.tuple #[v0_, .bool r2]) ∧ Kd.R k65 65 w' w.heap.size (fun _ => True) v0_ r1 ∧ Below w.heap.size w w' := by
 have HR0 := Aside0.mk hr0
 have HC0 := Aside0.mk hc0
 clear hr0 hc0
 have HR1 := Aside0.mk hr1
 have HC1 := Aside0.mk hc1
 clear hr1 hc1
 have HB := Aside0.mk (Below.refl w.heap.size w)
 have H : ((spec_StoreValid.f k l0).bind fun t1349 => (if t1349 = true then ((spec_StoreValid.f k l1).bind fun t1350 => (spec_JoinStores.j0 k l0 l1 (!t1350))) else (spec_JoinStores.j0 k l0 l1 true))) = some (r1, r2) := h
 clear h
 have HC3 := Aside0.mk H
 clear H
 go_enter Try.func60, Try.ntmps60
 go_upto_region 1 with (fail)
 go_cut [18] (fun v18 wc => ∃ (kq : Nat) (x18_2 : Bool), v18 = .bool x18_2 ∧ Aside0 (spec_JoinStores.j0 kq l0 l1 x18_2 = some (r1, r2)) ∧ Aside0 (kq ≤ k) ∧ Aside0 (Below w.heap.size w wc))
 case first =>
  have H := HC3.out
  clear HC3
  replace H := Option.bind_eq_some_iff.mp H
  obtain ⟨t1349, A40, H⟩ := H
  replace H : (if t1349 = true then ((spec_StoreValid.f k l1).bind fun t1350 => (spec_JoinStores.j0 k l0 l1 (!t1350))) else (spec_JoinStores.j0 k l0 l1 true)) = some (r1, r2) := H
  have A4 := Aside0.mk A40
  clear A40
  by_cases c5 : t1349 = true
  ·subst c5
   have H1 : ((spec_StoreValid.f k l1).bind fun t1350 => (spec_JoinStores.j0 k l0 l1 (!t1350))) = some (r1, r2) := by rw [if_pos rfl] at H; exact H
   clear H
   have H := H1
   clear H1
   replace H := Option.bind_eq_some_iff.mp H
   obtain ⟨t1350, A60, H⟩ := H
   replace H : (spec_JoinStores.j0 k l0 l1 (!t1350)) = some (r1, r2) := H
   have A6 := Aside0.mk A60
   clear A60
   have H' := Aside0.mk H
   clear H
   go_wp2_with (first | ((with_reducible refine gate_callee (f := 83) rfl ?_); refine gl_ (some 12) Try.func83 #[.slice A0 l0.length c0] ?_; (with_reducible refine (spec_StoreValid.calls k _ _ l0 true _ ?side1 ?side2 A4.out).mono ?_); (case side1 => exact kC_ (Kd.C_below HR0.out HB.out)); (case side2 => exact HC0.out); rintro e w7 ⟨rfl, hb⟩; refine ⟨_, rfl, ?_⟩; replace HB := Aside0.mk (below_step hb_ hb); (try clear hb)) | (go_at_call 83; (with_reducible refine (spec_StoreValid.calls k _ _ l1 t1350 _ ?side1 ?side2 A6.out).mono ?_); (case side1 => exact kC_ (Kd.C_below HR1.out HB.out)); (case side2 => exact HC1.out); rintro e w8 ⟨rfl, hb⟩; replace HB := Aside0.mk (below_step hb_ hb); (try clear hb)))
   go_meet
   case rel => exact ⟨_, (!t1350), rs_, H', ⟨by first | omega | exact Nat.le_refl _⟩, ⟨hb_⟩⟩
  ·replace c5 := Bool.eq_false_iff.mpr c5
   subst c5
   have H1 : (spec_JoinStores.j0 k l0 l1 true) = some (r1, r2) := by rw [if_neg (show ¬ (false = true) by decide)] at H; exact H
   clear H
   have H := H1
   clear H1
   have H' := Aside0.mk H
   clear H
   go_wp2_with (first | ((with_reducible refine gate_callee (f := 83) rfl ?_); refine gl_ (some 12) Try.func83 #[.slice A0 l0.length c0] ?_; (with_reducible refine (spec_StoreValid.calls k _ _ l0 false _ ?side1 ?side2 A4.out).mono ?_); (case side1 => exact kC_ (Kd.C_below HR0.out HB.out)); (case side2 => exact HC0.out); rintro e w9 ⟨rfl, hb⟩; refine ⟨_, rfl, ?_⟩; replace HB := Aside0.mk (below_step hb_ hb); (try clear hb)))
   go_meet
   case rel => exact ⟨_, (true), rs_, H', ⟨by first | omega | exact Nat.le_refl _⟩, ⟨hb_⟩⟩
 case rest =>
  clear HC3
  try clear c1
  try clear p2
  try clear c5
  try clear c6
  try clear c8
  obtain ⟨kq, x18_2, rfl, HA, HJ2, HB⟩ := hcut
  cases kq with
  | zero => exact absurd HA.out (by simp [spec_JoinStores.j0])
  | succ kj2 =>
   have H := HA.out
   clear HA
   simp only [spec_JoinStores.j0] at H
   by_cases c10 : x18_2 = true
   ·subst c10
    have H1 : (some ((([] : List (S65))), false)) = some (r1, r2) := by rw [if_pos rfl] at H; exact H
    clear H
    have H := H1
    clear H1
    obtain ⟨y1351, hy1351⟩ : ∃ y_ : List (S65), y_ = (([] : List (S65))) := ⟨_, rfl⟩
    replace H : (some (y1351, false)) = some (r1, r2) := hq_ hy1351 H
    have Ny1351 := Aside0.mk hy1351
    clear hy1351
    simp only [Option.some.injEq, Prod.mk.injEq] at H
    obtain ⟨rfl, rfl⟩ := H
    go_wp2_with (first | ((with_reducible refine gate_dst (N := 19) rfl ?_); refine Kd.R_lit k65 _ 65 ?hg (N := 19) ?hd (xs := ([] : List (S65))) (inner := []) (ok := fun _ => True) (okp := fun _ => True) ?hr ?hp (fun _ hk => hk) trivial (Below.refl _ _) (Nat.le_refl _) (by simp) ?_; (case hd => rfl); (case hg => rfl); (case hr => first | (go_simp; done) | (go_simp; rfl)); (case hp => exact (Reps.none _ _)); intro v1352 w11 ho12 hb hg_ hnew_; clear hg_ hnew_; (first | rw [← Ny1351.out] at ho12 | (simp only [Int.reduceToNat] at ho12; rw [← Ny1351.out] at ho12)); have HO1353 := Aside0.mk (Kd.R_lower ho12 (below_size hb_)); replace HB := Aside0.mk (below_step hb_ hb); clear hb ho12))
    go_ret2
    exact ⟨_, er_, by refine kR_ ?_; exact HO1353.out, hb_⟩
   ·replace c10 := Bool.eq_false_iff.mpr c10
    subst c10
    have H1 : ((some (([] : List (S65)) : List (S65))).bind fun y1354 => (if y1354.length + l0.length < 5864062014805 then (spec_JoinStores.l0 kj2 l1 (y1354 ++ l0) 0) else (none))) = some (r1, r2) := by rw [if_neg (show ¬ (false = true) by decide)] at H; exact H
    clear H
    have H := H1
    clear H1
    obtain ⟨y1354, hy1354⟩ : ∃ y_ : List (S65), y_ = (([] : List (S65))) := ⟨_, rfl⟩
    replace H : (if y1354.length + l0.length < 5864062014805 then (spec_JoinStores.l0 kj2 l1 (y1354 ++ l0) 0) else (none)) = some (r1, r2) := hq_ hy1354 H
    have Ny1354 := Aside0.mk hy1354
    clear hy1354
    by_cases c13 : y1354.length + l0.length < 5864062014805; rotate_left
    ·rw [if_neg c13] at H; exact absurd H (by simp)
    rw [if_pos c13] at H
    have LMc13 := Aside0.mk c13
    clear c13
    obtain ⟨y1357, hy1357⟩ : ∃ y_ : List (S65), y_ = (y1354 ++ l0) := ⟨_, rfl⟩
    replace H : (spec_JoinStores.l0 kj2 l1 y1357 0) = some (r1, r2) := hq_ hy1357 H
    have Ny1357 := Aside0.mk hy1357
    clear hy1357
    have H' := Aside0.mk H
    clear H
    go_wp2_with (first | ((with_reducible refine gate_dst (N := 20) rfl ?_); refine Kd.R_lit k65 _ 65 ?hg (N := 20) ?hd (xs := ([] : List (S65))) (inner := []) (ok := fun _ => True) (okp := fun _ => True) ?hr ?hp (fun _ hk => hk) trivial (Below.refl _ _) (Nat.le_refl _) (by simp) ?_; (case hd => rfl); (case hg => rfl); (case hr => first | (go_simp; done) | (go_simp; rfl)); (case hp => exact (Reps.none _ _)); intro v1355 w14 ho15 hb hg_ hnew_; clear hg_ hnew_; (first | rw [← Ny1354.out] at ho15 | (simp only [Int.reduceToNat] at ho15; rw [← Ny1354.out] at ho15)); have HO1356 := Aside0.mk (Kd.R_lower ho15 (below_size hb_)); replace HB := Aside0.mk (below_step hb_ hb); clear hb ho15) | ((with_reducible refine gate_builtin (b := .append) (xs := #[.tmp 20, .tmp 21]) rfl ?_); at_builtin; refine Kd.R_append_rows k65 (w0 := w) w.heap.size rfl (.tmp 20) (.tmp 21) 51 65 (.agg #[(.int .i64 0), (.string ⟨#[]⟩)]) 24 rfl Try.underlying51 info65 rfl (by decide) (by omega) v1355 y1354 l0 _ _ _ (fun _ => True) (fun _ => False) rfl rfl ?aO ?aR (fun _ _ h => h) (fun _ h => h.elim) ?aF ?aB ?aS ?aL ?_; (case aR => repeat (first | exact (Kd.C_below HR0.out HB.out) | (with_reducible refine Kd.C_alloc ?_ _) | (with_reducible refine Kd.C_drewN ?_ _) | (with_reducible refine Kd.C_drew ?_))); (case aB => exact hb_); (case aF => exact (fun _ _ => trivial)); (case aO => exact (kR_ HO1356.out)); (case aS => exact (below_size hb_)); (case aL => have := LMc13.out; omega); intro v1358 w16 ho hb hg hat; rw [← Ny1357.out] at ho; have n0_ := Aside0.mk (hb); have n1_ := Aside0.mk (ho); clear HB; clear HO1356; have HB := n0_; have HO1359 := n1_; clear n0_ n1_; clear ho hb hg hat))
    go_loopg [6, 7] kj2 (fun kq v6 v7 w' => ∃ (x6_2 : List (S65)) (x7_2 : Int), v7 = .int .i64 x7_2 ∧ Aside0 (spec_JoinStores.l0 kq l1 x6_2 x7_2 = some (r1, r2)) ∧ Aside0 (kq ≤ kj2) ∧ Aside0 (Kd.R k65 65 w' w.heap.size (fun _ => True) v6 x6_2) ∧ Aside0 (Below w.heap.size w w'))
    case atStart => exact ⟨(y1357), (0), rs_, H', ⟨Nat.le_refl _⟩, ⟨by refine kR_ ?_; exact HO1359.out⟩, ⟨hb_⟩⟩
    case round =>
     clear H'
     try clear c1
     try clear p2
     try clear c5
     try clear c6
     try clear c8
     try clear c10
     try clear c13
     try clear p2
     obtain ⟨x6_2, x7_2, rfl, HA, HK2, HO_6, HB⟩ := hrel
     cases gk with
     | zero => exact absurd HA.out (by simp [spec_JoinStores.l0])
     | succ k2 =>
      have H := HA.out
      clear HA
      simp only [spec_JoinStores.l0] at H
      by_cases c17 : x7_2 < (l1.length : Int)
      ·rw [if_pos c17] at H
       have c17b0 : decide (x7_2 < (l1.length : Int)) = true := decide_eq_true c17
       clear c17
       by_cases c18 : 0 ≤ x7_2; rotate_left
       ·rw [if_neg c18] at H; exact absurd H (by simp)
       rw [if_pos c18] at H
       have c18b0 : decide (0 ≤ x7_2) = true := decide_eq_true c18
       clear c18
       replace H := Option.bind_eq_some_iff.mp H
       obtain ⟨⟨t1361, t1362, t1363⟩, A190, H⟩ := H
       replace H : (if t1363 = true then (spec_JoinStores.l0 k2 l1 t1361 (wrap64 (x7_2 + 1))) else (some ((([] : List (S65))), false))) = some (r1, r2) := H
       have A19 := Aside0.mk A190
       clear A190
       by_cases c20 : t1363 = true
       ·subst c20
        have H1 : (spec_JoinStores.l0 k2 l1 t1361 (wrap64 (x7_2 + 1))) = some (r1, r2) := by rw [if_pos rfl] at H; exact H
        clear H
        have H := H1
        clear H1
        have H' := Aside0.mk H
        clear H
        have p1360 : 0 ≤ (x7_2 : Int) := dt_
        have q1360 : x7_2 < (l1.length : Int) := dt_
        obtain ⟨ad1360, e1360, hx1360_0, hx1360_1⟩ := at_T65 HR1.out x7_2 p1360 q1360
        cases e1360
        replace hx1360_0 := cb_ HB.out hx1360_0
        replace hx1360_1 := cb_ HB.out hx1360_1
        replace p1360 := eq_true p1360
        replace q1360 := eq_true q1360
        obtain ⟨Ao21, co21, eo21⟩ := Kd.R_slice HO_6.out
        subst eo21
        go_wp2_with (first | ((with_reducible refine gate_callee (f := 57) rfl ?_); refine gl_ (some 36) Try.func57 #[.slice Ao21 x6_2.length co21, .string ((rd_T65 l1 x7_2).f1)] ?_; (with_reducible refine (spec_PutText.calls k2 _ _ x6_2 ((rd_T65 l1 x7_2).f1) t1361 t1362 true _ ?side1 ?side2 A19.out).mono ?_); (case side1 => exact kC_ ((Kd.R_reads' HO_6.out).2.2)); (case side2 => exact (Kd.R_reads' HO_6.out).2.1); rintro e w22 ⟨v1364, rfl, ho0, hb⟩; refine ⟨_, rfl, ?_⟩; have HO1365 := Aside0.mk (Kd.R_lower (Kd.R_new' ho0 (Kd.R_lt (kR_ HO_6.out))) (below_size hb_)); replace HO_6 := Aside0.mk (Kd.R_elder' (kR_ HO_6.out) (Kd.R_base ho0) hb); replace HB := Aside0.mk (below_step hb_ hb); (try clear hb); (try clear ho0)))
        go_roundg k2
        case measure => have := HJ2.out; have := HK2.out; omega
        case rel => exact ⟨(t1361), (wrap64 (x7_2 + 1)), rs_, H', ⟨by have := HJ2.out; have := HK2.out; omega⟩, ⟨by refine kR_ ?_; exact Kd.R_mono HO1365.out (fun _ hk => trivial)⟩, ⟨hb_⟩⟩
       ·replace c20 := Bool.eq_false_iff.mpr c20
        subst c20
        have H1 : (some ((([] : List (S65))), false)) = some (r1, r2) := by rw [if_neg (show ¬ (false = true) by decide)] at H; exact H
        clear H
        have H := H1
        clear H1
        obtain ⟨y1366, hy1366⟩ : ∃ y_ : List (S65), y_ = (([] : List (S65))) := ⟨_, rfl⟩
        replace H : (some (y1366, false)) = some (r1, r2) := hq_ hy1366 H
        have Ny1366 := Aside0.mk hy1366
        clear hy1366
        simp only [Option.some.injEq, Prod.mk.injEq] at H
        obtain ⟨rfl, rfl⟩ := H
        have p1360 : 0 ≤ (x7_2 : Int) := dt_
        have q1360 : x7_2 < (l1.length : Int) := dt_
        obtain ⟨ad1360, e1360, hx1360_0, hx1360_1⟩ := at_T65 HR1.out x7_2 p1360 q1360
        cases e1360
        replace hx1360_0 := cb_ HB.out hx1360_0
        replace hx1360_1 := cb_ HB.out hx1360_1
        replace p1360 := eq_true p1360
        replace q1360 := eq_true q1360
        obtain ⟨Ao23, co23, eo23⟩ := Kd.R_slice HO_6.out
        subst eo23
        go_wp2_with (first | ((with_reducible refine gate_callee (f := 57) rfl ?_); refine gl_ (some 36) Try.func57 #[.slice Ao23 x6_2.length co23, .string ((rd_T65 l1 x7_2).f1)] ?_; (with_reducible refine (spec_PutText.calls k2 _ _ x6_2 ((rd_T65 l1 x7_2).f1) t1361 t1362 false _ ?side1 ?side2 A19.out).mono ?_); (case side1 => exact kC_ ((Kd.R_reads' HO_6.out).2.2)); (case side2 => exact (Kd.R_reads' HO_6.out).2.1); rintro e w24 ⟨v1364, rfl, ho0, hb⟩; refine ⟨_, rfl, ?_⟩; have HO1365 := Aside0.mk (Kd.R_lower (Kd.R_new' ho0 (Kd.R_lt (kR_ HO_6.out))) (below_size hb_)); replace HO_6 := Aside0.mk (Kd.R_elder' (kR_ HO_6.out) (Kd.R_base ho0) hb); replace HB := Aside0.mk (below_step hb_ hb); (try clear hb); (try clear hk); (try clear ho0)) | ((with_reducible refine gate_dst (N := 42) rfl ?_); refine Kd.R_lit k65 _ 65 ?hg (N := 42) ?hd (xs := ([] : List (S65))) (inner := []) (ok := fun _ => True) (okp := fun _ => True) ?hr ?hp (fun _ hk => hk) trivial (Below.refl _ _) (Nat.le_refl _) (by simp) ?_; (case hd => rfl); (case hg => rfl); (case hr => first | (go_simp; done) | (go_simp; rfl)); (case hp => exact (Reps.none _ _)); intro v1367 w25 ho26 hb hg_ hnew_; clear hg_ hnew_; (first | rw [← Ny1366.out] at ho26 | (simp only [Int.reduceToNat] at ho26; rw [← Ny1366.out] at ho26)); have HO1368 := Aside0.mk (Kd.R_lower (Kd.R_new' (Kd.R_new' ho26 (Kd.R_lt (kR_ HO_6.out))) (Kd.R_lt (kR_ HO1365.out))) (below_size hb_)); replace HO_6 := Aside0.mk (Kd.R_elder' (kR_ HO_6.out) (Kd.R_base ho26) hb); replace HO1365 := Aside0.mk (Kd.R_elder' (kR_ HO1365.out) (Kd.R_base ho26) hb); replace HB := Aside0.mk (below_step hb_ hb); clear hb ho26))
        go_ret2
        exact ⟨_, er_, by refine kR_ ?_; exact Kd.R_mono HO1368.out (fun _ hk => trivial), hb_⟩
      ·rw [if_neg c17] at H
       have c17b0 : decide (x7_2 < (l1.length : Int)) = false := decide_eq_false c17
       clear c17
       simp only [Option.some.injEq, Prod.mk.injEq] at H
       obtain ⟨rfl, rfl⟩ := H
       go_wp2
       go_ret2
       exact ⟨_, er_, by refine kR_ ?_; exact HO_6.out, hb_⟩
end Go.Proofs.Ytcbmkonigclceaa.P
