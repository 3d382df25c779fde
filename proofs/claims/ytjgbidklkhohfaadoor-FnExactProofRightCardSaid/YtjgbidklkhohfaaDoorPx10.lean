-- The functions of the seat as plain Lean functions, made by the kit's print.py for all laws at once. Not trusted: Lean checks it.
import Derived.Test.YtjgbidklkhohfaaDoorPx0
import Derived.Test.YtjgbidklkhohfaaDoorPx4
import Derived.Test.YtjgbidklkhohfaaDoorPx5
namespace Go.Proofs.YtjgbidklkhohfaaDoor.P
open Go.RowKit Go.Proofs.YtjgbidklkhohfaaDoorW.PrintWords Go.Proofs.YtjgbidklkhohfaaDoorW.PrintLast Go.Proofs.YtjgbidklkhohfaaDoorW.PrintMore
attribute [local go_sem] max2_int min2_int max_two min_two max_three min_three max_four min_four   -- for this text's walks alone
set_option linter.unusedVariables false
set_option linter.unusedSimpArgs false
/-! ### spec_ProofRight: function 39 -/
def spec_ProofRight.f (k : Nat) (a0 : Int) (a1 : ByteArray) (l2 : List ByteArray) : Option (Bool) := (spec_PathParts.f k a1).bind fun bt923 => (if bt923.2 = true then (if (l2.length : Int) = (wrap64 ((bt923.1.length : Int) + 1)) then ((spec_l12Way.f k a0 bt923.1 l2).bind fun t927 => (some t927)) else (some false)) else (some false))
theorem spec_ProofRight.mono : ∀ a0 a1 a2 k, LeO (spec_ProofRight.f k a0 a1 a2) (spec_ProofRight.f (k + 1) a0 a1 a2) := by
 intro a0 a1 a2 k
 unfold spec_ProofRight.f
 repeat' first
   | (with_reducible exact spec_PathParts.mono _ _)
   | (with_reducible exact spec_l12Way.mono _ _ _ _)
   | (with_reducible exact LeO.refl _)
   | (with_reducible exact LeO.none _)
   | (with_reducible refine LeO.ite ?_ ?_)
   | (with_reducible refine LeO.bind ?_ (fun _ => ?_))
   | exact spec_PathParts.mono _ _
   | exact spec_l12Way.mono _ _ _ _
   | exact LeO.none _
   | refine LeO.ite ?_ ?_
   | refine LeO.bind ?_ (fun _ => ?_)
set_option maxHeartbeats 8000000 in
set_option maxRecDepth 100000 in
theorem spec_ProofRight.calls (k : Nat) (a0 : Int) (a1 : ByteArray) (A2 : Option Addr) (c2 : Nat) (l2 : List ByteArray) (r : Bool) (w : World) (hr2 : Kd.C Kd.string w A2 l2.length l2) (hc2 : l2.length ≤ c2) (h : spec_ProofRight.f k a0 a1 l2 = some r) :
  Calls Tryd.prog 39 #[.int .i64 a0, .string a1, .slice A2 l2.length c2] w fun e w' => e = .returned (.bool r) ∧ Below w.heap.size w w' := by
 have HR2 := Aside0.mk hr2
 have HC2 := Aside0.mk hc2
 clear hr2 hc2
 have HB := Aside0.mk (Below.refl w.heap.size w)
 have H : ((spec_PathParts.f k a1).bind fun bt923 => (if bt923.2 = true then (if (l2.length : Int) = (wrap64 ((bt923.1.length : Int) + 1)) then ((spec_l12Way.f k a0 bt923.1 l2).bind fun t927 => (some t927)) else (some false)) else (some false))) = some r := h
 clear h
 replace H := Option.bind_eq_some_iff.mp H
 obtain ⟨⟨t923, t924⟩, A40, H⟩ := H
 replace H : (if t924 = true then (if (l2.length : Int) = (wrap64 ((t923.length : Int) + 1)) then ((spec_l12Way.f k a0 t923 l2).bind fun t927 => (some t927)) else (some false)) else (some false)) = some r := H
 have A4 := Aside0.mk A40
 clear A40
 by_cases c5 : t924 = true
 ·subst c5
  have H1 : (if (l2.length : Int) = (wrap64 ((t923.length : Int) + 1)) then ((spec_l12Way.f k a0 t923 l2).bind fun t927 => (some t927)) else (some false)) = some r := by rw [if_pos rfl] at H; exact H
  clear H
  have H := H1
  clear H1
  by_cases c6 : (l2.length : Int) = (wrap64 ((t923.length : Int) + 1))
  ·rw [if_pos c6] at H
   have c6b0 : ((l2.length : Int) == (wrap64 ((t923.length : Int) + 1))) = true := beq_iff_eq.mpr c6
   have c6b1 : ((l2.length : Int) != (wrap64 ((t923.length : Int) + 1))) = false := bne_eq_false_iff_eq.mpr c6
   clear c6
   replace H := Option.bind_eq_some_iff.mp H
   obtain ⟨t927, A70, H⟩ := H
   replace H : (some t927) = some r := H
   have A7 := Aside0.mk A70
   clear A70
   obtain rfl := Option.some.inj H
   go_enter Tryd.func39, Tryd.ntmps39
   go_wp2_with (first | ((with_reducible refine gate_callee (f := 63) rfl ?_); refine goesL_ (some 11) rfl rfl Tryd.func63 (by kernel_rfl) rfl #[.string a1] rfl sl_ ?_; (with_reducible refine (spec_PathParts.calls k a1 t923 true _ A4.out).mono ?_); rintro e w8 ⟨v925, rfl, ho0, hb⟩; refine ⟨_, rfl, ?_⟩; have HO926 := Aside0.mk (Kd.R_lower ho0 (below_size hb_)); replace HB := Aside0.mk (below_step hb_ hb); (try clear hb); (try clear ho0); obtain ⟨Ao9, co9, eo9⟩ := Kd.R_slice HO926.out; subst eo9) | (go_at_call 64; (with_reducible refine (spec_l12Way.calls k a0 _ _ t923 _ _ l2 t927 _ ?side1 ?side2 ?side3 ?side4 A7.out).mono ?_); (case side1 => exact kC_ ((Kd.R_reads' HO926.out).2.2)); (case side2 => exact (Kd.R_reads' HO926.out).2.1); (case side3 => exact kC_ (Kd.C_below HR2.out HB.out)); (case side4 => exact HC2.out); rintro e w10 ⟨rfl, hb⟩; replace HO926 := Aside0.mk (Kd.R_below (kR_ HO926.out) hb); replace HB := Aside0.mk (below_step hb_ hb); (try clear hb)))
   go_ret
   exact ⟨er_, hb_⟩
  ·rw [if_neg c6] at H
   have c6b0 : ((l2.length : Int) == (wrap64 ((t923.length : Int) + 1))) = false := beq_eq_false_iff_ne.mpr c6
   have c6b1 : ((l2.length : Int) != (wrap64 ((t923.length : Int) + 1))) = true := bne_iff_ne.mpr c6
   obtain rfl := Option.some.inj H
   go_enter Tryd.func39, Tryd.ntmps39
   go_wp2_with (first | ((with_reducible refine gate_callee (f := 63) rfl ?_); refine goesL_ (some 11) rfl rfl Tryd.func63 (by kernel_rfl) rfl #[.string a1] rfl sl_ ?_; (with_reducible refine (spec_PathParts.calls k a1 t923 true _ A4.out).mono ?_); rintro e w11 ⟨v925, rfl, ho0, hb⟩; refine ⟨_, rfl, ?_⟩; have HO926 := Aside0.mk (Kd.R_lower ho0 (below_size hb_)); replace HB := Aside0.mk (below_step hb_ hb); (try clear hb); (try clear ho0); obtain ⟨Ao12, co12, eo12⟩ := Kd.R_slice HO926.out; subst eo12))
   go_ret
   exact ⟨er_, hb_⟩
 ·replace c5 := Bool.eq_false_iff.mpr c5
  subst c5
  have H1 : (some false) = some r := by rw [if_neg (show ¬ (false = true) by decide)] at H; exact H
  clear H
  have H := H1
  clear H1
  obtain rfl := Option.some.inj H
  go_enter Tryd.func39, Tryd.ntmps39
  go_wp2_with (first | ((with_reducible refine gate_callee (f := 63) rfl ?_); refine goesL_ (some 11) rfl rfl Tryd.func63 (by kernel_rfl) rfl #[.string a1] rfl sl_ ?_; (with_reducible refine (spec_PathParts.calls k a1 t923 false _ A4.out).mono ?_); rintro e w13 ⟨v925, rfl, ho0, hb⟩; refine ⟨_, rfl, ?_⟩; have HO926 := Aside0.mk (Kd.R_lower ho0 (below_size hb_)); replace HB := Aside0.mk (below_step hb_ hb); (try clear hb); (try clear ho0)))
  go_ret
  exact ⟨er_, hb_⟩
/-! ### impl_ProofRight: function 41 -/
def impl_ProofRight.f (k : Nat) (a0 : Int) (a1 : ByteArray) (l2 : List ByteArray) : Option (Bool) := (impl_PathParts.f k a1).bind fun bt955 => (if bt955.2 = true then (if (l2.length : Int) = (wrap64 ((bt955.1.length : Int) + 1)) then ((impl_onTheWay.f k a0 bt955.1 l2).bind fun t959 => (some t959)) else (some false)) else (some false))
theorem impl_ProofRight.mono : ∀ a0 a1 a2 k, LeO (impl_ProofRight.f k a0 a1 a2) (impl_ProofRight.f (k + 1) a0 a1 a2) := by
 intro a0 a1 a2 k
 unfold impl_ProofRight.f
 repeat' first
   | (with_reducible exact impl_PathParts.mono _ _)
   | (with_reducible exact impl_onTheWay.mono _ _ _ _)
   | (with_reducible exact LeO.refl _)
   | (with_reducible exact LeO.none _)
   | (with_reducible refine LeO.ite ?_ ?_)
   | (with_reducible refine LeO.bind ?_ (fun _ => ?_))
   | exact impl_PathParts.mono _ _
   | exact impl_onTheWay.mono _ _ _ _
   | exact LeO.none _
   | refine LeO.ite ?_ ?_
   | refine LeO.bind ?_ (fun _ => ?_)
set_option maxHeartbeats 8000000 in
set_option maxRecDepth 100000 in
theorem impl_ProofRight.calls (k : Nat) (a0 : Int) (a1 : ByteArray) (A2 : Option Addr) (c2 : Nat) (l2 : List ByteArray) (r : Bool) (w : World) (hr2 : Kd.C Kd.string w A2 l2.length l2) (hc2 : l2.length ≤ c2) (hG : GT w) (h : impl_ProofRight.f k a0 a1 l2 = some r) :
  Calls Tryd.prog 41 #[.int .i64 a0, .string a1, .slice A2 l2.length c2] w fun e w' => e = .returned (.bool r) ∧ Below w.heap.size w w' := by
 have HR2 := Aside0.mk hr2
 have HC2 := Aside0.mk hc2
 clear hr2 hc2
 have HB := Aside0.mk (Below.refl w.heap.size w)
 have H : ((impl_PathParts.f k a1).bind fun bt955 => (if bt955.2 = true then (if (l2.length : Int) = (wrap64 ((bt955.1.length : Int) + 1)) then ((impl_onTheWay.f k a0 bt955.1 l2).bind fun t959 => (some t959)) else (some false)) else (some false))) = some r := h
 clear h
 replace H := Option.bind_eq_some_iff.mp H
 obtain ⟨⟨t955, t956⟩, A40, H⟩ := H
 replace H : (if t956 = true then (if (l2.length : Int) = (wrap64 ((t955.length : Int) + 1)) then ((impl_onTheWay.f k a0 t955 l2).bind fun t959 => (some t959)) else (some false)) else (some false)) = some r := H
 have A4 := Aside0.mk A40
 clear A40
 by_cases c5 : t956 = true
 ·subst c5
  have H1 : (if (l2.length : Int) = (wrap64 ((t955.length : Int) + 1)) then ((impl_onTheWay.f k a0 t955 l2).bind fun t959 => (some t959)) else (some false)) = some r := by rw [if_pos rfl] at H; exact H
  clear H
  have H := H1
  clear H1
  by_cases c6 : (l2.length : Int) = (wrap64 ((t955.length : Int) + 1))
  ·rw [if_pos c6] at H
   have c6b0 : ((l2.length : Int) == (wrap64 ((t955.length : Int) + 1))) = true := beq_iff_eq.mpr c6
   have c6b1 : ((l2.length : Int) != (wrap64 ((t955.length : Int) + 1))) = false := bne_eq_false_iff_eq.mpr c6
   clear c6
   replace H := Option.bind_eq_some_iff.mp H
   obtain ⟨t959, A70, H⟩ := H
   replace H : (some t959) = some r := H
   have A7 := Aside0.mk A70
   clear A70
   obtain rfl := Option.some.inj H
   go_enter Tryd.func41, Tryd.ntmps41
   go_wp2_with (first | ((with_reducible refine gate_callee (f := 65) rfl ?_); refine goesL_ (some 11) rfl rfl Tryd.func65 (by kernel_rfl) rfl #[.string a1] rfl sl_ ?_; (with_reducible refine (impl_PathParts.calls k a1 t955 true _ A4.out).mono ?_); rintro e w8 ⟨v957, rfl, ho0, hb⟩; refine ⟨_, rfl, ?_⟩; have HO958 := Aside0.mk (Kd.R_lower ho0 (below_size hb_)); replace HB := Aside0.mk (below_step hb_ hb); (try clear hb); (try clear ho0); obtain ⟨Ao9, co9, eo9⟩ := Kd.R_slice HO958.out; subst eo9) | ((with_reducible refine gate_callee (f := 66) rfl ?_); refine goesL_ (some 27) rfl rfl Tryd.func66 (by kernel_rfl) rfl #[.int .i64 a0, .slice Ao9 t955.length co9, .slice A2 l2.length c2] rfl sl_ ?_; (with_reducible refine (impl_onTheWay.calls k a0 _ _ t955 _ _ l2 t959 _ ?side1 ?side2 ?side3 ?side4 (GT_on hb_ hG) A7.out).mono ?_); (case side1 => exact kC_ ((Kd.R_reads' HO958.out).2.2)); (case side2 => exact (Kd.R_reads' HO958.out).2.1); (case side3 => exact kC_ (Kd.C_below HR2.out HB.out)); (case side4 => exact HC2.out); rintro e w10 ⟨rfl, hb⟩; refine ⟨_, rfl, ?_⟩; replace HO958 := Aside0.mk (Kd.R_below (kR_ HO958.out) hb); replace HB := Aside0.mk (below_step hb_ hb); (try clear hb)))
   go_ret
   exact ⟨er_, hb_⟩
  ·rw [if_neg c6] at H
   have c6b0 : ((l2.length : Int) == (wrap64 ((t955.length : Int) + 1))) = false := beq_eq_false_iff_ne.mpr c6
   have c6b1 : ((l2.length : Int) != (wrap64 ((t955.length : Int) + 1))) = true := bne_iff_ne.mpr c6
   obtain rfl := Option.some.inj H
   go_enter Tryd.func41, Tryd.ntmps41
   go_wp2_with (first | ((with_reducible refine gate_callee (f := 65) rfl ?_); refine goesL_ (some 11) rfl rfl Tryd.func65 (by kernel_rfl) rfl #[.string a1] rfl sl_ ?_; (with_reducible refine (impl_PathParts.calls k a1 t955 true _ A4.out).mono ?_); rintro e w11 ⟨v957, rfl, ho0, hb⟩; refine ⟨_, rfl, ?_⟩; have HO958 := Aside0.mk (Kd.R_lower ho0 (below_size hb_)); replace HB := Aside0.mk (below_step hb_ hb); (try clear hb); (try clear ho0); obtain ⟨Ao12, co12, eo12⟩ := Kd.R_slice HO958.out; subst eo12))
   go_ret
   exact ⟨er_, hb_⟩
 ·replace c5 := Bool.eq_false_iff.mpr c5
  subst c5
  have H1 : (some false) = some r := by rw [if_neg (show ¬ (false = true) by decide)] at H; exact H
  clear H
  have H := H1
  clear H1
  obtain rfl := Option.some.inj H
  go_enter Tryd.func41, Tryd.ntmps41
  go_wp2_with (first | ((with_reducible refine gate_callee (f := 65) rfl ?_); refine goesL_ (some 11) rfl rfl Tryd.func65 (by kernel_rfl) rfl #[.string a1] rfl sl_ ?_; (with_reducible refine (impl_PathParts.calls k a1 t955 false _ A4.out).mono ?_); rintro e w13 ⟨v957, rfl, ho0, hb⟩; refine ⟨_, rfl, ?_⟩; have HO958 := Aside0.mk (Kd.R_lower ho0 (below_size hb_)); replace HB := Aside0.mk (below_step hb_ hb); (try clear hb); (try clear ho0)))
  go_ret
  exact ⟨er_, hb_⟩
end Go.Proofs.YtjgbidklkhohfaaDoor.P
