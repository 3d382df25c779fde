-- The functions of the seat as plain Lean functions, made by the kit's print.py for all laws at once. Not trusted: Lean checks it.
import Derived.Test.YtjgbidklkhohfaaDoorPx0
import Derived.Test.YtjgbidklkhohfaaDoorPx3
import Derived.Test.YtjgbidklkhohfaaDoorPx5
import Derived.Test.YtjgbidklkhohfaaDoorPx10
namespace Go.Proofs.YtjgbidklkhohfaaDoor.P
open Go.RowKit Go.Proofs.YtjgbidklkhohfaaDoorW.PrintWords Go.Proofs.YtjgbidklkhohfaaDoorW.PrintLast Go.Proofs.YtjgbidklkhohfaaDoorW.PrintMore
attribute [local go_sem] max2_int min2_int max_two min_two max_three min_three max_four min_four   -- for this text's walks alone
set_option linter.unusedVariables false
set_option linter.unusedSimpArgs false
/-! ### laws_FnExactProofRight: function 8 -/
def laws_FnExactProofRight.f (k : Nat) (a0 : Int) (a1 : ByteArray) (l2 : List ByteArray) : Option (Bool) := if (a1.size : Int) > 1048576 then (some true) else ((laws_szStringS.f k l2 1048576).bind fun t960 => (if t960 < 0 then (some true) else ((laws_toStringS.f k l2).bind fun t961 => ((spec_ProofRight.f k a0 a1 t961).bind fun t964 => ((laws_toStringS.f k l2).bind fun t965 => ((impl_ProofRight.f k a0 a1 t965).bind fun t968 => (if (t968 != t964) = true then (some false) else ((laws_toStringS.f k l2).bind fun t969 => ((laws_eqStringS.f k t965 t969).bind fun t972 => (if t972 = true then (some true) else (some false)))))))))))
theorem laws_FnExactProofRight.mono : ∀ a0 a1 a2 k, LeO (laws_FnExactProofRight.f k a0 a1 a2) (laws_FnExactProofRight.f (k + 1) a0 a1 a2) := by
 intro a0 a1 a2 k
 unfold laws_FnExactProofRight.f
 repeat' first
   | (with_reducible exact impl_ProofRight.mono _ _ _ _)
   | (with_reducible exact laws_eqStringS.mono _ _ _)
   | (with_reducible exact laws_szStringS.mono _ _ _)
   | (with_reducible exact laws_toStringS.mono _ _)
   | (with_reducible exact spec_ProofRight.mono _ _ _ _)
   | (with_reducible exact LeO.refl _)
   | (with_reducible exact LeO.none _)
   | (with_reducible refine LeO.ite ?_ ?_)
   | (with_reducible refine LeO.bind ?_ (fun _ => ?_))
   | exact impl_ProofRight.mono _ _ _ _
   | exact laws_eqStringS.mono _ _ _
   | exact laws_szStringS.mono _ _ _
   | exact laws_toStringS.mono _ _
   | exact spec_ProofRight.mono _ _ _ _
   | exact LeO.none _
   | refine LeO.ite ?_ ?_
   | refine LeO.bind ?_ (fun _ => ?_)
set_option maxHeartbeats 8000000 in
set_option maxRecDepth 100000 in
theorem laws_FnExactProofRight.calls (k : Nat) (a0 : Int) (a1 : ByteArray) (A2 : Option Addr) (c2 : Nat) (l2 : List ByteArray) (r : Bool) (w : World) (hr2 : Kd.C Kd.string w A2 l2.length l2) (hc2 : l2.length ≤ c2) (hG : GT w) (h : laws_FnExactProofRight.f k a0 a1 l2 = some r) (hrt : r = true) :
  Calls Tryd.prog 8 #[.int .i64 a0, .string a1, .slice A2 l2.length c2] w fun e w' => e = .returned (.bool r) ∧ Below w.heap.size w w' := by
 have HR2 := Aside0.mk hr2
 have HC2 := Aside0.mk hc2
 clear hr2 hc2
 have HB := Aside0.mk (Below.refl w.heap.size w)
 have H : (if (a1.size : Int) > 1048576 then (some true) else ((laws_szStringS.f k l2 1048576).bind fun t960 => (if t960 < 0 then (some true) else ((laws_toStringS.f k l2).bind fun t961 => ((spec_ProofRight.f k a0 a1 t961).bind fun t964 => ((laws_toStringS.f k l2).bind fun t965 => ((impl_ProofRight.f k a0 a1 t965).bind fun t968 => (if (t968 != t964) = true then (some false) else ((laws_toStringS.f k l2).bind fun t969 => ((laws_eqStringS.f k t965 t969).bind fun t972 => (if t972 = true then (some true) else (some false)))))))))))) = some r := h
 clear h
 by_cases c4 : (a1.size : Int) > 1048576
 ·rw [if_pos c4] at H
  have c4b0 : decide (1048576 < (a1.size : Int)) = true := decide_eq_true c4
  have c4b1 : decide (1048576 < a1.size) = true := decide_eq_true (by omega)
  clear c4
  obtain rfl := Option.some.inj H
  go_enter Tryd.func8, Tryd.ntmps8
  go_wp2
  go_ret
  exact ⟨er_, hb_⟩
 ·rw [if_neg c4] at H
  have c4b0 : decide (1048576 < (a1.size : Int)) = false := decide_eq_false c4
  have c4b1 : decide (1048576 < a1.size) = false := decide_eq_false (by omega)
  clear c4
  replace H := Option.bind_eq_some_iff.mp H
  obtain ⟨t960, A50, H⟩ := H
  replace H : (if t960 < 0 then (some true) else ((laws_toStringS.f k l2).bind fun t961 => ((spec_ProofRight.f k a0 a1 t961).bind fun t964 => ((laws_toStringS.f k l2).bind fun t965 => ((impl_ProofRight.f k a0 a1 t965).bind fun t968 => (if (t968 != t964) = true then (some false) else ((laws_toStringS.f k l2).bind fun t969 => ((laws_eqStringS.f k t965 t969).bind fun t972 => (if t972 = true then (some true) else (some false)))))))))) = some r := H
  have A5 := Aside0.mk A50
  clear A50
  by_cases c6 : t960 < 0
  ·rw [if_pos c6] at H
   have c6b0 : decide (t960 < 0) = true := decide_eq_true c6
   clear c6
   obtain rfl := Option.some.inj H
   go_enter Tryd.func8, Tryd.ntmps8
   go_wp2_with (first | ((with_reducible refine gate_callee (f := 38) rfl ?_); refine goesL_ (some 16) rfl rfl Tryd.func38 (by kernel_rfl) rfl #[.slice A2 l2.length c2, .int .i64 1048576] rfl sl_ ?_; (with_reducible refine (laws_szStringS.calls k _ _ l2 1048576 t960 _ ?side1 ?side2 A5.out).mono ?_); (case side1 => exact kC_ HR2.out); (case side2 => exact HC2.out); rintro e w' ⟨rfl, ⟨nd, rfl⟩⟩; refine ⟨_, rfl, ?_⟩))
   go_ret
   exact ⟨er_, hb_⟩
  ·rw [if_neg c6] at H
   have c6b0 : decide (t960 < 0) = false := decide_eq_false c6
   clear c6
   replace H := Option.bind_eq_some_iff.mp H
   obtain ⟨t961, A70, H⟩ := H
   replace H : ((spec_ProofRight.f k a0 a1 t961).bind fun t964 => ((laws_toStringS.f k l2).bind fun t965 => ((impl_ProofRight.f k a0 a1 t965).bind fun t968 => (if (t968 != t964) = true then (some false) else ((laws_toStringS.f k l2).bind fun t969 => ((laws_eqStringS.f k t965 t969).bind fun t972 => (if t972 = true then (some true) else (some false)))))))) = some r := H
   have A7 := Aside0.mk A70
   clear A70
   replace H := Option.bind_eq_some_iff.mp H
   obtain ⟨t964, A80, H⟩ := H
   replace H : ((laws_toStringS.f k l2).bind fun t965 => ((impl_ProofRight.f k a0 a1 t965).bind fun t968 => (if (t968 != t964) = true then (some false) else ((laws_toStringS.f k l2).bind fun t969 => ((laws_eqStringS.f k t965 t969).bind fun t972 => (if t972 = true then (some true) else (some false))))))) = some r := H
   have A8 := Aside0.mk A80
   clear A80
   replace H := Option.bind_eq_some_iff.mp H
   obtain ⟨t965, A90, H⟩ := H
   replace H : ((impl_ProofRight.f k a0 a1 t965).bind fun t968 => (if (t968 != t964) = true then (some false) else ((laws_toStringS.f k l2).bind fun t969 => ((laws_eqStringS.f k t965 t969).bind fun t972 => (if t972 = true then (some true) else (some false)))))) = some r := H
   have A9 := Aside0.mk A90
   clear A90
   replace H := Option.bind_eq_some_iff.mp H
   obtain ⟨t968, A100, H⟩ := H
   replace H : (if (t968 != t964) = true then (some false) else ((laws_toStringS.f k l2).bind fun t969 => ((laws_eqStringS.f k t965 t969).bind fun t972 => (if t972 = true then (some true) else (some false))))) = some r := H
   have A10 := Aside0.mk A100
   clear A100
   by_cases c11 : (t968 != t964) = true
   ·rw [if_pos c11] at H
    have c11b0 : (t968 != t964) = true := c11
    (try (have c11b1 : decide (t968 = t964) = false := by simpa using c11))
    (try (have c11b2 : (t968 == t964) = false := by simpa using c11))
    (try (have c11b3 : ¬ (t968 = t964) := by simpa using c11))
    clear c11
    exact absurd H (by subst hrt; decide)
   ·rw [if_neg c11] at H
    have c11b0 : (t968 != t964) = false := by simpa using c11
    (try (have c11b1 : decide (t968 = t964) = true := by simpa using c11))
    (try (have c11b2 : (t968 == t964) = true := by simpa using c11))
    clear c11
    replace H := Option.bind_eq_some_iff.mp H
    obtain ⟨t969, A180, H⟩ := H
    replace H : ((laws_eqStringS.f k t965 t969).bind fun t972 => (if t972 = true then (some true) else (some false))) = some r := H
    have A18 := Aside0.mk A180
    clear A180
    replace H := Option.bind_eq_some_iff.mp H
    obtain ⟨t972, A190, H⟩ := H
    replace H : (if t972 = true then (some true) else (some false)) = some r := H
    have A19 := Aside0.mk A190
    clear A190
    by_cases c20 : t972 = true
    ·subst c20
     have H1 : (some true) = some r := by rw [if_pos rfl] at H; exact H
     clear H
     have H := H1
     clear H1
     obtain rfl := Option.some.inj H
     go_enter Tryd.func8, Tryd.ntmps8
     go_wp2_with (first | ((with_reducible refine gate_callee (f := 38) rfl ?_); refine goesL_ (some 16) rfl rfl Tryd.func38 (by kernel_rfl) rfl #[.slice A2 l2.length c2, .int .i64 1048576] rfl sl_ ?_; (with_reducible refine (laws_szStringS.calls k _ _ l2 1048576 t960 _ ?side1 ?side2 A5.out).mono ?_); (case side1 => exact kC_ HR2.out); (case side2 => exact HC2.out); rintro e w' ⟨rfl, ⟨nd, rfl⟩⟩; refine ⟨_, rfl, ?_⟩) | ((with_reducible refine gate_callee (f := 40) rfl ?_); refine goesL_ (some 22) rfl rfl Tryd.func40 (by kernel_rfl) rfl #[.slice A2 l2.length c2] rfl sl_ ?_; (with_reducible refine (laws_toStringS.calls k _ _ l2 t961 _ ?side1 ?side2 A7.out).mono ?_); (case side1 => exact kC_ HR2.out); (case side2 => exact HC2.out); rintro e w21 ⟨v962, rfl, ho0, hb⟩; refine ⟨_, rfl, ?_⟩; have HO963 := Aside0.mk (Kd.R_lower ho0 (below_size hb_)); replace HB := Aside0.mk (below_step hb_ hb); (try clear hb); (try clear ho0); obtain ⟨Ao22, co22, eo22⟩ := Kd.R_slice HO963.out; subst eo22) | ((with_reducible refine gate_callee (f := 39) rfl ?_); refine goesL_ (some 23) rfl rfl Tryd.func39 (by kernel_rfl) rfl #[.int .i64 a0, .string a1, .slice Ao22 t961.length co22] rfl sl_ ?_; (with_reducible refine (spec_ProofRight.calls k a0 a1 _ _ t961 t964 _ ?side1 ?side2 A8.out).mono ?_); (case side1 => exact kC_ ((Kd.R_reads' HO963.out).2.2)); (case side2 => exact (Kd.R_reads' HO963.out).2.1); rintro e w23 ⟨rfl, hb⟩; refine ⟨_, rfl, ?_⟩; replace HO963 := Aside0.mk (Kd.R_below (kR_ HO963.out) hb); replace HB := Aside0.mk (below_step hb_ hb); (try clear hb)) | ((with_reducible refine gate_callee (f := 40) rfl ?_); refine goesL_ (some 25) rfl rfl Tryd.func40 (by kernel_rfl) rfl #[.slice A2 l2.length c2] rfl sl_ ?_; (with_reducible refine (laws_toStringS.calls k _ _ l2 t965 _ ?side1 ?side2 A9.out).mono ?_); (case side1 => exact kC_ (Kd.C_below HR2.out HB.out)); (case side2 => exact HC2.out); rintro e w24 ⟨v966, rfl, ho0, hb⟩; refine ⟨_, rfl, ?_⟩; have HO967 := Aside0.mk (Kd.R_lower (Kd.R_new' ho0 (Kd.R_lt (kR_ HO963.out))) (below_size hb_)); replace HO963 := Aside0.mk (Kd.R_elder' (kR_ HO963.out) (Kd.R_base ho0) hb); replace HB := Aside0.mk (below_step hb_ hb); (try clear hb); (try clear ho0); obtain ⟨Ao25, co25, eo25⟩ := Kd.R_slice HO967.out; subst eo25) | ((with_reducible refine gate_callee (f := 41) rfl ?_); refine goesL_ (some 29) rfl rfl Tryd.func41 (by kernel_rfl) rfl #[.int .i64 a0, .string a1, .slice Ao25 t965.length co25] rfl sl_ ?_; (with_reducible refine (impl_ProofRight.calls k a0 a1 _ _ t965 t968 _ ?side1 ?side2 (GT_on hb_ hG) A10.out).mono ?_); (case side1 => exact kC_ ((Kd.R_reads' HO967.out).2.2)); (case side2 => exact (Kd.R_reads' HO967.out).2.1); rintro e w26 ⟨rfl, hb⟩; refine ⟨_, rfl, ?_⟩; replace HO963 := Aside0.mk (Kd.R_below (kR_ HO963.out) hb); replace HO967 := Aside0.mk (Kd.R_below (kR_ HO967.out) hb); replace HB := Aside0.mk (below_step hb_ hb); (try clear hb)) | ((with_reducible refine gate_callee (f := 40) rfl ?_); refine goesL_ (some 35) rfl rfl Tryd.func40 (by kernel_rfl) rfl #[.slice A2 l2.length c2] rfl sl_ ?_; (with_reducible refine (laws_toStringS.calls k _ _ l2 t969 _ ?side1 ?side2 A18.out).mono ?_); (case side1 => exact kC_ (Kd.C_below HR2.out HB.out)); (case side2 => exact HC2.out); rintro e w27 ⟨v970, rfl, ho0, hb⟩; refine ⟨_, rfl, ?_⟩; have HO971 := Aside0.mk (Kd.R_lower (Kd.R_new' (Kd.R_new' ho0 (Kd.R_lt (kR_ HO963.out))) (Kd.R_lt (kR_ HO967.out))) (below_size hb_)); replace HO963 := Aside0.mk (Kd.R_elder' (kR_ HO963.out) (Kd.R_base ho0) hb); replace HO967 := Aside0.mk (Kd.R_elder' (kR_ HO967.out) (Kd.R_base ho0) hb); replace HB := Aside0.mk (below_step hb_ hb); (try clear hb); (try clear ho0); obtain ⟨Ao28, co28, eo28⟩ := Kd.R_slice HO971.out; subst eo28) | ((with_reducible refine gate_callee (f := 35) rfl ?_); refine goesL_ (some 36) rfl rfl Tryd.func35 (by kernel_rfl) rfl #[.slice Ao25 t965.length co25, .slice Ao28 t969.length co28] rfl sl_ ?_; (with_reducible refine (laws_eqStringS.calls k _ _ t965 _ _ t969 true _ ?side1 ?side2 ?side3 ?side4 A19.out).mono ?_); (case side1 => exact kC_ ((Kd.R_reads' HO967.out).2.2)); (case side2 => exact (Kd.R_reads' HO967.out).2.1); (case side3 => exact kC_ ((Kd.R_reads' HO971.out).2.2)); (case side4 => exact (Kd.R_reads' HO971.out).2.1); rintro e w' ⟨rfl, ⟨nd, rfl⟩⟩; refine ⟨_, rfl, ?_⟩))
     go_ret
     exact ⟨er_, hb_⟩
    ·replace c20 := Bool.eq_false_iff.mpr c20
     subst c20
     have H1 : (some false) = some r := by rw [if_neg (show ¬ (false = true) by decide)] at H; exact H
     clear H
     have H := H1
     clear H1
     exact absurd H (by subst hrt; decide)
end Go.Proofs.YtjgbidklkhohfaaDoor.P
