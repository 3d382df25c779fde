-- The functions of the seat as plain Lean functions, made by the kit's print.py for all laws at once. Not trusted: Lean checks it.
import Derived.Test.YtjgbidklkhohfaaDoorPx0
import Derived.Test.YtjgbidklkhohfaaDoorPx3
import Derived.Test.YtjgbidklkhohfaaDoorPx6
import Derived.Test.YtjgbidklkhohfaaDoorPx7
import Derived.Test.YtjgbidklkhohfaaDoorPx8
import Derived.Test.YtjgbidklkhohfaaDoorPx15
namespace Go.Proofs.YtjgbidklkhohfaaDoor.P
open Go.RowKit Go.Proofs.YtjgbidklkhohfaaDoorW.PrintWords Go.Proofs.YtjgbidklkhohfaaDoorW.PrintLast Go.Proofs.YtjgbidklkhohfaaDoorW.PrintMore
attribute [local go_sem] max2_int min2_int max_two min_two max_three min_three max_four min_four   -- for this text's walks alone
set_option linter.unusedVariables false
set_option linter.unusedSimpArgs false
/-! ### laws_FnExactPathProof: function 11 -/
def laws_FnExactPathProof.j0 : Nat → List (S56) → Int → ByteArray → List ByteArray → List ByteArray → Bool → Option (Bool)
 | 0, _, _, _, _, _, _ => none
 | k + 1, x0, x1, x2, x8, x10, x53 => if x53 = true then (some false) else ((laws_markStringS.f k x10 1).bind fun bt1120 => ((laws_heldStringS.f k bt1120.2 1).bind fun t1122 => (if t1122 < 0 then (some false) else (if t1122 = bt1120.1 then ((laws_toPieceS.f k x0).bind fun t1123 => ((impl_PathProof.f k t1123 x1 x2).bind fun t1126 => ((laws_eqStringS.f k t1126 x8).bind fun t1129 => (if t1129 = true then ((laws_heldStringS.f k bt1120.2 1).bind fun t1130 => (if t1130 < 0 then (some false) else (if t1130 = bt1120.1 then (some true) else (some false)))) else (some false))))) else (some false)))))
def laws_FnExactPathProof.f (k : Nat) (l0 : List (S56)) (a1 : Int) (a2 : ByteArray) : Option (Bool) := if (a2.size : Int) > 1048576 then (some true) else ((laws_szPieceS.f k l0 1048576).bind fun t1099 => (if t1099 < 0 then (some true) else ((laws_toPieceS.f k l0).bind fun t1100 => ((spec_PathProof.f k t1100 a1 a2).bind fun t1103 => ((laws_toPieceS.f k l0).bind fun t1106 => ((impl_PathProof.f k t1106 a1 a2).bind fun t1109 => ((laws_eqStringS.f k t1109 t1103).bind fun t1112 => (if t1112 = true then ((laws_toPieceS.f k l0).bind fun t1113 => ((laws_eqPieceS.f k t1106 t1113).bind fun t1116 => (if t1116 = true then ((laws_markPieceS.f k t1106 1).bind fun bt1117 => (if bt1117.1 < 0 then (laws_FnExactPathProof.j0 k l0 a1 a2 t1103 t1109 true) else ((laws_eqStringS.f k t1109 t1103).bind fun t1119 => (laws_FnExactPathProof.j0 k l0 a1 a2 t1103 t1109 (!t1119))))) else (some false)))) else (some false)))))))))
theorem laws_FnExactPathProof.mono_l : ∀ k, (∀ y0 y1 y2 y3 y4 y5, LeO (laws_FnExactPathProof.j0 k y0 y1 y2 y3 y4 y5) (laws_FnExactPathProof.j0 (k + 1) y0 y1 y2 y3 y4 y5))
 | 0 => fun _ _ _ _ _ _ r h => by simp [laws_FnExactPathProof.j0] at h
 | k + 1 => by
  have ih0 := laws_FnExactPathProof.mono_l k
  ·intro y0 y1 y2 y3 y4 y5
   unfold laws_FnExactPathProof.j0
   repeat' first
   | (with_reducible exact ih0 _ _ _ _ _ _)
   | (with_reducible exact impl_PathProof.mono _ _ _ _)
   | (with_reducible exact laws_eqPieceS.mono _ _ _)
   | (with_reducible exact laws_eqStringS.mono _ _ _)
   | (with_reducible exact laws_heldStringS.mono _ _ _)
   | (with_reducible exact laws_markPieceS.mono _ _ _)
   | (with_reducible exact laws_markStringS.mono _ _ _)
   | (with_reducible exact laws_szPieceS.mono _ _ _)
   | (with_reducible exact laws_toPieceS.mono _ _)
   | (with_reducible exact spec_PathProof.mono _ _ _ _)
   | (with_reducible exact LeO.refl _)
   | (with_reducible exact LeO.none _)
   | (with_reducible refine LeO.ite ?_ ?_)
   | (with_reducible refine LeO.bind ?_ (fun _ => ?_))
   | exact ih0 _ _ _ _ _ _
   | exact impl_PathProof.mono _ _ _ _
   | exact laws_eqPieceS.mono _ _ _
   | exact laws_eqStringS.mono _ _ _
   | exact laws_heldStringS.mono _ _ _
   | exact laws_markPieceS.mono _ _ _
   | exact laws_markStringS.mono _ _ _
   | exact laws_szPieceS.mono _ _ _
   | exact laws_toPieceS.mono _ _
   | exact spec_PathProof.mono _ _ _ _
   | exact LeO.none _
   | refine LeO.ite ?_ ?_
   | refine LeO.bind ?_ (fun _ => ?_)
theorem laws_FnExactPathProof.mono : ∀ a0 a1 a2 k, LeO (laws_FnExactPathProof.f k a0 a1 a2) (laws_FnExactPathProof.f (k + 1) a0 a1 a2) := by
 intro a0 a1 a2 k
 have ih0 := laws_FnExactPathProof.mono_l k
 unfold laws_FnExactPathProof.f
 repeat' first
   | (with_reducible exact ih0 _ _ _ _ _ _)
   | (with_reducible exact impl_PathProof.mono _ _ _ _)
   | (with_reducible exact laws_eqPieceS.mono _ _ _)
   | (with_reducible exact laws_eqStringS.mono _ _ _)
   | (with_reducible exact laws_heldStringS.mono _ _ _)
   | (with_reducible exact laws_markPieceS.mono _ _ _)
   | (with_reducible exact laws_markStringS.mono _ _ _)
   | (with_reducible exact laws_szPieceS.mono _ _ _)
   | (with_reducible exact laws_toPieceS.mono _ _)
   | (with_reducible exact spec_PathProof.mono _ _ _ _)
   | (with_reducible exact LeO.refl _)
   | (with_reducible exact LeO.none _)
   | (with_reducible refine LeO.ite ?_ ?_)
   | (with_reducible refine LeO.bind ?_ (fun _ => ?_))
   | exact ih0 _ _ _ _ _ _
   | exact impl_PathProof.mono _ _ _ _
   | exact laws_eqPieceS.mono _ _ _
   | exact laws_eqStringS.mono _ _ _
   | exact laws_heldStringS.mono _ _ _
   | exact laws_markPieceS.mono _ _ _
   | exact laws_markStringS.mono _ _ _
   | exact laws_szPieceS.mono _ _ _
   | exact laws_toPieceS.mono _ _
   | exact spec_PathProof.mono _ _ _ _
   | exact LeO.none _
   | refine LeO.ite ?_ ?_
   | refine LeO.bind ?_ (fun _ => ?_)
set_option maxHeartbeats 8000000 in
set_option maxRecDepth 100000 in
theorem laws_FnExactPathProof.calls (k : Nat) (A0 : Option Addr) (c0 : Nat) (l0 : List (S56)) (a1 : Int) (a2 : ByteArray) (r : Bool) (w : World) (hr0 : Kd.C k56 w A0 l0.length l0) (hc0 : l0.length ≤ c0) (hG : GT w) (h : laws_FnExactPathProof.f k l0 a1 a2 = some r) (hrt : r = true) :
  Calls Tryd.prog 11 #[.slice A0 l0.length c0, .int .i64 a1, .string a2] w fun e w' => e = .returned (.bool r) ∧ Below w.heap.size w w' := by
 have HR0 := Aside0.mk hr0
 have HC0 := Aside0.mk hc0
 clear hr0 hc0
 have HB := Aside0.mk (Below.refl w.heap.size w)
 have H : (if (a2.size : Int) > 1048576 then (some true) else ((laws_szPieceS.f k l0 1048576).bind fun t1099 => (if t1099 < 0 then (some true) else ((laws_toPieceS.f k l0).bind fun t1100 => ((spec_PathProof.f k t1100 a1 a2).bind fun t1103 => ((laws_toPieceS.f k l0).bind fun t1106 => ((impl_PathProof.f k t1106 a1 a2).bind fun t1109 => ((laws_eqStringS.f k t1109 t1103).bind fun t1112 => (if t1112 = true then ((laws_toPieceS.f k l0).bind fun t1113 => ((laws_eqPieceS.f k t1106 t1113).bind fun t1116 => (if t1116 = true then ((laws_markPieceS.f k t1106 1).bind fun bt1117 => (if bt1117.1 < 0 then (laws_FnExactPathProof.j0 k l0 a1 a2 t1103 t1109 true) else ((laws_eqStringS.f k t1109 t1103).bind fun t1119 => (laws_FnExactPathProof.j0 k l0 a1 a2 t1103 t1109 (!t1119))))) else (some false)))) else (some false)))))))))) = some r := h
 clear h
 by_cases c4 : (a2.size : Int) > 1048576
 ·rw [if_pos c4] at H
  have c4b0 : decide (1048576 < (a2.size : Int)) = true := decide_eq_true c4
  have c4b1 : decide (1048576 < a2.size) = true := decide_eq_true (by omega)
  clear c4
  obtain rfl := Option.some.inj H
  go_enter Tryd.func11, Tryd.ntmps11
  go_wp2
  go_ret
  exact ⟨er_, hb_⟩
 ·rw [if_neg c4] at H
  have c4b0 : decide (1048576 < (a2.size : Int)) = false := decide_eq_false c4
  have c4b1 : decide (1048576 < a2.size) = false := decide_eq_false (by omega)
  clear c4
  replace H := Option.bind_eq_some_iff.mp H
  obtain ⟨t1099, A50, H⟩ := H
  replace H : (if t1099 < 0 then (some true) else ((laws_toPieceS.f k l0).bind fun t1100 => ((spec_PathProof.f k t1100 a1 a2).bind fun t1103 => ((laws_toPieceS.f k l0).bind fun t1106 => ((impl_PathProof.f k t1106 a1 a2).bind fun t1109 => ((laws_eqStringS.f k t1109 t1103).bind fun t1112 => (if t1112 = true then ((laws_toPieceS.f k l0).bind fun t1113 => ((laws_eqPieceS.f k t1106 t1113).bind fun t1116 => (if t1116 = true then ((laws_markPieceS.f k t1106 1).bind fun bt1117 => (if bt1117.1 < 0 then (laws_FnExactPathProof.j0 k l0 a1 a2 t1103 t1109 true) else ((laws_eqStringS.f k t1109 t1103).bind fun t1119 => (laws_FnExactPathProof.j0 k l0 a1 a2 t1103 t1109 (!t1119))))) else (some false)))) else (some false)))))))) = some r := H
  have A5 := Aside0.mk A50
  clear A50
  by_cases c6 : t1099 < 0
  ·rw [if_pos c6] at H
   have c6b0 : decide (t1099 < 0) = true := decide_eq_true c6
   clear c6
   obtain rfl := Option.some.inj H
   go_enter Tryd.func11, Tryd.ntmps11
   go_wp2_with (first | ((with_reducible refine gate_callee (f := 12) rfl ?_); refine goesL_ (some 20) rfl rfl Tryd.func12 (by kernel_rfl) rfl #[.slice A0 l0.length c0, .int .i64 1048576] rfl sl_ ?_; (with_reducible refine (laws_szPieceS.calls k _ _ l0 1048576 t1099 _ ?side1 ?side2 A5.out).mono ?_); (case side1 => exact kC_ HR0.out); (case side2 => exact HC0.out); rintro e w7 ⟨rfl, hb⟩; refine ⟨_, rfl, ?_⟩; replace HB := Aside0.mk (below_step hb_ hb); (try clear hb)))
   go_ret
   exact ⟨er_, hb_⟩
  ·rw [if_neg c6] at H
   have c6b0 : decide (t1099 < 0) = false := decide_eq_false c6
   clear c6
   replace H := Option.bind_eq_some_iff.mp H
   obtain ⟨t1100, A80, H⟩ := H
   replace H : ((spec_PathProof.f k t1100 a1 a2).bind fun t1103 => ((laws_toPieceS.f k l0).bind fun t1106 => ((impl_PathProof.f k t1106 a1 a2).bind fun t1109 => ((laws_eqStringS.f k t1109 t1103).bind fun t1112 => (if t1112 = true then ((laws_toPieceS.f k l0).bind fun t1113 => ((laws_eqPieceS.f k t1106 t1113).bind fun t1116 => (if t1116 = true then ((laws_markPieceS.f k t1106 1).bind fun bt1117 => (if bt1117.1 < 0 then (laws_FnExactPathProof.j0 k l0 a1 a2 t1103 t1109 true) else ((laws_eqStringS.f k t1109 t1103).bind fun t1119 => (laws_FnExactPathProof.j0 k l0 a1 a2 t1103 t1109 (!t1119))))) else (some false)))) else (some false)))))) = some r := H
   have A8 := Aside0.mk A80
   clear A80
   replace H := Option.bind_eq_some_iff.mp H
   obtain ⟨t1103, A90, H⟩ := H
   replace H : ((laws_toPieceS.f k l0).bind fun t1106 => ((impl_PathProof.f k t1106 a1 a2).bind fun t1109 => ((laws_eqStringS.f k t1109 t1103).bind fun t1112 => (if t1112 = true then ((laws_toPieceS.f k l0).bind fun t1113 => ((laws_eqPieceS.f k t1106 t1113).bind fun t1116 => (if t1116 = true then ((laws_markPieceS.f k t1106 1).bind fun bt1117 => (if bt1117.1 < 0 then (laws_FnExactPathProof.j0 k l0 a1 a2 t1103 t1109 true) else ((laws_eqStringS.f k t1109 t1103).bind fun t1119 => (laws_FnExactPathProof.j0 k l0 a1 a2 t1103 t1109 (!t1119))))) else (some false)))) else (some false))))) = some r := H
   have A9 := Aside0.mk A90
   clear A90
   replace H := Option.bind_eq_some_iff.mp H
   obtain ⟨t1106, A100, H⟩ := H
   replace H : ((impl_PathProof.f k t1106 a1 a2).bind fun t1109 => ((laws_eqStringS.f k t1109 t1103).bind fun t1112 => (if t1112 = true then ((laws_toPieceS.f k l0).bind fun t1113 => ((laws_eqPieceS.f k t1106 t1113).bind fun t1116 => (if t1116 = true then ((laws_markPieceS.f k t1106 1).bind fun bt1117 => (if bt1117.1 < 0 then (laws_FnExactPathProof.j0 k l0 a1 a2 t1103 t1109 true) else ((laws_eqStringS.f k t1109 t1103).bind fun t1119 => (laws_FnExactPathProof.j0 k l0 a1 a2 t1103 t1109 (!t1119))))) else (some false)))) else (some false)))) = some r := H
   have A10 := Aside0.mk A100
   clear A100
   replace H := Option.bind_eq_some_iff.mp H
   obtain ⟨t1109, A110, H⟩ := H
   replace H : ((laws_eqStringS.f k t1109 t1103).bind fun t1112 => (if t1112 = true then ((laws_toPieceS.f k l0).bind fun t1113 => ((laws_eqPieceS.f k t1106 t1113).bind fun t1116 => (if t1116 = true then ((laws_markPieceS.f k t1106 1).bind fun bt1117 => (if bt1117.1 < 0 then (laws_FnExactPathProof.j0 k l0 a1 a2 t1103 t1109 true) else ((laws_eqStringS.f k t1109 t1103).bind fun t1119 => (laws_FnExactPathProof.j0 k l0 a1 a2 t1103 t1109 (!t1119))))) else (some false)))) else (some false))) = some r := H
   have A11 := Aside0.mk A110
   clear A110
   replace H := Option.bind_eq_some_iff.mp H
   obtain ⟨t1112, A120, H⟩ := H
   replace H : (if t1112 = true then ((laws_toPieceS.f k l0).bind fun t1113 => ((laws_eqPieceS.f k t1106 t1113).bind fun t1116 => (if t1116 = true then ((laws_markPieceS.f k t1106 1).bind fun bt1117 => (if bt1117.1 < 0 then (laws_FnExactPathProof.j0 k l0 a1 a2 t1103 t1109 true) else ((laws_eqStringS.f k t1109 t1103).bind fun t1119 => (laws_FnExactPathProof.j0 k l0 a1 a2 t1103 t1109 (!t1119))))) else (some false)))) else (some false)) = some r := H
   have A12 := Aside0.mk A120
   clear A120
   by_cases c13 : t1112 = true
   ·subst c13
    have H1 : ((laws_toPieceS.f k l0).bind fun t1113 => ((laws_eqPieceS.f k t1106 t1113).bind fun t1116 => (if t1116 = true then ((laws_markPieceS.f k t1106 1).bind fun bt1117 => (if bt1117.1 < 0 then (laws_FnExactPathProof.j0 k l0 a1 a2 t1103 t1109 true) else ((laws_eqStringS.f k t1109 t1103).bind fun t1119 => (laws_FnExactPathProof.j0 k l0 a1 a2 t1103 t1109 (!t1119))))) else (some false)))) = some r := by rw [if_pos rfl] at H; exact H
    clear H
    have H := H1
    clear H1
    replace H := Option.bind_eq_some_iff.mp H
    obtain ⟨t1113, A140, H⟩ := H
    replace H : ((laws_eqPieceS.f k t1106 t1113).bind fun t1116 => (if t1116 = true then ((laws_markPieceS.f k t1106 1).bind fun bt1117 => (if bt1117.1 < 0 then (laws_FnExactPathProof.j0 k l0 a1 a2 t1103 t1109 true) else ((laws_eqStringS.f k t1109 t1103).bind fun t1119 => (laws_FnExactPathProof.j0 k l0 a1 a2 t1103 t1109 (!t1119))))) else (some false))) = some r := H
    have A14 := Aside0.mk A140
    clear A140
    replace H := Option.bind_eq_some_iff.mp H
    obtain ⟨t1116, A150, H⟩ := H
    replace H : (if t1116 = true then ((laws_markPieceS.f k t1106 1).bind fun bt1117 => (if bt1117.1 < 0 then (laws_FnExactPathProof.j0 k l0 a1 a2 t1103 t1109 true) else ((laws_eqStringS.f k t1109 t1103).bind fun t1119 => (laws_FnExactPathProof.j0 k l0 a1 a2 t1103 t1109 (!t1119))))) else (some false)) = some r := H
    have A15 := Aside0.mk A150
    clear A150
    by_cases c16 : t1116 = true
    ·subst c16
     have H1 : ((laws_markPieceS.f k t1106 1).bind fun bt1117 => (if bt1117.1 < 0 then (laws_FnExactPathProof.j0 k l0 a1 a2 t1103 t1109 true) else ((laws_eqStringS.f k t1109 t1103).bind fun t1119 => (laws_FnExactPathProof.j0 k l0 a1 a2 t1103 t1109 (!t1119))))) = some r := by rw [if_pos rfl] at H; exact H
     clear H
     have H := H1
     clear H1
     replace H := Option.bind_eq_some_iff.mp H
     obtain ⟨⟨t1117, t1118⟩, A170, H⟩ := H
     replace H : (if t1117 < 0 then (laws_FnExactPathProof.j0 k l0 a1 a2 t1103 t1109 true) else ((laws_eqStringS.f k t1109 t1103).bind fun t1119 => (laws_FnExactPathProof.j0 k l0 a1 a2 t1103 t1109 (!t1119)))) = some r := H
     have A17 := Aside0.mk A170
     clear A170
     have HC18 := Aside0.mk H
     clear H
     go_enter Tryd.func11, Tryd.ntmps11
     go_upto_region 16 with (first | ((with_reducible refine gate_callee (f := 12) rfl ?_); refine goesL_ (some 20) rfl rfl Tryd.func12 (by kernel_rfl) rfl #[.slice A0 l0.length c0, .int .i64 1048576] rfl sl_ ?_; (with_reducible refine (laws_szPieceS.calls k _ _ l0 1048576 t1099 _ ?side1 ?side2 A5.out).mono ?_); (case side1 => exact kC_ HR0.out); (case side2 => exact HC0.out); rintro e w19 ⟨rfl, hb⟩; refine ⟨_, rfl, ?_⟩; replace HB := Aside0.mk (below_step hb_ hb); (try clear hb)) | ((with_reducible refine gate_callee (f := 14) rfl ?_); refine goesL_ (some 24) rfl rfl Tryd.func14 (by kernel_rfl) rfl #[.slice A0 l0.length c0] rfl sl_ ?_; (with_reducible refine (laws_toPieceS.calls k _ _ l0 t1100 _ ?side1 ?side2 A8.out).mono ?_); (case side1 => exact kC_ (Kd.C_below HR0.out HB.out)); (case side2 => exact HC0.out); rintro e w20 ⟨v1101, rfl, ho0, hb⟩; refine ⟨_, rfl, ?_⟩; have HO1102 := Aside0.mk (Kd.R_lower ho0 (below_size hb_)); replace HB := Aside0.mk (below_step hb_ hb); (try clear hb); (try clear ho0); obtain ⟨Ao21, co21, eo21⟩ := Kd.R_slice HO1102.out; subst eo21) | ((with_reducible refine gate_callee (f := 46) rfl ?_); refine goesL_ (some 27) rfl rfl Tryd.func46 (by kernel_rfl) rfl #[.slice Ao21 t1100.length co21, .int .i64 a1, .string a2] rfl sl_ ?_; (with_reducible refine (spec_PathProof.calls k _ _ t1100 a1 a2 t1103 _ ?side1 ?side2 A9.out).mono ?_); (case side1 => exact kC_ ((Kd.R_reads' HO1102.out).2.2)); (case side2 => exact (Kd.R_reads' HO1102.out).2.1); rintro e w22 ⟨v1104, rfl, ho0, hb⟩; refine ⟨_, rfl, ?_⟩; replace HO1102 := Aside0.mk (Kd.R_below (kR_ HO1102.out) hb); have HO1105 := Aside0.mk (Kd.R_lower ho0 (below_size hb_)); replace HB := Aside0.mk (below_step hb_ hb); (try clear hb); (try clear ho0)) | ((with_reducible refine gate_callee (f := 14) rfl ?_); refine goesL_ (some 29) rfl rfl Tryd.func14 (by kernel_rfl) rfl #[.slice A0 l0.length c0] rfl sl_ ?_; (with_reducible refine (laws_toPieceS.calls k _ _ l0 t1106 _ ?side1 ?side2 A10.out).mono ?_); (case side1 => exact kC_ (Kd.C_below HR0.out HB.out)); (case side2 => exact HC0.out); rintro e w23 ⟨v1107, rfl, ho0, hb⟩; refine ⟨_, rfl, ?_⟩; replace HO1105 := Aside0.mk (Kd.R_below (kR_ HO1105.out) hb); have HO1108 := Aside0.mk (Kd.R_lower (Kd.R_new' ho0 (Kd.R_lt (kR_ HO1102.out))) (below_size hb_)); replace HO1102 := Aside0.mk (Kd.R_elder' (kR_ HO1102.out) (Kd.R_base ho0) hb); replace HB := Aside0.mk (below_step hb_ hb); (try clear hb); (try clear ho0); obtain ⟨Ao24, co24, eo24⟩ := Kd.R_slice HO1108.out; subst eo24) | ((with_reducible refine gate_callee (f := 47) rfl ?_); refine goesL_ (some 33) rfl rfl Tryd.func47 (by kernel_rfl) rfl #[.slice Ao24 t1106.length co24, .int .i64 a1, .string a2] rfl sl_ ?_; (with_reducible refine (impl_PathProof.calls k _ _ t1106 a1 a2 t1109 _ ?side1 ?side2 (GT_on hb_ hG) A11.out).mono ?_); (case side1 => exact kC_ ((Kd.R_reads' HO1108.out).2.2)); (case side2 => exact (Kd.R_reads' HO1108.out).2.1); rintro e w25 ⟨v1110, rfl, ho0, hb⟩; refine ⟨_, rfl, ?_⟩; replace HO1102 := Aside0.mk (Kd.R_below (kR_ HO1102.out) hb); replace HO1108 := Aside0.mk (Kd.R_below (kR_ HO1108.out) hb); have HO1111 := Aside0.mk (Kd.R_lower (Kd.R_new' ho0 (Kd.R_lt (kR_ HO1105.out))) (below_size hb_)); replace HO1105 := Aside0.mk (Kd.R_elder' (kR_ HO1105.out) (Kd.R_base ho0) hb); replace HB := Aside0.mk (below_step hb_ hb); (try clear hb); (try clear ho0); obtain ⟨Ao26, co26, eo26⟩ := Kd.R_slice HO1111.out; subst eo26; obtain ⟨Ao27, co27, eo27⟩ := Kd.R_slice HO1105.out; subst eo27) | ((with_reducible refine gate_callee (f := 35) rfl ?_); refine goesL_ (some 36) rfl rfl Tryd.func35 (by kernel_rfl) rfl #[.slice Ao26 t1109.length co26, .slice Ao27 t1103.length co27] rfl sl_ ?_; (with_reducible refine (laws_eqStringS.calls k _ _ t1109 _ _ t1103 true _ ?side1 ?side2 ?side3 ?side4 A12.out).mono ?_); (case side1 => exact kC_ ((Kd.R_reads' HO1111.out).2.2)); (case side2 => exact (Kd.R_reads' HO1111.out).2.1); (case side3 => exact kC_ ((Kd.R_reads' HO1105.out).2.2)); (case side4 => exact (Kd.R_reads' HO1105.out).2.1); rintro e w' ⟨rfl, ⟨nd, rfl⟩⟩; refine ⟨_, rfl, ?_⟩) | ((with_reducible refine gate_callee (f := 14) rfl ?_); refine goesL_ (some 40) rfl rfl Tryd.func14 (by kernel_rfl) rfl #[.slice A0 l0.length c0] rfl sl_ ?_; (with_reducible refine (laws_toPieceS.calls k _ _ l0 t1113 _ ?side1 ?side2 A14.out).mono ?_); (case side1 => exact kC_ (Kd.C_below HR0.out hb_)); (case side2 => exact HC0.out); rintro e w28 ⟨v1114, rfl, ho0, hb⟩; refine ⟨_, rfl, ?_⟩; replace HO1105 := Aside0.mk (Kd.R_below (kR_ HO1105.out) hb); replace HO1111 := Aside0.mk (Kd.R_below (kR_ HO1111.out) hb); have HO1115 := Aside0.mk (Kd.R_lower (Kd.R_new' (Kd.R_new' ho0 (Kd.R_lt (kR_ HO1102.out))) (Kd.R_lt (kR_ HO1108.out))) (below_size hb_)); replace HO1102 := Aside0.mk (Kd.R_elder' (kR_ HO1102.out) (Kd.R_base ho0) hb); replace HO1108 := Aside0.mk (Kd.R_elder' (kR_ HO1108.out) (Kd.R_base ho0) hb); replace HB := Aside0.mk (below_step hb_ hb); (try clear hb); (try clear ho0); obtain ⟨Ao29, co29, eo29⟩ := Kd.R_slice HO1115.out; subst eo29) | ((with_reducible refine gate_callee (f := 18) rfl ?_); refine goesL_ (some 41) rfl rfl Tryd.func18 (by kernel_rfl) rfl #[.slice Ao24 t1106.length co24, .slice Ao29 t1113.length co29] rfl sl_ ?_; (with_reducible refine (laws_eqPieceS.calls k _ _ t1106 _ _ t1113 true _ ?side1 ?side2 ?side3 ?side4 A15.out).mono ?_); (case side1 => exact kC_ ((Kd.R_reads' HO1108.out).2.2)); (case side2 => exact (Kd.R_reads' HO1108.out).2.1); (case side3 => exact kC_ ((Kd.R_reads' HO1115.out).2.2)); (case side4 => exact (Kd.R_reads' HO1115.out).2.1); rintro e w30 ⟨rfl, hb⟩; refine ⟨_, rfl, ?_⟩; replace HO1102 := Aside0.mk (Kd.R_below (kR_ HO1102.out) hb); replace HO1105 := Aside0.mk (Kd.R_below (kR_ HO1105.out) hb); replace HO1108 := Aside0.mk (Kd.R_below (kR_ HO1108.out) hb); replace HO1111 := Aside0.mk (Kd.R_below (kR_ HO1111.out) hb); replace HO1115 := Aside0.mk (Kd.R_below (kR_ HO1115.out) hb); replace HB := Aside0.mk (below_step hb_ hb); (try clear hb)) | ((with_reducible refine gate_callee (f := 19) rfl ?_); refine goesL_ (some 45) rfl rfl Tryd.func19 (by kernel_rfl) rfl #[.slice Ao24 t1106.length co24, .int .i64 1] rfl sl_ ?_; (with_reducible refine (laws_markPieceS.calls k (fun k_ => some k_ = (.slice Ao24 t1106.length co24 : Value).ownBlock) (.slice Ao24 t1106.length co24) t1106 1 t1117 t1118 w _ ?side1 ?side2 A17.out).mono ?_); (case side1 => repeat (first | (with_reducible first | exact HB.out | apply below_alloc | apply pw_below_drewN | apply below_drew1) | exact HB.out)); (case side2 => exact Kd.R_tight rfl HO1108.out); rintro e w31 ⟨rfl, hy0, hb, hkp⟩; refine ⟨_, rfl, ?_⟩; replace HO1102 := Aside0.mk (Kd.R_mono (ok' := fun k_ => some k_ ≠ (.slice Ao24 t1106.length co24 : Value).ownBlock ∧ some k_ ≠ (.slice Ao29 t1113.length co29 : Value).ownBlock) (Kd.R_keptB (HO1102.out) hkp (fun k_ hk_ hs_ => (hk_.1.2) hs_)) (fun k_ hk_ => ⟨hk_.1.1.2, hk_.1.2⟩)); replace HO1105 := Aside0.mk (Kd.R_mono (ok' := fun k_ => some k_ ≠ (.slice Ao26 t1109.length co26 : Value).ownBlock) (Kd.R_keptB ((Kd.R_apart' HO1105.out (Kd.R_typed HO1108.out) (by decide))) hkp (fun k_ hk_ hs_ => (hk_.2) hs_)) (fun k_ hk_ => hk_.1.1.2)); replace HO1111 := Aside0.mk (Kd.R_mono (ok' := fun k_ => some k_ ≠ (.slice Ao27 t1103.length co27 : Value).ownBlock) (Kd.R_keptB ((Kd.R_apart' HO1111.out (Kd.R_typed HO1108.out) (by decide))) hkp (fun k_ hk_ hs_ => (hk_.2) hs_)) (fun k_ hk_ => hk_.1.1.2)); replace HO1108 := Aside0.mk (Kd.R_reok rfl hy0 (fun k_ e_ => HO1108.out.1 k_ e_)); replace HO1115 := Aside0.mk (Kd.R_mono (ok' := fun k_ => some k_ ≠ (.slice Ao21 t1100.length co21 : Value).ownBlock ∧ some k_ ≠ (.slice Ao24 t1106.length co24 : Value).ownBlock) (Kd.R_keptB (HO1115.out) hkp (fun k_ hk_ hs_ => (hk_.2) hs_)) (fun k_ hk_ => ⟨hk_.1.1.2, hk_.1.2⟩)); replace HB := Aside0.mk (hb); (try clear hb); (try clear hkp); (try clear hy0)))
     (try simp only [Act.put, List.setIfInBounds_toArray, List.set_cons_zero, List.set_cons_succ])
     go_cut [53] (fun v53 wc => ∃ (kq : Nat) (x53_17 : Bool), v53 = .bool x53_17 ∧ Aside0 (laws_FnExactPathProof.j0 kq l0 a1 a2 t1103 t1109 x53_17 = some r) ∧ Aside0 (kq ≤ k) ∧ Aside0 (Kd.R Kd.string 9 wc w.heap.size (fun k_ => some k_ ≠ ((.slice Ao26 t1109.length co26) : Value).ownBlock) (.slice Ao27 t1103.length co27) t1103) ∧ Aside0 (Kd.R Kd.string 9 wc w.heap.size (fun k_ => some k_ ≠ ((.slice Ao27 t1103.length co27) : Value).ownBlock) (.slice Ao26 t1109.length co26) t1109) ∧ Aside0 (Below w.heap.size w wc))
     case first =>
      have H := HC18.out
      clear HC18
      by_cases c32 : t1117 < 0
      ·rw [if_pos c32] at H
       have c32b0 : decide (t1117 < 0) = true := decide_eq_true c32
       clear c32
       (first | rw [c32b0] | (simp only [i64_w, i32_w]; rw [c32b0]) | skip)
       have H' := Aside0.mk H
       clear H
       go_wp2
       go_meet
       case rel => exact ⟨_, (true), (by first | rfl | (simp; done) | (simp [*]; done)), H', ⟨by first | omega | exact Nat.le_refl _⟩, ⟨by (with_reducible repeat (first | apply Kd.R_alloc | apply Kd.R_drewN | apply Kd.R_drew)); exact HO1105.out⟩, ⟨by (with_reducible repeat (first | apply Kd.R_alloc | apply Kd.R_drewN | apply Kd.R_drew)); exact HO1111.out⟩, ⟨hb_⟩⟩
      ·rw [if_neg c32] at H
       have c32b0 : decide (t1117 < 0) = false := decide_eq_false c32
       clear c32
       (first | rw [c32b0] | (simp only [i64_w, i32_w]; rw [c32b0]) | skip)
       replace H := Option.bind_eq_some_iff.mp H
       obtain ⟨t1119, A330, H⟩ := H
       replace H : (laws_FnExactPathProof.j0 k l0 a1 a2 t1103 t1109 (!t1119)) = some r := H
       have A33 := Aside0.mk A330
       clear A330
       have H' := Aside0.mk H
       clear H
       go_wp2_with (first | (go_at_call 35; (with_reducible refine (laws_eqStringS.calls k _ _ t1109 _ _ t1103 t1119 _ ?side1 ?side2 ?side3 ?side4 A33.out).mono ?_); (case side1 => exact kC_ ((Kd.R_reads' HO1111.out).2.2)); (case side2 => exact (Kd.R_reads' HO1111.out).2.1); (case side3 => exact kC_ ((Kd.R_reads' HO1105.out).2.2)); (case side4 => exact (Kd.R_reads' HO1105.out).2.1); rintro e w' ⟨rfl, ⟨nd, rfl⟩⟩))
       go_meet
       case rel => exact ⟨_, (!t1119), (by first | rfl | (simp; done) | (simp [*]; done)), H', ⟨by first | omega | exact Nat.le_refl _⟩, ⟨by (with_reducible repeat (first | apply Kd.R_alloc | apply Kd.R_drewN | apply Kd.R_drew)); exact HO1105.out⟩, ⟨by (with_reducible repeat (first | apply Kd.R_alloc | apply Kd.R_drewN | apply Kd.R_drew)); exact HO1111.out⟩, ⟨hb_⟩⟩
     case rest =>
      clear HC18
      try clear c1
      try clear p2
      try clear c3
      try clear c4
      try clear c4b0
      try clear c4b1
      try clear c6
      try clear c6b0
      try clear c11
      try clear c12
      try clear c13
      try clear c14
      try clear c16
      try clear c18
      try clear c19
      try clear c32
      try clear c32b0
      obtain ⟨kq, x53_17, rfl, HA, HJ17, HO_8, HO_10, HB⟩ := hcut
      cases kq with
      | zero => exact absurd HA.out (by simp [laws_FnExactPathProof.j0])
      | succ kj17 =>
       have H := HA.out
       clear HA
       simp only [laws_FnExactPathProof.j0] at H
       by_cases c34 : x53_17 = true
       ·subst c34
        have H1 : (some false) = some r := by rw [if_pos rfl] at H; exact H
        clear H
        have H := H1
        clear H1
        exact absurd H (by subst hrt; decide)
       ·replace c34 := Bool.eq_false_iff.mpr c34
        subst c34
        have H1 : ((laws_markStringS.f kj17 t1109 1).bind fun bt1120 => ((laws_heldStringS.f kj17 bt1120.2 1).bind fun t1122 => (if t1122 < 0 then (some false) else (if t1122 = bt1120.1 then ((laws_toPieceS.f kj17 l0).bind fun t1123 => ((impl_PathProof.f kj17 t1123 a1 a2).bind fun t1126 => ((laws_eqStringS.f kj17 t1126 t1103).bind fun t1129 => (if t1129 = true then ((laws_heldStringS.f kj17 bt1120.2 1).bind fun t1130 => (if t1130 < 0 then (some false) else (if t1130 = bt1120.1 then (some true) else (some false)))) else (some false))))) else (some false))))) = some r := by rw [if_neg (show ¬ (false = true) by decide)] at H; exact H
        clear H
        have H := H1
        clear H1
        replace H := Option.bind_eq_some_iff.mp H
        obtain ⟨⟨t1120, t1121⟩, A350, H⟩ := H
        replace H : ((laws_heldStringS.f kj17 t1121 1).bind fun t1122 => (if t1122 < 0 then (some false) else (if t1122 = t1120 then ((laws_toPieceS.f kj17 l0).bind fun t1123 => ((impl_PathProof.f kj17 t1123 a1 a2).bind fun t1126 => ((laws_eqStringS.f kj17 t1126 t1103).bind fun t1129 => (if t1129 = true then ((laws_heldStringS.f kj17 t1121 1).bind fun t1130 => (if t1130 < 0 then (some false) else (if t1130 = t1120 then (some true) else (some false)))) else (some false))))) else (some false)))) = some r := H
        have A35 := Aside0.mk A350
        clear A350
        replace H := Option.bind_eq_some_iff.mp H
        obtain ⟨t1122, A360, H⟩ := H
        replace H : (if t1122 < 0 then (some false) else (if t1122 = t1120 then ((laws_toPieceS.f kj17 l0).bind fun t1123 => ((impl_PathProof.f kj17 t1123 a1 a2).bind fun t1126 => ((laws_eqStringS.f kj17 t1126 t1103).bind fun t1129 => (if t1129 = true then ((laws_heldStringS.f kj17 t1121 1).bind fun t1130 => (if t1130 < 0 then (some false) else (if t1130 = t1120 then (some true) else (some false)))) else (some false))))) else (some false))) = some r := H
        have A36 := Aside0.mk A360
        clear A360
        by_cases c37 : t1122 < 0
        ·rw [if_pos c37] at H
         have c37b0 : decide (t1122 < 0) = true := decide_eq_true c37
         clear c37
         exact absurd H (by subst hrt; decide)
        ·rw [if_neg c37] at H
         have c37b0 : decide (t1122 < 0) = false := decide_eq_false c37
         clear c37
         by_cases c40 : t1122 = t1120
         ·rw [if_pos c40] at H
          have c40b0 : (t1122 == t1120) = true := beq_iff_eq.mpr c40
          have c40b1 : (t1122 != t1120) = false := bne_eq_false_iff_eq.mpr c40
          clear c40
          replace H := Option.bind_eq_some_iff.mp H
          obtain ⟨t1123, A410, H⟩ := H
          replace H : ((impl_PathProof.f kj17 t1123 a1 a2).bind fun t1126 => ((laws_eqStringS.f kj17 t1126 t1103).bind fun t1129 => (if t1129 = true then ((laws_heldStringS.f kj17 t1121 1).bind fun t1130 => (if t1130 < 0 then (some false) else (if t1130 = t1120 then (some true) else (some false)))) else (some false)))) = some r := H
          have A41 := Aside0.mk A410
          clear A410
          replace H := Option.bind_eq_some_iff.mp H
          obtain ⟨t1126, A420, H⟩ := H
          replace H : ((laws_eqStringS.f kj17 t1126 t1103).bind fun t1129 => (if t1129 = true then ((laws_heldStringS.f kj17 t1121 1).bind fun t1130 => (if t1130 < 0 then (some false) else (if t1130 = t1120 then (some true) else (some false)))) else (some false))) = some r := H
          have A42 := Aside0.mk A420
          clear A420
          replace H := Option.bind_eq_some_iff.mp H
          obtain ⟨t1129, A430, H⟩ := H
          replace H : (if t1129 = true then ((laws_heldStringS.f kj17 t1121 1).bind fun t1130 => (if t1130 < 0 then (some false) else (if t1130 = t1120 then (some true) else (some false)))) else (some false)) = some r := H
          have A43 := Aside0.mk A430
          clear A430
          by_cases c44 : t1129 = true
          ·subst c44
           have H1 : ((laws_heldStringS.f kj17 t1121 1).bind fun t1130 => (if t1130 < 0 then (some false) else (if t1130 = t1120 then (some true) else (some false)))) = some r := by rw [if_pos rfl] at H; exact H
           clear H
           have H := H1
           clear H1
           replace H := Option.bind_eq_some_iff.mp H
           obtain ⟨t1130, A450, H⟩ := H
           replace H : (if t1130 < 0 then (some false) else (if t1130 = t1120 then (some true) else (some false))) = some r := H
           have A45 := Aside0.mk A450
           clear A450
           by_cases c46 : t1130 < 0
           ·rw [if_pos c46] at H
            have c46b0 : decide (t1130 < 0) = true := decide_eq_true c46
            clear c46
            exact absurd H (by subst hrt; decide)
           ·rw [if_neg c46] at H
            have c46b0 : decide (t1130 < 0) = false := decide_eq_false c46
            clear c46
            by_cases c54 : t1130 = t1120
            ·rw [if_pos c54] at H
             have c54b0 : (t1130 == t1120) = true := beq_iff_eq.mpr c54
             have c54b1 : (t1130 != t1120) = false := bne_eq_false_iff_eq.mpr c54
             clear c54
             obtain rfl := Option.some.inj H
             go_wp2_with (first | ((with_reducible refine gate_callee (f := 36) rfl ?_); refine goesL_ (some 56) rfl rfl Tryd.func36 (by kernel_rfl) rfl #[.slice Ao26 t1109.length co26, .int .i64 1] rfl sl_ ?_; (with_reducible refine (laws_markStringS.calls kj17 (fun k_ => some k_ = (.slice Ao26 t1109.length co26 : Value).ownBlock) (.slice Ao26 t1109.length co26) t1109 1 t1120 t1121 w _ ?side1 ?side2 A35.out).mono ?_); (case side1 => repeat (first | (with_reducible first | exact HB.out | apply below_alloc | apply pw_below_drewN | apply below_drew1) | exact HB.out)); (case side2 => exact Kd.R_tight rfl HO_10.out); rintro e w55 ⟨rfl, hy0, hb, hkp⟩; refine ⟨_, rfl, ?_⟩; replace HO_8 := Aside0.mk (Kd.R_mono (ok' := fun k_ => some k_ ≠ (.slice Ao26 t1109.length co26 : Value).ownBlock) (Kd.R_keptB (HO_8.out) hkp (fun k_ hk_ hs_ => (hk_) hs_)) (fun k_ hk_ => hk_.1)); replace HO_10 := Aside0.mk (Kd.R_reok rfl hy0 (fun k_ e_ => HO_10.out.1 k_ e_)); replace HB := Aside0.mk (hb); (try clear hb); (try clear hkp); (try clear hy0)) | ((with_reducible refine gate_callee (f := 37) rfl ?_); refine goesL_ (some 59) rfl rfl Tryd.func37 (by kernel_rfl) rfl #[.slice Ao26 t1121.length co26, .int .i64 1] rfl (by (try simp only [List.map_toArray, List.map_cons, List.map_nil]); first | done | (rw [show t1121.length = t1109.length from (Kd.R_reads' HO_10.out).1.symm] <;> rfl) | rfl | (simp only [List.length_drop, List.length_take]; rfl)) ?_; (with_reducible refine (laws_heldStringS.calls kj17 _ _ t1121 1 t1122 _ ?side1 ?side2 A36.out).mono ?_); (case side1 => exact kC_ ((Kd.R_reads' HO_10.out).2.2)); (case side2 => rw [show t1121.length = t1109.length from (Kd.R_reads' HO_10.out).1.symm]; exact (Kd.R_reads' HO_10.out).2.1); rintro e w56 ⟨rfl, hb⟩; refine ⟨_, rfl, ?_⟩; replace HO_8 := Aside0.mk (Kd.R_below (kR_ HO_8.out) hb); replace HO_10 := Aside0.mk (Kd.R_below (kR_ HO_10.out) hb); replace HB := Aside0.mk (below_step hb_ hb); (try clear hb)) | ((with_reducible refine gate_callee (f := 14) rfl ?_); refine goesL_ (some 66) rfl rfl Tryd.func14 (by kernel_rfl) rfl #[.slice A0 l0.length c0] rfl sl_ ?_; (with_reducible refine (laws_toPieceS.calls kj17 _ _ l0 t1123 _ ?side1 ?side2 A41.out).mono ?_); (case side1 => exact kC_ (Kd.C_below HR0.out HB.out)); (case side2 => exact HC0.out); rintro e w57 ⟨v1124, rfl, ho0, hb⟩; refine ⟨_, rfl, ?_⟩; replace HO_8 := Aside0.mk (Kd.R_below (kR_ HO_8.out) hb); replace HO_10 := Aside0.mk (Kd.R_below (kR_ HO_10.out) hb); have HO1125 := Aside0.mk (Kd.R_lower ho0 (below_size hb_)); replace HB := Aside0.mk (below_step hb_ hb); (try clear hb); (try clear ho0); obtain ⟨Ao58, co58, eo58⟩ := Kd.R_slice HO1125.out; subst eo58) | ((with_reducible refine gate_callee (f := 47) rfl ?_); refine goesL_ (some 69) rfl rfl Tryd.func47 (by kernel_rfl) rfl #[.slice Ao58 t1123.length co58, .int .i64 a1, .string a2] rfl sl_ ?_; (with_reducible refine (impl_PathProof.calls kj17 _ _ t1123 a1 a2 t1126 _ ?side1 ?side2 (GT_on hb_ hG) A42.out).mono ?_); (case side1 => exact kC_ ((Kd.R_reads' HO1125.out).2.2)); (case side2 => exact (Kd.R_reads' HO1125.out).2.1); rintro e w59 ⟨v1127, rfl, ho0, hb⟩; refine ⟨_, rfl, ?_⟩; replace HO1125 := Aside0.mk (Kd.R_below (kR_ HO1125.out) hb); have HO1128 := Aside0.mk (Kd.R_lower (Kd.R_new' (Kd.R_new' ho0 (Kd.R_lt (kR_ HO_8.out))) (Kd.R_lt (kR_ HO_10.out))) (below_size hb_)); replace HO_8 := Aside0.mk (Kd.R_elder' (kR_ HO_8.out) (Kd.R_base ho0) hb); replace HO_10 := Aside0.mk (Kd.R_elder' (kR_ HO_10.out) (Kd.R_base ho0) hb); replace HB := Aside0.mk (below_step hb_ hb); (try clear hb); (try clear ho0); obtain ⟨Ao60, co60, eo60⟩ := Kd.R_slice HO1128.out; subst eo60) | ((with_reducible refine gate_callee (f := 35) rfl ?_); refine goesL_ (some 72) rfl rfl Tryd.func35 (by kernel_rfl) rfl #[.slice Ao60 t1126.length co60, .slice Ao27 t1103.length co27] rfl sl_ ?_; (with_reducible refine (laws_eqStringS.calls kj17 _ _ t1126 _ _ t1103 true _ ?side1 ?side2 ?side3 ?side4 A43.out).mono ?_); (case side1 => exact kC_ ((Kd.R_reads' HO1128.out).2.2)); (case side2 => exact (Kd.R_reads' HO1128.out).2.1); (case side3 => exact kC_ ((Kd.R_reads' HO_8.out).2.2)); (case side4 => exact (Kd.R_reads' HO_8.out).2.1); rintro e w' ⟨rfl, ⟨nd, rfl⟩⟩; refine ⟨_, rfl, ?_⟩) | ((with_reducible refine gate_callee (f := 37) rfl ?_); refine goesL_ (some 76) rfl rfl Tryd.func37 (by kernel_rfl) rfl #[.slice Ao26 t1121.length co26, .int .i64 1] rfl (by (try simp only [List.map_toArray, List.map_cons, List.map_nil]); first | done | (rw [show t1121.length = t1109.length from (Kd.R_reads' HO_10.out).1.symm] <;> rfl) | rfl | (simp only [List.length_drop, List.length_take]; rfl)) ?_; (with_reducible refine (laws_heldStringS.calls kj17 _ _ t1121 1 t1130 _ ?side1 ?side2 A45.out).mono ?_); (case side1 => exact kC_ ((Kd.R_reads' HO_10.out).2.2)); (case side2 => rw [show t1121.length = t1109.length from (Kd.R_reads' HO_10.out).1.symm]; exact (Kd.R_reads' HO_10.out).2.1); rintro e w61 ⟨rfl, hb⟩; refine ⟨_, rfl, ?_⟩; replace HO_8 := Aside0.mk (Kd.R_below (kR_ HO_8.out) hb); replace HO_10 := Aside0.mk (Kd.R_below (kR_ HO_10.out) hb); replace HO1125 := Aside0.mk (Kd.R_below (kR_ HO1125.out) hb); replace HO1128 := Aside0.mk (Kd.R_below (kR_ HO1128.out) hb); replace HB := Aside0.mk (below_step hb_ hb); (try clear hb)))
             go_ret
             exact ⟨er_, hb_⟩
            ·rw [if_neg c54] at H
             have c54b0 : (t1130 == t1120) = false := beq_eq_false_iff_ne.mpr c54
             have c54b1 : (t1130 != t1120) = true := bne_iff_ne.mpr c54
             obtain rfl := Option.some.inj H
             go_wp2_with (first | ((with_reducible refine gate_callee (f := 36) rfl ?_); refine goesL_ (some 56) rfl rfl Tryd.func36 (by kernel_rfl) rfl #[.slice Ao26 t1109.length co26, .int .i64 1] rfl sl_ ?_; (with_reducible refine (laws_markStringS.calls kj17 (fun k_ => some k_ = (.slice Ao26 t1109.length co26 : Value).ownBlock) (.slice Ao26 t1109.length co26) t1109 1 t1120 t1121 w _ ?side1 ?side2 A35.out).mono ?_); (case side1 => repeat (first | (with_reducible first | exact HB.out | apply below_alloc | apply pw_below_drewN | apply below_drew1) | exact HB.out)); (case side2 => exact Kd.R_tight rfl HO_10.out); rintro e w62 ⟨rfl, hy0, hb, hkp⟩; refine ⟨_, rfl, ?_⟩; replace HO_8 := Aside0.mk (Kd.R_mono (ok' := fun k_ => some k_ ≠ (.slice Ao26 t1109.length co26 : Value).ownBlock) (Kd.R_keptB (HO_8.out) hkp (fun k_ hk_ hs_ => (hk_) hs_)) (fun k_ hk_ => hk_.1)); replace HO_10 := Aside0.mk (Kd.R_reok rfl hy0 (fun k_ e_ => HO_10.out.1 k_ e_)); replace HB := Aside0.mk (hb); (try clear hb); (try clear hkp); (try clear hy0)) | ((with_reducible refine gate_callee (f := 37) rfl ?_); refine goesL_ (some 59) rfl rfl Tryd.func37 (by kernel_rfl) rfl #[.slice Ao26 t1121.length co26, .int .i64 1] rfl (by (try simp only [List.map_toArray, List.map_cons, List.map_nil]); first | done | (rw [show t1121.length = t1109.length from (Kd.R_reads' HO_10.out).1.symm] <;> rfl) | rfl | (simp only [List.length_drop, List.length_take]; rfl)) ?_; (with_reducible refine (laws_heldStringS.calls kj17 _ _ t1121 1 t1122 _ ?side1 ?side2 A36.out).mono ?_); (case side1 => exact kC_ ((Kd.R_reads' HO_10.out).2.2)); (case side2 => rw [show t1121.length = t1109.length from (Kd.R_reads' HO_10.out).1.symm]; exact (Kd.R_reads' HO_10.out).2.1); rintro e w63 ⟨rfl, hb⟩; refine ⟨_, rfl, ?_⟩; replace HO_8 := Aside0.mk (Kd.R_below (kR_ HO_8.out) hb); replace HO_10 := Aside0.mk (Kd.R_below (kR_ HO_10.out) hb); replace HB := Aside0.mk (below_step hb_ hb); (try clear hb)) | ((with_reducible refine gate_callee (f := 14) rfl ?_); refine goesL_ (some 66) rfl rfl Tryd.func14 (by kernel_rfl) rfl #[.slice A0 l0.length c0] rfl sl_ ?_; (with_reducible refine (laws_toPieceS.calls kj17 _ _ l0 t1123 _ ?side1 ?side2 A41.out).mono ?_); (case side1 => exact kC_ (Kd.C_below HR0.out HB.out)); (case side2 => exact HC0.out); rintro e w64 ⟨v1124, rfl, ho0, hb⟩; refine ⟨_, rfl, ?_⟩; replace HO_8 := Aside0.mk (Kd.R_below (kR_ HO_8.out) hb); replace HO_10 := Aside0.mk (Kd.R_below (kR_ HO_10.out) hb); have HO1125 := Aside0.mk (Kd.R_lower ho0 (below_size hb_)); replace HB := Aside0.mk (below_step hb_ hb); (try clear hb); (try clear ho0); obtain ⟨Ao65, co65, eo65⟩ := Kd.R_slice HO1125.out; subst eo65) | ((with_reducible refine gate_callee (f := 47) rfl ?_); refine goesL_ (some 69) rfl rfl Tryd.func47 (by kernel_rfl) rfl #[.slice Ao65 t1123.length co65, .int .i64 a1, .string a2] rfl sl_ ?_; (with_reducible refine (impl_PathProof.calls kj17 _ _ t1123 a1 a2 t1126 _ ?side1 ?side2 (GT_on hb_ hG) A42.out).mono ?_); (case side1 => exact kC_ ((Kd.R_reads' HO1125.out).2.2)); (case side2 => exact (Kd.R_reads' HO1125.out).2.1); rintro e w66 ⟨v1127, rfl, ho0, hb⟩; refine ⟨_, rfl, ?_⟩; replace HO1125 := Aside0.mk (Kd.R_below (kR_ HO1125.out) hb); have HO1128 := Aside0.mk (Kd.R_lower (Kd.R_new' (Kd.R_new' ho0 (Kd.R_lt (kR_ HO_8.out))) (Kd.R_lt (kR_ HO_10.out))) (below_size hb_)); replace HO_8 := Aside0.mk (Kd.R_elder' (kR_ HO_8.out) (Kd.R_base ho0) hb); replace HO_10 := Aside0.mk (Kd.R_elder' (kR_ HO_10.out) (Kd.R_base ho0) hb); replace HB := Aside0.mk (below_step hb_ hb); (try clear hb); (try clear ho0); obtain ⟨Ao67, co67, eo67⟩ := Kd.R_slice HO1128.out; subst eo67) | ((with_reducible refine gate_callee (f := 35) rfl ?_); refine goesL_ (some 72) rfl rfl Tryd.func35 (by kernel_rfl) rfl #[.slice Ao67 t1126.length co67, .slice Ao27 t1103.length co27] rfl sl_ ?_; (with_reducible refine (laws_eqStringS.calls kj17 _ _ t1126 _ _ t1103 true _ ?side1 ?side2 ?side3 ?side4 A43.out).mono ?_); (case side1 => exact kC_ ((Kd.R_reads' HO1128.out).2.2)); (case side2 => exact (Kd.R_reads' HO1128.out).2.1); (case side3 => exact kC_ ((Kd.R_reads' HO_8.out).2.2)); (case side4 => exact (Kd.R_reads' HO_8.out).2.1); rintro e w' ⟨rfl, ⟨nd, rfl⟩⟩; refine ⟨_, rfl, ?_⟩) | ((with_reducible refine gate_callee (f := 37) rfl ?_); refine goesL_ (some 76) rfl rfl Tryd.func37 (by kernel_rfl) rfl #[.slice Ao26 t1121.length co26, .int .i64 1] rfl (by (try simp only [List.map_toArray, List.map_cons, List.map_nil]); first | done | (rw [show t1121.length = t1109.length from (Kd.R_reads' HO_10.out).1.symm] <;> rfl) | rfl | (simp only [List.length_drop, List.length_take]; rfl)) ?_; (with_reducible refine (laws_heldStringS.calls kj17 _ _ t1121 1 t1130 _ ?side1 ?side2 A45.out).mono ?_); (case side1 => exact kC_ ((Kd.R_reads' HO_10.out).2.2)); (case side2 => rw [show t1121.length = t1109.length from (Kd.R_reads' HO_10.out).1.symm]; exact (Kd.R_reads' HO_10.out).2.1); rintro e w68 ⟨rfl, hb⟩; refine ⟨_, rfl, ?_⟩; replace HO_8 := Aside0.mk (Kd.R_below (kR_ HO_8.out) hb); replace HO_10 := Aside0.mk (Kd.R_below (kR_ HO_10.out) hb); replace HO1125 := Aside0.mk (Kd.R_below (kR_ HO1125.out) hb); replace HO1128 := Aside0.mk (Kd.R_below (kR_ HO1128.out) hb); replace HB := Aside0.mk (below_step hb_ hb); (try clear hb)))
             go_ret
             exact ⟨er_, hb_⟩
          ·replace c44 := Bool.eq_false_iff.mpr c44
           subst c44
           have H1 : (some false) = some r := by rw [if_neg (show ¬ (false = true) by decide)] at H; exact H
           clear H
           have H := H1
           clear H1
           exact absurd H (by subst hrt; decide)
         ·rw [if_neg c40] at H
          have c40b0 : (t1122 == t1120) = false := beq_eq_false_iff_ne.mpr c40
          have c40b1 : (t1122 != t1120) = true := bne_iff_ne.mpr c40
          exact absurd H (by subst hrt; decide)
    ·replace c16 := Bool.eq_false_iff.mpr c16
     subst c16
     have H1 : (some false) = some r := by rw [if_neg (show ¬ (false = true) by decide)] at H; exact H
     clear H
     have H := H1
     clear H1
     exact absurd H (by subst hrt; decide)
   ·replace c13 := Bool.eq_false_iff.mpr c13
    subst c13
    have H1 : (some false) = some r := by rw [if_neg (show ¬ (false = true) by decide)] at H; exact H
    clear H
    have H := H1
    clear H1
    exact absurd H (by subst hrt; decide)
end Go.Proofs.YtjgbidklkhohfaaDoor.P
