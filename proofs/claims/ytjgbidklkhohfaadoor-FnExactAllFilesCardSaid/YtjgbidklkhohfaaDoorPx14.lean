-- The functions of the seat as plain Lean functions, made by the kit's print.py for all laws at once. Not trusted: Lean checks it.
import Derived.Test.YtjgbidklkhohfaaDoorPx0
import Derived.Test.YtjgbidklkhohfaaDoorPx3
import Derived.Test.YtjgbidklkhohfaaDoorPx6
import Derived.Test.YtjgbidklkhohfaaDoorPx7
import Derived.Test.YtjgbidklkhohfaaDoorPx8
import Derived.Test.YtjgbidklkhohfaaDoorPx12
import Derived.Test.YtjgbidklkhohfaaDoorPx13
namespace Go.Proofs.YtjgbidklkhohfaaDoor.P
open Go.RowKit Go.Proofs.YtjgbidklkhohfaaDoorW.PrintWords Go.Proofs.YtjgbidklkhohfaaDoorW.PrintLast Go.Proofs.YtjgbidklkhohfaaDoorW.PrintMore
attribute [local go_sem] max2_int min2_int max_two min_two max_three min_three max_four min_four   -- for this text's walks alone
set_option linter.unusedVariables false
set_option linter.unusedSimpArgs false
/-! ### laws_FnExactAllFiles: function 7 -/
def laws_FnExactAllFiles.j0 : Nat → List (S56) → Int → List ByteArray → List ByteArray → Bool → Option (Bool)
 | 0, _, _, _, _, _ => none
 | k + 1, x0, x1, x6, x8, x46 => if x46 = true then (some false) else ((laws_markStringS.f k x8 1).bind fun bt901 => ((laws_heldStringS.f k bt901.2 1).bind fun t903 => (if t903 < 0 then (some false) else (if t903 = bt901.1 then ((laws_toPieceS.f k x0).bind fun t904 => ((impl_AllFiles.f k t904 x1).bind fun t907 => ((laws_eqStringS.f k t907 x6).bind fun t910 => (if t910 = true then ((laws_heldStringS.f k bt901.2 1).bind fun t911 => (if t911 < 0 then (some false) else (if t911 = bt901.1 then (some true) else (some false)))) else (some false))))) else (some false)))))
def laws_FnExactAllFiles.f (k : Nat) (l0 : List (S56)) (a1 : Int) : Option (Bool) := (laws_szPieceS.f k l0 1048576).bind fun t880 => (if t880 < 0 then (some true) else ((laws_toPieceS.f k l0).bind fun t881 => ((spec_AllFiles.f k t881 a1).bind fun t884 => ((laws_toPieceS.f k l0).bind fun t887 => ((impl_AllFiles.f k t887 a1).bind fun t890 => ((laws_eqStringS.f k t890 t884).bind fun t893 => (if t893 = true then ((laws_toPieceS.f k l0).bind fun t894 => ((laws_eqPieceS.f k t887 t894).bind fun t897 => (if t897 = true then ((laws_markPieceS.f k t887 1).bind fun bt898 => (if bt898.1 < 0 then (laws_FnExactAllFiles.j0 k l0 a1 t884 t890 true) else ((laws_eqStringS.f k t890 t884).bind fun t900 => (laws_FnExactAllFiles.j0 k l0 a1 t884 t890 (!t900))))) else (some false)))) else (some false))))))))
theorem laws_FnExactAllFiles.mono_l : ∀ k, (∀ y0 y1 y2 y3 y4, LeO (laws_FnExactAllFiles.j0 k y0 y1 y2 y3 y4) (laws_FnExactAllFiles.j0 (k + 1) y0 y1 y2 y3 y4))
 | 0 => fun _ _ _ _ _ r h => by simp [laws_FnExactAllFiles.j0] at h
 | k + 1 => by
  have ih0 := laws_FnExactAllFiles.mono_l k
  ·intro y0 y1 y2 y3 y4
   unfold laws_FnExactAllFiles.j0
   repeat' first
   | (with_reducible exact ih0 _ _ _ _ _)
   | (with_reducible exact impl_AllFiles.mono _ _ _)
   | (with_reducible exact laws_eqPieceS.mono _ _ _)
   | (with_reducible exact laws_eqStringS.mono _ _ _)
   | (with_reducible exact laws_heldStringS.mono _ _ _)
   | (with_reducible exact laws_markPieceS.mono _ _ _)
   | (with_reducible exact laws_markStringS.mono _ _ _)
   | (with_reducible exact laws_szPieceS.mono _ _ _)
   | (with_reducible exact laws_toPieceS.mono _ _)
   | (with_reducible exact spec_AllFiles.mono _ _ _)
   | (with_reducible exact LeO.refl _)
   | (with_reducible exact LeO.none _)
   | (with_reducible refine LeO.ite ?_ ?_)
   | (with_reducible refine LeO.bind ?_ (fun _ => ?_))
   | exact ih0 _ _ _ _ _
   | exact impl_AllFiles.mono _ _ _
   | exact laws_eqPieceS.mono _ _ _
   | exact laws_eqStringS.mono _ _ _
   | exact laws_heldStringS.mono _ _ _
   | exact laws_markPieceS.mono _ _ _
   | exact laws_markStringS.mono _ _ _
   | exact laws_szPieceS.mono _ _ _
   | exact laws_toPieceS.mono _ _
   | exact spec_AllFiles.mono _ _ _
   | exact LeO.none _
   | refine LeO.ite ?_ ?_
   | refine LeO.bind ?_ (fun _ => ?_)
theorem laws_FnExactAllFiles.mono : ∀ a0 a1 k, LeO (laws_FnExactAllFiles.f k a0 a1) (laws_FnExactAllFiles.f (k + 1) a0 a1) := by
 intro a0 a1 k
 have ih0 := laws_FnExactAllFiles.mono_l k
 unfold laws_FnExactAllFiles.f
 repeat' first
   | (with_reducible exact ih0 _ _ _ _ _)
   | (with_reducible exact impl_AllFiles.mono _ _ _)
   | (with_reducible exact laws_eqPieceS.mono _ _ _)
   | (with_reducible exact laws_eqStringS.mono _ _ _)
   | (with_reducible exact laws_heldStringS.mono _ _ _)
   | (with_reducible exact laws_markPieceS.mono _ _ _)
   | (with_reducible exact laws_markStringS.mono _ _ _)
   | (with_reducible exact laws_szPieceS.mono _ _ _)
   | (with_reducible exact laws_toPieceS.mono _ _)
   | (with_reducible exact spec_AllFiles.mono _ _ _)
   | (with_reducible exact LeO.refl _)
   | (with_reducible exact LeO.none _)
   | (with_reducible refine LeO.ite ?_ ?_)
   | (with_reducible refine LeO.bind ?_ (fun _ => ?_))
   | exact ih0 _ _ _ _ _
   | exact impl_AllFiles.mono _ _ _
   | exact laws_eqPieceS.mono _ _ _
   | exact laws_eqStringS.mono _ _ _
   | exact laws_heldStringS.mono _ _ _
   | exact laws_markPieceS.mono _ _ _
   | exact laws_markStringS.mono _ _ _
   | exact laws_szPieceS.mono _ _ _
   | exact laws_toPieceS.mono _ _
   | exact spec_AllFiles.mono _ _ _
   | exact LeO.none _
   | refine LeO.ite ?_ ?_
   | refine LeO.bind ?_ (fun _ => ?_)
set_option maxHeartbeats 8000000 in
set_option maxRecDepth 100000 in
theorem laws_FnExactAllFiles.calls (k : Nat) (A0 : Option Addr) (c0 : Nat) (l0 : List (S56)) (a1 : Int) (r : Bool) (w : World) (hr0 : Kd.C k56 w A0 l0.length l0) (hc0 : l0.length ≤ c0) (hG : GT w) (h : laws_FnExactAllFiles.f k l0 a1 = some r) (hrt : r = true) :
  Calls Tryd.prog 7 #[.slice A0 l0.length c0, .int .i64 a1] w fun e w' => e = .returned (.bool r) ∧ Below w.heap.size w w' := by
 have HR0 := Aside0.mk hr0
 have HC0 := Aside0.mk hc0
 clear hr0 hc0
 have HB := Aside0.mk (Below.refl w.heap.size w)
 have H : ((laws_szPieceS.f k l0 1048576).bind fun t880 => (if t880 < 0 then (some true) else ((laws_toPieceS.f k l0).bind fun t881 => ((spec_AllFiles.f k t881 a1).bind fun t884 => ((laws_toPieceS.f k l0).bind fun t887 => ((impl_AllFiles.f k t887 a1).bind fun t890 => ((laws_eqStringS.f k t890 t884).bind fun t893 => (if t893 = true then ((laws_toPieceS.f k l0).bind fun t894 => ((laws_eqPieceS.f k t887 t894).bind fun t897 => (if t897 = true then ((laws_markPieceS.f k t887 1).bind fun bt898 => (if bt898.1 < 0 then (laws_FnExactAllFiles.j0 k l0 a1 t884 t890 true) else ((laws_eqStringS.f k t890 t884).bind fun t900 => (laws_FnExactAllFiles.j0 k l0 a1 t884 t890 (!t900))))) else (some false)))) else (some false))))))))) = some r := h
 clear h
 replace H := Option.bind_eq_some_iff.mp H
 obtain ⟨t880, A30, H⟩ := H
 replace H : (if t880 < 0 then (some true) else ((laws_toPieceS.f k l0).bind fun t881 => ((spec_AllFiles.f k t881 a1).bind fun t884 => ((laws_toPieceS.f k l0).bind fun t887 => ((impl_AllFiles.f k t887 a1).bind fun t890 => ((laws_eqStringS.f k t890 t884).bind fun t893 => (if t893 = true then ((laws_toPieceS.f k l0).bind fun t894 => ((laws_eqPieceS.f k t887 t894).bind fun t897 => (if t897 = true then ((laws_markPieceS.f k t887 1).bind fun bt898 => (if bt898.1 < 0 then (laws_FnExactAllFiles.j0 k l0 a1 t884 t890 true) else ((laws_eqStringS.f k t890 t884).bind fun t900 => (laws_FnExactAllFiles.j0 k l0 a1 t884 t890 (!t900))))) else (some false)))) else (some false)))))))) = some r := H
 have A3 := Aside0.mk A30
 clear A30
 by_cases c4 : t880 < 0
 ·rw [if_pos c4] at H
  have c4b0 : decide (t880 < 0) = true := decide_eq_true c4
  clear c4
  obtain rfl := Option.some.inj H
  go_enter Tryd.func7, Tryd.ntmps7
  go_wp2_with (first | ((with_reducible refine gate_callee (f := 12) rfl ?_); refine goesL_ (some 15) rfl rfl Tryd.func12 (by kernel_rfl) rfl #[.slice A0 l0.length c0, .int .i64 1048576] rfl sl_ ?_; (with_reducible refine (laws_szPieceS.calls k _ _ l0 1048576 t880 _ ?side1 ?side2 A3.out).mono ?_); (case side1 => exact kC_ HR0.out); (case side2 => exact HC0.out); rintro e w5 ⟨rfl, hb⟩; refine ⟨_, rfl, ?_⟩; replace HB := Aside0.mk (below_step hb_ hb); (try clear hb)))
  go_ret
  exact ⟨er_, hb_⟩
 ·rw [if_neg c4] at H
  have c4b0 : decide (t880 < 0) = false := decide_eq_false c4
  clear c4
  replace H := Option.bind_eq_some_iff.mp H
  obtain ⟨t881, A60, H⟩ := H
  replace H : ((spec_AllFiles.f k t881 a1).bind fun t884 => ((laws_toPieceS.f k l0).bind fun t887 => ((impl_AllFiles.f k t887 a1).bind fun t890 => ((laws_eqStringS.f k t890 t884).bind fun t893 => (if t893 = true then ((laws_toPieceS.f k l0).bind fun t894 => ((laws_eqPieceS.f k t887 t894).bind fun t897 => (if t897 = true then ((laws_markPieceS.f k t887 1).bind fun bt898 => (if bt898.1 < 0 then (laws_FnExactAllFiles.j0 k l0 a1 t884 t890 true) else ((laws_eqStringS.f k t890 t884).bind fun t900 => (laws_FnExactAllFiles.j0 k l0 a1 t884 t890 (!t900))))) else (some false)))) else (some false)))))) = some r := H
  have A6 := Aside0.mk A60
  clear A60
  replace H := Option.bind_eq_some_iff.mp H
  obtain ⟨t884, A70, H⟩ := H
  replace H : ((laws_toPieceS.f k l0).bind fun t887 => ((impl_AllFiles.f k t887 a1).bind fun t890 => ((laws_eqStringS.f k t890 t884).bind fun t893 => (if t893 = true then ((laws_toPieceS.f k l0).bind fun t894 => ((laws_eqPieceS.f k t887 t894).bind fun t897 => (if t897 = true then ((laws_markPieceS.f k t887 1).bind fun bt898 => (if bt898.1 < 0 then (laws_FnExactAllFiles.j0 k l0 a1 t884 t890 true) else ((laws_eqStringS.f k t890 t884).bind fun t900 => (laws_FnExactAllFiles.j0 k l0 a1 t884 t890 (!t900))))) else (some false)))) else (some false))))) = some r := H
  have A7 := Aside0.mk A70
  clear A70
  replace H := Option.bind_eq_some_iff.mp H
  obtain ⟨t887, A80, H⟩ := H
  replace H : ((impl_AllFiles.f k t887 a1).bind fun t890 => ((laws_eqStringS.f k t890 t884).bind fun t893 => (if t893 = true then ((laws_toPieceS.f k l0).bind fun t894 => ((laws_eqPieceS.f k t887 t894).bind fun t897 => (if t897 = true then ((laws_markPieceS.f k t887 1).bind fun bt898 => (if bt898.1 < 0 then (laws_FnExactAllFiles.j0 k l0 a1 t884 t890 true) else ((laws_eqStringS.f k t890 t884).bind fun t900 => (laws_FnExactAllFiles.j0 k l0 a1 t884 t890 (!t900))))) else (some false)))) else (some false)))) = some r := H
  have A8 := Aside0.mk A80
  clear A80
  replace H := Option.bind_eq_some_iff.mp H
  obtain ⟨t890, A90, H⟩ := H
  replace H : ((laws_eqStringS.f k t890 t884).bind fun t893 => (if t893 = true then ((laws_toPieceS.f k l0).bind fun t894 => ((laws_eqPieceS.f k t887 t894).bind fun t897 => (if t897 = true then ((laws_markPieceS.f k t887 1).bind fun bt898 => (if bt898.1 < 0 then (laws_FnExactAllFiles.j0 k l0 a1 t884 t890 true) else ((laws_eqStringS.f k t890 t884).bind fun t900 => (laws_FnExactAllFiles.j0 k l0 a1 t884 t890 (!t900))))) else (some false)))) else (some false))) = some r := H
  have A9 := Aside0.mk A90
  clear A90
  replace H := Option.bind_eq_some_iff.mp H
  obtain ⟨t893, A100, H⟩ := H
  replace H : (if t893 = true then ((laws_toPieceS.f k l0).bind fun t894 => ((laws_eqPieceS.f k t887 t894).bind fun t897 => (if t897 = true then ((laws_markPieceS.f k t887 1).bind fun bt898 => (if bt898.1 < 0 then (laws_FnExactAllFiles.j0 k l0 a1 t884 t890 true) else ((laws_eqStringS.f k t890 t884).bind fun t900 => (laws_FnExactAllFiles.j0 k l0 a1 t884 t890 (!t900))))) else (some false)))) else (some false)) = some r := H
  have A10 := Aside0.mk A100
  clear A100
  by_cases c11 : t893 = true
  ·subst c11
   have H1 : ((laws_toPieceS.f k l0).bind fun t894 => ((laws_eqPieceS.f k t887 t894).bind fun t897 => (if t897 = true then ((laws_markPieceS.f k t887 1).bind fun bt898 => (if bt898.1 < 0 then (laws_FnExactAllFiles.j0 k l0 a1 t884 t890 true) else ((laws_eqStringS.f k t890 t884).bind fun t900 => (laws_FnExactAllFiles.j0 k l0 a1 t884 t890 (!t900))))) else (some false)))) = some r := by rw [if_pos rfl] at H; exact H
   clear H
   have H := H1
   clear H1
   replace H := Option.bind_eq_some_iff.mp H
   obtain ⟨t894, A120, H⟩ := H
   replace H : ((laws_eqPieceS.f k t887 t894).bind fun t897 => (if t897 = true then ((laws_markPieceS.f k t887 1).bind fun bt898 => (if bt898.1 < 0 then (laws_FnExactAllFiles.j0 k l0 a1 t884 t890 true) else ((laws_eqStringS.f k t890 t884).bind fun t900 => (laws_FnExactAllFiles.j0 k l0 a1 t884 t890 (!t900))))) else (some false))) = some r := H
   have A12 := Aside0.mk A120
   clear A120
   replace H := Option.bind_eq_some_iff.mp H
   obtain ⟨t897, A130, H⟩ := H
   replace H : (if t897 = true then ((laws_markPieceS.f k t887 1).bind fun bt898 => (if bt898.1 < 0 then (laws_FnExactAllFiles.j0 k l0 a1 t884 t890 true) else ((laws_eqStringS.f k t890 t884).bind fun t900 => (laws_FnExactAllFiles.j0 k l0 a1 t884 t890 (!t900))))) else (some false)) = some r := H
   have A13 := Aside0.mk A130
   clear A130
   by_cases c14 : t897 = true
   ·subst c14
    have H1 : ((laws_markPieceS.f k t887 1).bind fun bt898 => (if bt898.1 < 0 then (laws_FnExactAllFiles.j0 k l0 a1 t884 t890 true) else ((laws_eqStringS.f k t890 t884).bind fun t900 => (laws_FnExactAllFiles.j0 k l0 a1 t884 t890 (!t900))))) = some r := by rw [if_pos rfl] at H; exact H
    clear H
    have H := H1
    clear H1
    replace H := Option.bind_eq_some_iff.mp H
    obtain ⟨⟨t898, t899⟩, A150, H⟩ := H
    replace H : (if t898 < 0 then (laws_FnExactAllFiles.j0 k l0 a1 t884 t890 true) else ((laws_eqStringS.f k t890 t884).bind fun t900 => (laws_FnExactAllFiles.j0 k l0 a1 t884 t890 (!t900)))) = some r := H
    have A15 := Aside0.mk A150
    clear A150
    have HC16 := Aside0.mk H
    clear H
    go_enter Tryd.func7, Tryd.ntmps7
    go_upto_region 14 with (first | ((with_reducible refine gate_callee (f := 12) rfl ?_); refine goesL_ (some 15) rfl rfl Tryd.func12 (by kernel_rfl) rfl #[.slice A0 l0.length c0, .int .i64 1048576] rfl sl_ ?_; (with_reducible refine (laws_szPieceS.calls k _ _ l0 1048576 t880 _ ?side1 ?side2 A3.out).mono ?_); (case side1 => exact kC_ HR0.out); (case side2 => exact HC0.out); rintro e w17 ⟨rfl, hb⟩; refine ⟨_, rfl, ?_⟩; replace HB := Aside0.mk (below_step hb_ hb); (try clear hb)) | ((with_reducible refine gate_callee (f := 14) rfl ?_); refine goesL_ (some 19) rfl rfl Tryd.func14 (by kernel_rfl) rfl #[.slice A0 l0.length c0] rfl sl_ ?_; (with_reducible refine (laws_toPieceS.calls k _ _ l0 t881 _ ?side1 ?side2 A6.out).mono ?_); (case side1 => exact kC_ (Kd.C_below HR0.out HB.out)); (case side2 => exact HC0.out); rintro e w18 ⟨v882, rfl, ho0, hb⟩; refine ⟨_, rfl, ?_⟩; have HO883 := Aside0.mk (Kd.R_lower ho0 (below_size hb_)); replace HB := Aside0.mk (below_step hb_ hb); (try clear hb); (try clear ho0); obtain ⟨Ao19, co19, eo19⟩ := Kd.R_slice HO883.out; subst eo19) | ((with_reducible refine gate_callee (f := 33) rfl ?_); refine goesL_ (some 21) rfl rfl Tryd.func33 (by kernel_rfl) rfl #[.slice Ao19 t881.length co19, .int .i64 a1] rfl sl_ ?_; (with_reducible refine (spec_AllFiles.calls k _ _ t881 a1 t884 _ ?side1 ?side2 A7.out).mono ?_); (case side1 => exact kC_ ((Kd.R_reads' HO883.out).2.2)); (case side2 => exact (Kd.R_reads' HO883.out).2.1); rintro e w20 ⟨v885, rfl, ho0, hb⟩; refine ⟨_, rfl, ?_⟩; replace HO883 := Aside0.mk (Kd.R_below (kR_ HO883.out) hb); have HO886 := Aside0.mk (Kd.R_lower ho0 (below_size hb_)); replace HB := Aside0.mk (below_step hb_ hb); (try clear hb); (try clear ho0)) | ((with_reducible refine gate_callee (f := 14) rfl ?_); refine goesL_ (some 23) rfl rfl Tryd.func14 (by kernel_rfl) rfl #[.slice A0 l0.length c0] rfl sl_ ?_; (with_reducible refine (laws_toPieceS.calls k _ _ l0 t887 _ ?side1 ?side2 A8.out).mono ?_); (case side1 => exact kC_ (Kd.C_below HR0.out HB.out)); (case side2 => exact HC0.out); rintro e w21 ⟨v888, rfl, ho0, hb⟩; refine ⟨_, rfl, ?_⟩; replace HO886 := Aside0.mk (Kd.R_below (kR_ HO886.out) hb); have HO889 := Aside0.mk (Kd.R_lower (Kd.R_new' ho0 (Kd.R_lt (kR_ HO883.out))) (below_size hb_)); replace HO883 := Aside0.mk (Kd.R_elder' (kR_ HO883.out) (Kd.R_base ho0) hb); replace HB := Aside0.mk (below_step hb_ hb); (try clear hb); (try clear ho0); obtain ⟨Ao22, co22, eo22⟩ := Kd.R_slice HO889.out; subst eo22) | ((with_reducible refine gate_callee (f := 34) rfl ?_); refine goesL_ (some 26) rfl rfl Tryd.func34 (by kernel_rfl) rfl #[.slice Ao22 t887.length co22, .int .i64 a1] rfl sl_ ?_; (with_reducible refine (impl_AllFiles.calls k _ _ t887 a1 t890 _ ?side1 ?side2 (GT_on hb_ hG) A9.out).mono ?_); (case side1 => exact kC_ ((Kd.R_reads' HO889.out).2.2)); (case side2 => exact (Kd.R_reads' HO889.out).2.1); rintro e w23 ⟨v891, rfl, ho0, hb⟩; refine ⟨_, rfl, ?_⟩; replace HO883 := Aside0.mk (Kd.R_below (kR_ HO883.out) hb); replace HO889 := Aside0.mk (Kd.R_below (kR_ HO889.out) hb); have HO892 := Aside0.mk (Kd.R_lower (Kd.R_new' ho0 (Kd.R_lt (kR_ HO886.out))) (below_size hb_)); replace HO886 := Aside0.mk (Kd.R_elder' (kR_ HO886.out) (Kd.R_base ho0) hb); replace HB := Aside0.mk (below_step hb_ hb); (try clear hb); (try clear ho0); obtain ⟨Ao24, co24, eo24⟩ := Kd.R_slice HO892.out; subst eo24; obtain ⟨Ao25, co25, eo25⟩ := Kd.R_slice HO886.out; subst eo25) | ((with_reducible refine gate_callee (f := 35) rfl ?_); refine goesL_ (some 29) rfl rfl Tryd.func35 (by kernel_rfl) rfl #[.slice Ao24 t890.length co24, .slice Ao25 t884.length co25] rfl sl_ ?_; (with_reducible refine (laws_eqStringS.calls k _ _ t890 _ _ t884 true _ ?side1 ?side2 ?side3 ?side4 A10.out).mono ?_); (case side1 => exact kC_ ((Kd.R_reads' HO892.out).2.2)); (case side2 => exact (Kd.R_reads' HO892.out).2.1); (case side3 => exact kC_ ((Kd.R_reads' HO886.out).2.2)); (case side4 => exact (Kd.R_reads' HO886.out).2.1); rintro e w' ⟨rfl, ⟨nd, rfl⟩⟩; refine ⟨_, rfl, ?_⟩) | ((with_reducible refine gate_callee (f := 14) rfl ?_); refine goesL_ (some 33) rfl rfl Tryd.func14 (by kernel_rfl) rfl #[.slice A0 l0.length c0] rfl sl_ ?_; (with_reducible refine (laws_toPieceS.calls k _ _ l0 t894 _ ?side1 ?side2 A12.out).mono ?_); (case side1 => exact kC_ (Kd.C_below HR0.out hb_)); (case side2 => exact HC0.out); rintro e w26 ⟨v895, rfl, ho0, hb⟩; refine ⟨_, rfl, ?_⟩; replace HO886 := Aside0.mk (Kd.R_below (kR_ HO886.out) hb); replace HO892 := Aside0.mk (Kd.R_below (kR_ HO892.out) hb); have HO896 := Aside0.mk (Kd.R_lower (Kd.R_new' (Kd.R_new' ho0 (Kd.R_lt (kR_ HO883.out))) (Kd.R_lt (kR_ HO889.out))) (below_size hb_)); replace HO883 := Aside0.mk (Kd.R_elder' (kR_ HO883.out) (Kd.R_base ho0) hb); replace HO889 := Aside0.mk (Kd.R_elder' (kR_ HO889.out) (Kd.R_base ho0) hb); replace HB := Aside0.mk (below_step hb_ hb); (try clear hb); (try clear ho0); obtain ⟨Ao27, co27, eo27⟩ := Kd.R_slice HO896.out; subst eo27) | ((with_reducible refine gate_callee (f := 18) rfl ?_); refine goesL_ (some 34) rfl rfl Tryd.func18 (by kernel_rfl) rfl #[.slice Ao22 t887.length co22, .slice Ao27 t894.length co27] rfl sl_ ?_; (with_reducible refine (laws_eqPieceS.calls k _ _ t887 _ _ t894 true _ ?side1 ?side2 ?side3 ?side4 A13.out).mono ?_); (case side1 => exact kC_ ((Kd.R_reads' HO889.out).2.2)); (case side2 => exact (Kd.R_reads' HO889.out).2.1); (case side3 => exact kC_ ((Kd.R_reads' HO896.out).2.2)); (case side4 => exact (Kd.R_reads' HO896.out).2.1); rintro e w28 ⟨rfl, hb⟩; refine ⟨_, rfl, ?_⟩; replace HO883 := Aside0.mk (Kd.R_below (kR_ HO883.out) hb); replace HO886 := Aside0.mk (Kd.R_below (kR_ HO886.out) hb); replace HO889 := Aside0.mk (Kd.R_below (kR_ HO889.out) hb); replace HO892 := Aside0.mk (Kd.R_below (kR_ HO892.out) hb); replace HO896 := Aside0.mk (Kd.R_below (kR_ HO896.out) hb); replace HB := Aside0.mk (below_step hb_ hb); (try clear hb)) | ((with_reducible refine gate_callee (f := 19) rfl ?_); refine goesL_ (some 38) rfl rfl Tryd.func19 (by kernel_rfl) rfl #[.slice Ao22 t887.length co22, .int .i64 1] rfl sl_ ?_; (with_reducible refine (laws_markPieceS.calls k (fun k_ => some k_ = (.slice Ao22 t887.length co22 : Value).ownBlock) (.slice Ao22 t887.length co22) t887 1 t898 t899 w _ ?side1 ?side2 A15.out).mono ?_); (case side1 => repeat (first | (with_reducible first | exact HB.out | apply below_alloc | apply pw_below_drewN | apply below_drew1) | exact HB.out)); (case side2 => exact Kd.R_tight rfl HO889.out); rintro e w29 ⟨rfl, hy0, hb, hkp⟩; refine ⟨_, rfl, ?_⟩; replace HO883 := Aside0.mk (Kd.R_mono (ok' := fun k_ => some k_ ≠ (.slice Ao22 t887.length co22 : Value).ownBlock ∧ some k_ ≠ (.slice Ao27 t894.length co27 : Value).ownBlock) (Kd.R_keptB (HO883.out) hkp (fun k_ hk_ hs_ => (hk_.1.2) hs_)) (fun k_ hk_ => ⟨hk_.1.1.2, hk_.1.2⟩)); replace HO886 := Aside0.mk (Kd.R_mono (ok' := fun k_ => some k_ ≠ (.slice Ao24 t890.length co24 : Value).ownBlock) (Kd.R_keptB ((Kd.R_apart' HO886.out (Kd.R_typed HO889.out) (by decide))) hkp (fun k_ hk_ hs_ => (hk_.2) hs_)) (fun k_ hk_ => hk_.1.1.2)); replace HO892 := Aside0.mk (Kd.R_mono (ok' := fun k_ => some k_ ≠ (.slice Ao25 t884.length co25 : Value).ownBlock) (Kd.R_keptB ((Kd.R_apart' HO892.out (Kd.R_typed HO889.out) (by decide))) hkp (fun k_ hk_ hs_ => (hk_.2) hs_)) (fun k_ hk_ => hk_.1.1.2)); replace HO889 := Aside0.mk (Kd.R_reok rfl hy0 (fun k_ e_ => HO889.out.1 k_ e_)); replace HO896 := Aside0.mk (Kd.R_mono (ok' := fun k_ => some k_ ≠ (.slice Ao19 t881.length co19 : Value).ownBlock ∧ some k_ ≠ (.slice Ao22 t887.length co22 : Value).ownBlock) (Kd.R_keptB (HO896.out) hkp (fun k_ hk_ hs_ => (hk_.2) hs_)) (fun k_ hk_ => ⟨hk_.1.1.2, hk_.1.2⟩)); replace HB := Aside0.mk (hb); (try clear hb); (try clear hkp); (try clear hy0)))
    (try simp only [Act.put, List.setIfInBounds_toArray, List.set_cons_zero, List.set_cons_succ])
    go_cut [46] (fun v46 wc => ∃ (kq : Nat) (x46_15 : Bool), v46 = .bool x46_15 ∧ Aside0 (laws_FnExactAllFiles.j0 kq l0 a1 t884 t890 x46_15 = some r) ∧ Aside0 (kq ≤ k) ∧ Aside0 (Kd.R Kd.string 9 wc w.heap.size (fun k_ => some k_ ≠ ((.slice Ao24 t890.length co24) : Value).ownBlock) (.slice Ao25 t884.length co25) t884) ∧ Aside0 (Kd.R Kd.string 9 wc w.heap.size (fun k_ => some k_ ≠ ((.slice Ao25 t884.length co25) : Value).ownBlock) (.slice Ao24 t890.length co24) t890) ∧ Aside0 (Below w.heap.size w wc))
    case first =>
     have H := HC16.out
     clear HC16
     by_cases c30 : t898 < 0
     ·rw [if_pos c30] at H
      have c30b0 : decide (t898 < 0) = true := decide_eq_true c30
      clear c30
      (first | rw [c30b0] | (simp only [i64_w, i32_w]; rw [c30b0]) | skip)
      have H' := Aside0.mk H
      clear H
      go_wp2
      go_meet
      case rel => exact ⟨_, (true), (by first | rfl | (simp; done) | (simp [*]; done)), H', ⟨by first | omega | exact Nat.le_refl _⟩, ⟨by (with_reducible repeat (first | apply Kd.R_alloc | apply Kd.R_drewN | apply Kd.R_drew)); exact HO886.out⟩, ⟨by (with_reducible repeat (first | apply Kd.R_alloc | apply Kd.R_drewN | apply Kd.R_drew)); exact HO892.out⟩, ⟨hb_⟩⟩
     ·rw [if_neg c30] at H
      have c30b0 : decide (t898 < 0) = false := decide_eq_false c30
      clear c30
      (first | rw [c30b0] | (simp only [i64_w, i32_w]; rw [c30b0]) | skip)
      replace H := Option.bind_eq_some_iff.mp H
      obtain ⟨t900, A310, H⟩ := H
      replace H : (laws_FnExactAllFiles.j0 k l0 a1 t884 t890 (!t900)) = some r := H
      have A31 := Aside0.mk A310
      clear A310
      have H' := Aside0.mk H
      clear H
      go_wp2_with (first | (go_at_call 35; (with_reducible refine (laws_eqStringS.calls k _ _ t890 _ _ t884 t900 _ ?side1 ?side2 ?side3 ?side4 A31.out).mono ?_); (case side1 => exact kC_ ((Kd.R_reads' HO892.out).2.2)); (case side2 => exact (Kd.R_reads' HO892.out).2.1); (case side3 => exact kC_ ((Kd.R_reads' HO886.out).2.2)); (case side4 => exact (Kd.R_reads' HO886.out).2.1); rintro e w' ⟨rfl, ⟨nd, rfl⟩⟩))
      go_meet
      case rel => exact ⟨_, (!t900), (by first | rfl | (simp; done) | (simp [*]; done)), H', ⟨by first | omega | exact Nat.le_refl _⟩, ⟨by (with_reducible repeat (first | apply Kd.R_alloc | apply Kd.R_drewN | apply Kd.R_drew)); exact HO886.out⟩, ⟨by (with_reducible repeat (first | apply Kd.R_alloc | apply Kd.R_drewN | apply Kd.R_drew)); exact HO892.out⟩, ⟨hb_⟩⟩
    case rest =>
     clear HC16
     try clear c1
     try clear p2
     try clear c3
     try clear c4
     try clear c4b0
     try clear c7
     try clear c11
     try clear c12
     try clear c14
     try clear c18
     try clear c19
     try clear c30
     try clear c30b0
     obtain ⟨kq, x46_15, rfl, HA, HJ15, HO_6, HO_8, HB⟩ := hcut
     cases kq with
     | zero => exact absurd HA.out (by simp [laws_FnExactAllFiles.j0])
     | succ kj15 =>
      have H := HA.out
      clear HA
      simp only [laws_FnExactAllFiles.j0] at H
      by_cases c32 : x46_15 = true
      ·subst c32
       have H1 : (some false) = some r := by rw [if_pos rfl] at H; exact H
       clear H
       have H := H1
       clear H1
       exact absurd H (by subst hrt; decide)
      ·replace c32 := Bool.eq_false_iff.mpr c32
       subst c32
       have H1 : ((laws_markStringS.f kj15 t890 1).bind fun bt901 => ((laws_heldStringS.f kj15 bt901.2 1).bind fun t903 => (if t903 < 0 then (some false) else (if t903 = bt901.1 then ((laws_toPieceS.f kj15 l0).bind fun t904 => ((impl_AllFiles.f kj15 t904 a1).bind fun t907 => ((laws_eqStringS.f kj15 t907 t884).bind fun t910 => (if t910 = true then ((laws_heldStringS.f kj15 bt901.2 1).bind fun t911 => (if t911 < 0 then (some false) else (if t911 = bt901.1 then (some true) else (some false)))) else (some false))))) else (some false))))) = some r := by rw [if_neg (show ¬ (false = true) by decide)] at H; exact H
       clear H
       have H := H1
       clear H1
       replace H := Option.bind_eq_some_iff.mp H
       obtain ⟨⟨t901, t902⟩, A330, H⟩ := H
       replace H : ((laws_heldStringS.f kj15 t902 1).bind fun t903 => (if t903 < 0 then (some false) else (if t903 = t901 then ((laws_toPieceS.f kj15 l0).bind fun t904 => ((impl_AllFiles.f kj15 t904 a1).bind fun t907 => ((laws_eqStringS.f kj15 t907 t884).bind fun t910 => (if t910 = true then ((laws_heldStringS.f kj15 t902 1).bind fun t911 => (if t911 < 0 then (some false) else (if t911 = t901 then (some true) else (some false)))) else (some false))))) else (some false)))) = some r := H
       have A33 := Aside0.mk A330
       clear A330
       replace H := Option.bind_eq_some_iff.mp H
       obtain ⟨t903, A340, H⟩ := H
       replace H : (if t903 < 0 then (some false) else (if t903 = t901 then ((laws_toPieceS.f kj15 l0).bind fun t904 => ((impl_AllFiles.f kj15 t904 a1).bind fun t907 => ((laws_eqStringS.f kj15 t907 t884).bind fun t910 => (if t910 = true then ((laws_heldStringS.f kj15 t902 1).bind fun t911 => (if t911 < 0 then (some false) else (if t911 = t901 then (some true) else (some false)))) else (some false))))) else (some false))) = some r := H
       have A34 := Aside0.mk A340
       clear A340
       by_cases c35 : t903 < 0
       ·rw [if_pos c35] at H
        have c35b0 : decide (t903 < 0) = true := decide_eq_true c35
        clear c35
        exact absurd H (by subst hrt; decide)
       ·rw [if_neg c35] at H
        have c35b0 : decide (t903 < 0) = false := decide_eq_false c35
        clear c35
        by_cases c38 : t903 = t901
        ·rw [if_pos c38] at H
         have c38b0 : (t903 == t901) = true := beq_iff_eq.mpr c38
         have c38b1 : (t903 != t901) = false := bne_eq_false_iff_eq.mpr c38
         clear c38
         replace H := Option.bind_eq_some_iff.mp H
         obtain ⟨t904, A390, H⟩ := H
         replace H : ((impl_AllFiles.f kj15 t904 a1).bind fun t907 => ((laws_eqStringS.f kj15 t907 t884).bind fun t910 => (if t910 = true then ((laws_heldStringS.f kj15 t902 1).bind fun t911 => (if t911 < 0 then (some false) else (if t911 = t901 then (some true) else (some false)))) else (some false)))) = some r := H
         have A39 := Aside0.mk A390
         clear A390
         replace H := Option.bind_eq_some_iff.mp H
         obtain ⟨t907, A400, H⟩ := H
         replace H : ((laws_eqStringS.f kj15 t907 t884).bind fun t910 => (if t910 = true then ((laws_heldStringS.f kj15 t902 1).bind fun t911 => (if t911 < 0 then (some false) else (if t911 = t901 then (some true) else (some false)))) else (some false))) = some r := H
         have A40 := Aside0.mk A400
         clear A400
         replace H := Option.bind_eq_some_iff.mp H
         obtain ⟨t910, A410, H⟩ := H
         replace H : (if t910 = true then ((laws_heldStringS.f kj15 t902 1).bind fun t911 => (if t911 < 0 then (some false) else (if t911 = t901 then (some true) else (some false)))) else (some false)) = some r := H
         have A41 := Aside0.mk A410
         clear A410
         by_cases c42 : t910 = true
         ·subst c42
          have H1 : ((laws_heldStringS.f kj15 t902 1).bind fun t911 => (if t911 < 0 then (some false) else (if t911 = t901 then (some true) else (some false)))) = some r := by rw [if_pos rfl] at H; exact H
          clear H
          have H := H1
          clear H1
          replace H := Option.bind_eq_some_iff.mp H
          obtain ⟨t911, A430, H⟩ := H
          replace H : (if t911 < 0 then (some false) else (if t911 = t901 then (some true) else (some false))) = some r := H
          have A43 := Aside0.mk A430
          clear A430
          by_cases c44 : t911 < 0
          ·rw [if_pos c44] at H
           have c44b0 : decide (t911 < 0) = true := decide_eq_true c44
           clear c44
           exact absurd H (by subst hrt; decide)
          ·rw [if_neg c44] at H
           have c44b0 : decide (t911 < 0) = false := decide_eq_false c44
           clear c44
           by_cases c52 : t911 = t901
           ·rw [if_pos c52] at H
            have c52b0 : (t911 == t901) = true := beq_iff_eq.mpr c52
            have c52b1 : (t911 != t901) = false := bne_eq_false_iff_eq.mpr c52
            clear c52
            obtain rfl := Option.some.inj H
            go_wp2_with (first | ((with_reducible refine gate_callee (f := 36) rfl ?_); refine goesL_ (some 49) rfl rfl Tryd.func36 (by kernel_rfl) rfl #[.slice Ao24 t890.length co24, .int .i64 1] rfl sl_ ?_; (with_reducible refine (laws_markStringS.calls kj15 (fun k_ => some k_ = (.slice Ao24 t890.length co24 : Value).ownBlock) (.slice Ao24 t890.length co24) t890 1 t901 t902 w _ ?side1 ?side2 A33.out).mono ?_); (case side1 => repeat (first | (with_reducible first | exact HB.out | apply below_alloc | apply pw_below_drewN | apply below_drew1) | exact HB.out)); (case side2 => exact Kd.R_tight rfl HO_8.out); rintro e w53 ⟨rfl, hy0, hb, hkp⟩; refine ⟨_, rfl, ?_⟩; replace HO_6 := Aside0.mk (Kd.R_mono (ok' := fun k_ => some k_ ≠ (.slice Ao24 t890.length co24 : Value).ownBlock) (Kd.R_keptB (HO_6.out) hkp (fun k_ hk_ hs_ => (hk_) hs_)) (fun k_ hk_ => hk_.1)); replace HO_8 := Aside0.mk (Kd.R_reok rfl hy0 (fun k_ e_ => HO_8.out.1 k_ e_)); replace HB := Aside0.mk (hb); (try clear hb); (try clear hkp); (try clear hy0)) | ((with_reducible refine gate_callee (f := 37) rfl ?_); refine goesL_ (some 52) rfl rfl Tryd.func37 (by kernel_rfl) rfl #[.slice Ao24 t902.length co24, .int .i64 1] rfl (by (try simp only [List.map_toArray, List.map_cons, List.map_nil]); first | done | (rw [show t902.length = t890.length from (Kd.R_reads' HO_8.out).1.symm] <;> rfl) | rfl | (simp only [List.length_drop, List.length_take]; rfl)) ?_; (with_reducible refine (laws_heldStringS.calls kj15 _ _ t902 1 t903 _ ?side1 ?side2 A34.out).mono ?_); (case side1 => exact kC_ ((Kd.R_reads' HO_8.out).2.2)); (case side2 => rw [show t902.length = t890.length from (Kd.R_reads' HO_8.out).1.symm]; exact (Kd.R_reads' HO_8.out).2.1); rintro e w54 ⟨rfl, hb⟩; refine ⟨_, rfl, ?_⟩; replace HO_6 := Aside0.mk (Kd.R_below (kR_ HO_6.out) hb); replace HO_8 := Aside0.mk (Kd.R_below (kR_ HO_8.out) hb); replace HB := Aside0.mk (below_step hb_ hb); (try clear hb)) | ((with_reducible refine gate_callee (f := 14) rfl ?_); refine goesL_ (some 59) rfl rfl Tryd.func14 (by kernel_rfl) rfl #[.slice A0 l0.length c0] rfl sl_ ?_; (with_reducible refine (laws_toPieceS.calls kj15 _ _ l0 t904 _ ?side1 ?side2 A39.out).mono ?_); (case side1 => exact kC_ (Kd.C_below HR0.out HB.out)); (case side2 => exact HC0.out); rintro e w55 ⟨v905, rfl, ho0, hb⟩; refine ⟨_, rfl, ?_⟩; replace HO_6 := Aside0.mk (Kd.R_below (kR_ HO_6.out) hb); replace HO_8 := Aside0.mk (Kd.R_below (kR_ HO_8.out) hb); have HO906 := Aside0.mk (Kd.R_lower ho0 (below_size hb_)); replace HB := Aside0.mk (below_step hb_ hb); (try clear hb); (try clear ho0); obtain ⟨Ao56, co56, eo56⟩ := Kd.R_slice HO906.out; subst eo56) | ((with_reducible refine gate_callee (f := 34) rfl ?_); refine goesL_ (some 61) rfl rfl Tryd.func34 (by kernel_rfl) rfl #[.slice Ao56 t904.length co56, .int .i64 a1] rfl sl_ ?_; (with_reducible refine (impl_AllFiles.calls kj15 _ _ t904 a1 t907 _ ?side1 ?side2 (GT_on hb_ hG) A40.out).mono ?_); (case side1 => exact kC_ ((Kd.R_reads' HO906.out).2.2)); (case side2 => exact (Kd.R_reads' HO906.out).2.1); rintro e w57 ⟨v908, rfl, ho0, hb⟩; refine ⟨_, rfl, ?_⟩; replace HO906 := Aside0.mk (Kd.R_below (kR_ HO906.out) hb); have HO909 := Aside0.mk (Kd.R_lower (Kd.R_new' (Kd.R_new' ho0 (Kd.R_lt (kR_ HO_6.out))) (Kd.R_lt (kR_ HO_8.out))) (below_size hb_)); replace HO_6 := Aside0.mk (Kd.R_elder' (kR_ HO_6.out) (Kd.R_base ho0) hb); replace HO_8 := Aside0.mk (Kd.R_elder' (kR_ HO_8.out) (Kd.R_base ho0) hb); replace HB := Aside0.mk (below_step hb_ hb); (try clear hb); (try clear ho0); obtain ⟨Ao58, co58, eo58⟩ := Kd.R_slice HO909.out; subst eo58) | ((with_reducible refine gate_callee (f := 35) rfl ?_); refine goesL_ (some 64) rfl rfl Tryd.func35 (by kernel_rfl) rfl #[.slice Ao58 t907.length co58, .slice Ao25 t884.length co25] rfl sl_ ?_; (with_reducible refine (laws_eqStringS.calls kj15 _ _ t907 _ _ t884 true _ ?side1 ?side2 ?side3 ?side4 A41.out).mono ?_); (case side1 => exact kC_ ((Kd.R_reads' HO909.out).2.2)); (case side2 => exact (Kd.R_reads' HO909.out).2.1); (case side3 => exact kC_ ((Kd.R_reads' HO_6.out).2.2)); (case side4 => exact (Kd.R_reads' HO_6.out).2.1); rintro e w' ⟨rfl, ⟨nd, rfl⟩⟩; refine ⟨_, rfl, ?_⟩) | ((with_reducible refine gate_callee (f := 37) rfl ?_); refine goesL_ (some 68) rfl rfl Tryd.func37 (by kernel_rfl) rfl #[.slice Ao24 t902.length co24, .int .i64 1] rfl (by (try simp only [List.map_toArray, List.map_cons, List.map_nil]); first | done | (rw [show t902.length = t890.length from (Kd.R_reads' HO_8.out).1.symm] <;> rfl) | rfl | (simp only [List.length_drop, List.length_take]; rfl)) ?_; (with_reducible refine (laws_heldStringS.calls kj15 _ _ t902 1 t911 _ ?side1 ?side2 A43.out).mono ?_); (case side1 => exact kC_ ((Kd.R_reads' HO_8.out).2.2)); (case side2 => rw [show t902.length = t890.length from (Kd.R_reads' HO_8.out).1.symm]; exact (Kd.R_reads' HO_8.out).2.1); rintro e w59 ⟨rfl, hb⟩; refine ⟨_, rfl, ?_⟩; replace HO_6 := Aside0.mk (Kd.R_below (kR_ HO_6.out) hb); replace HO_8 := Aside0.mk (Kd.R_below (kR_ HO_8.out) hb); replace HO906 := Aside0.mk (Kd.R_below (kR_ HO906.out) hb); replace HO909 := Aside0.mk (Kd.R_below (kR_ HO909.out) hb); replace HB := Aside0.mk (below_step hb_ hb); (try clear hb)))
            go_ret
            exact ⟨er_, hb_⟩
           ·rw [if_neg c52] at H
            have c52b0 : (t911 == t901) = false := beq_eq_false_iff_ne.mpr c52
            have c52b1 : (t911 != t901) = true := bne_iff_ne.mpr c52
            obtain rfl := Option.some.inj H
            go_wp2_with (first | ((with_reducible refine gate_callee (f := 36) rfl ?_); refine goesL_ (some 49) rfl rfl Tryd.func36 (by kernel_rfl) rfl #[.slice Ao24 t890.length co24, .int .i64 1] rfl sl_ ?_; (with_reducible refine (laws_markStringS.calls kj15 (fun k_ => some k_ = (.slice Ao24 t890.length co24 : Value).ownBlock) (.slice Ao24 t890.length co24) t890 1 t901 t902 w _ ?side1 ?side2 A33.out).mono ?_); (case side1 => repeat (first | (with_reducible first | exact HB.out | apply below_alloc | apply pw_below_drewN | apply below_drew1) | exact HB.out)); (case side2 => exact Kd.R_tight rfl HO_8.out); rintro e w60 ⟨rfl, hy0, hb, hkp⟩; refine ⟨_, rfl, ?_⟩; replace HO_6 := Aside0.mk (Kd.R_mono (ok' := fun k_ => some k_ ≠ (.slice Ao24 t890.length co24 : Value).ownBlock) (Kd.R_keptB (HO_6.out) hkp (fun k_ hk_ hs_ => (hk_) hs_)) (fun k_ hk_ => hk_.1)); replace HO_8 := Aside0.mk (Kd.R_reok rfl hy0 (fun k_ e_ => HO_8.out.1 k_ e_)); replace HB := Aside0.mk (hb); (try clear hb); (try clear hkp); (try clear hy0)) | ((with_reducible refine gate_callee (f := 37) rfl ?_); refine goesL_ (some 52) rfl rfl Tryd.func37 (by kernel_rfl) rfl #[.slice Ao24 t902.length co24, .int .i64 1] rfl (by (try simp only [List.map_toArray, List.map_cons, List.map_nil]); first | done | (rw [show t902.length = t890.length from (Kd.R_reads' HO_8.out).1.symm] <;> rfl) | rfl | (simp only [List.length_drop, List.length_take]; rfl)) ?_; (with_reducible refine (laws_heldStringS.calls kj15 _ _ t902 1 t903 _ ?side1 ?side2 A34.out).mono ?_); (case side1 => exact kC_ ((Kd.R_reads' HO_8.out).2.2)); (case side2 => rw [show t902.length = t890.length from (Kd.R_reads' HO_8.out).1.symm]; exact (Kd.R_reads' HO_8.out).2.1); rintro e w61 ⟨rfl, hb⟩; refine ⟨_, rfl, ?_⟩; replace HO_6 := Aside0.mk (Kd.R_below (kR_ HO_6.out) hb); replace HO_8 := Aside0.mk (Kd.R_below (kR_ HO_8.out) hb); replace HB := Aside0.mk (below_step hb_ hb); (try clear hb)) | ((with_reducible refine gate_callee (f := 14) rfl ?_); refine goesL_ (some 59) rfl rfl Tryd.func14 (by kernel_rfl) rfl #[.slice A0 l0.length c0] rfl sl_ ?_; (with_reducible refine (laws_toPieceS.calls kj15 _ _ l0 t904 _ ?side1 ?side2 A39.out).mono ?_); (case side1 => exact kC_ (Kd.C_below HR0.out HB.out)); (case side2 => exact HC0.out); rintro e w62 ⟨v905, rfl, ho0, hb⟩; refine ⟨_, rfl, ?_⟩; replace HO_6 := Aside0.mk (Kd.R_below (kR_ HO_6.out) hb); replace HO_8 := Aside0.mk (Kd.R_below (kR_ HO_8.out) hb); have HO906 := Aside0.mk (Kd.R_lower ho0 (below_size hb_)); replace HB := Aside0.mk (below_step hb_ hb); (try clear hb); (try clear ho0); obtain ⟨Ao63, co63, eo63⟩ := Kd.R_slice HO906.out; subst eo63) | ((with_reducible refine gate_callee (f := 34) rfl ?_); refine goesL_ (some 61) rfl rfl Tryd.func34 (by kernel_rfl) rfl #[.slice Ao63 t904.length co63, .int .i64 a1] rfl sl_ ?_; (with_reducible refine (impl_AllFiles.calls kj15 _ _ t904 a1 t907 _ ?side1 ?side2 (GT_on hb_ hG) A40.out).mono ?_); (case side1 => exact kC_ ((Kd.R_reads' HO906.out).2.2)); (case side2 => exact (Kd.R_reads' HO906.out).2.1); rintro e w64 ⟨v908, rfl, ho0, hb⟩; refine ⟨_, rfl, ?_⟩; replace HO906 := Aside0.mk (Kd.R_below (kR_ HO906.out) hb); have HO909 := Aside0.mk (Kd.R_lower (Kd.R_new' (Kd.R_new' ho0 (Kd.R_lt (kR_ HO_6.out))) (Kd.R_lt (kR_ HO_8.out))) (below_size hb_)); replace HO_6 := Aside0.mk (Kd.R_elder' (kR_ HO_6.out) (Kd.R_base ho0) hb); replace HO_8 := Aside0.mk (Kd.R_elder' (kR_ HO_8.out) (Kd.R_base ho0) hb); replace HB := Aside0.mk (below_step hb_ hb); (try clear hb); (try clear ho0); obtain ⟨Ao65, co65, eo65⟩ := Kd.R_slice HO909.out; subst eo65) | ((with_reducible refine gate_callee (f := 35) rfl ?_); refine goesL_ (some 64) rfl rfl Tryd.func35 (by kernel_rfl) rfl #[.slice Ao65 t907.length co65, .slice Ao25 t884.length co25] rfl sl_ ?_; (with_reducible refine (laws_eqStringS.calls kj15 _ _ t907 _ _ t884 true _ ?side1 ?side2 ?side3 ?side4 A41.out).mono ?_); (case side1 => exact kC_ ((Kd.R_reads' HO909.out).2.2)); (case side2 => exact (Kd.R_reads' HO909.out).2.1); (case side3 => exact kC_ ((Kd.R_reads' HO_6.out).2.2)); (case side4 => exact (Kd.R_reads' HO_6.out).2.1); rintro e w' ⟨rfl, ⟨nd, rfl⟩⟩; refine ⟨_, rfl, ?_⟩) | ((with_reducible refine gate_callee (f := 37) rfl ?_); refine goesL_ (some 68) rfl rfl Tryd.func37 (by kernel_rfl) rfl #[.slice Ao24 t902.length co24, .int .i64 1] rfl (by (try simp only [List.map_toArray, List.map_cons, List.map_nil]); first | done | (rw [show t902.length = t890.length from (Kd.R_reads' HO_8.out).1.symm] <;> rfl) | rfl | (simp only [List.length_drop, List.length_take]; rfl)) ?_; (with_reducible refine (laws_heldStringS.calls kj15 _ _ t902 1 t911 _ ?side1 ?side2 A43.out).mono ?_); (case side1 => exact kC_ ((Kd.R_reads' HO_8.out).2.2)); (case side2 => rw [show t902.length = t890.length from (Kd.R_reads' HO_8.out).1.symm]; exact (Kd.R_reads' HO_8.out).2.1); rintro e w66 ⟨rfl, hb⟩; refine ⟨_, rfl, ?_⟩; replace HO_6 := Aside0.mk (Kd.R_below (kR_ HO_6.out) hb); replace HO_8 := Aside0.mk (Kd.R_below (kR_ HO_8.out) hb); replace HO906 := Aside0.mk (Kd.R_below (kR_ HO906.out) hb); replace HO909 := Aside0.mk (Kd.R_below (kR_ HO909.out) hb); replace HB := Aside0.mk (below_step hb_ hb); (try clear hb)))
            go_ret
            exact ⟨er_, hb_⟩
         ·replace c42 := Bool.eq_false_iff.mpr c42
          subst c42
          have H1 : (some false) = some r := by rw [if_neg (show ¬ (false = true) by decide)] at H; exact H
          clear H
          have H := H1
          clear H1
          exact absurd H (by subst hrt; decide)
        ·rw [if_neg c38] at H
         have c38b0 : (t903 == t901) = false := beq_eq_false_iff_ne.mpr c38
         have c38b1 : (t903 != t901) = true := bne_iff_ne.mpr c38
         exact absurd H (by subst hrt; decide)
   ·replace c14 := Bool.eq_false_iff.mpr c14
    subst c14
    have H1 : (some false) = some r := by rw [if_neg (show ¬ (false = true) by decide)] at H; exact H
    clear H
    have H := H1
    clear H1
    exact absurd H (by subst hrt; decide)
  ·replace c11 := Bool.eq_false_iff.mpr c11
   subst c11
   have H1 : (some false) = some r := by rw [if_neg (show ¬ (false = true) by decide)] at H; exact H
   clear H
   have H := H1
   clear H1
   exact absurd H (by subst hrt; decide)
end Go.Proofs.YtjgbidklkhohfaaDoor.P
