-- The functions of the seat as plain Lean functions, made by the kit's print.py for all laws at once. Not trusted: Lean checks it.
import Derived.Test.YtjgbidklkhohfaaDoorPx0
import Derived.Test.YtjgbidklkhohfaaDoorPx3
import Derived.Test.YtjgbidklkhohfaaDoorPx5
import Derived.Test.YtjgbidklkhohfaaDoorPx9
import Derived.Test.YtjgbidklkhohfaaDoorPx10
namespace Go.Proofs.YtjgbidklkhohfaaDoor.P
open Go.RowKit Go.Proofs.YtjgbidklkhohfaaDoorW.PrintWords Go.Proofs.YtjgbidklkhohfaaDoorW.PrintLast Go.Proofs.YtjgbidklkhohfaaDoorW.PrintMore
attribute [local go_sem] max2_int min2_int max_two min_two max_three min_three max_four min_four   -- for this text's walks alone
set_option linter.unusedVariables false
set_option linter.unusedSimpArgs false
/-! ### spec_ProofContent: function 44 -/
def spec_ProofContent.f (k : Nat) (a0 : Int) (a1 : ByteArray) (l2 : List ByteArray) : Option (ByteArray × Bool) := (spec_ProofRight.f k a0 a1 l2).bind fun t1012 => (if t1012 = true then (if 0 ≤ (wrap64 ((l2.length : Int) - 1)) then (if (wrap64 ((l2.length : Int) - 1)) < (l2.length : Int) then ((spec_ReadFile.f k (rdOf ByteArray.empty l2 (wrap64 ((l2.length : Int) - 1)))).bind fun bt1014 => (some (bt1014.1, bt1014.2))) else (none)) else (none)) else (some ((⟨#[]⟩ : ByteArray), false)))
theorem spec_ProofContent.mono : ∀ a0 a1 a2 k, LeO (spec_ProofContent.f k a0 a1 a2) (spec_ProofContent.f (k + 1) a0 a1 a2) := by
 intro a0 a1 a2 k
 unfold spec_ProofContent.f
 repeat' first
   | (with_reducible exact spec_ProofRight.mono _ _ _ _)
   | (with_reducible exact spec_ReadFile.mono _ _)
   | (with_reducible exact LeO.refl _)
   | (with_reducible exact LeO.none _)
   | (with_reducible refine LeO.ite ?_ ?_)
   | (with_reducible refine LeO.bind ?_ (fun _ => ?_))
   | exact spec_ProofRight.mono _ _ _ _
   | exact spec_ReadFile.mono _ _
   | exact LeO.none _
   | refine LeO.ite ?_ ?_
   | refine LeO.bind ?_ (fun _ => ?_)
set_option maxHeartbeats 8000000 in
set_option maxRecDepth 100000 in
theorem spec_ProofContent.calls (k : Nat) (a0 : Int) (a1 : ByteArray) (A2 : Option Addr) (c2 : Nat) (l2 : List ByteArray) (r1 : ByteArray) (r2 : Bool) (w : World) (hr2 : Kd.C Kd.string w A2 l2.length l2) (hc2 : l2.length ≤ c2) (h : spec_ProofContent.f k a0 a1 l2 = some (r1, r2)) :
  Calls Tryd.prog 44 #[.int .i64 a0, .string a1, .slice A2 l2.length c2] w fun e w' => e = .returned (.tuple #[.string r1, .bool r2]) ∧ Below w.heap.size w w' := by
 have HR2 := Aside0.mk hr2
 have HC2 := Aside0.mk hc2
 clear hr2 hc2
 have HB := Aside0.mk (Below.refl w.heap.size w)
 have H : ((spec_ProofRight.f k a0 a1 l2).bind fun t1012 => (if t1012 = true then (if 0 ≤ (wrap64 ((l2.length : Int) - 1)) then (if (wrap64 ((l2.length : Int) - 1)) < (l2.length : Int) then ((spec_ReadFile.f k (rdOf ByteArray.empty l2 (wrap64 ((l2.length : Int) - 1)))).bind fun bt1014 => (some (bt1014.1, bt1014.2))) else (none)) else (none)) else (some ((⟨#[]⟩ : ByteArray), false)))) = some (r1, r2) := h
 clear h
 replace H := Option.bind_eq_some_iff.mp H
 obtain ⟨t1012, A40, H⟩ := H
 replace H : (if t1012 = true then (if 0 ≤ (wrap64 ((l2.length : Int) - 1)) then (if (wrap64 ((l2.length : Int) - 1)) < (l2.length : Int) then ((spec_ReadFile.f k (rdOf ByteArray.empty l2 (wrap64 ((l2.length : Int) - 1)))).bind fun bt1014 => (some (bt1014.1, bt1014.2))) else (none)) else (none)) else (some ((⟨#[]⟩ : ByteArray), false))) = some (r1, r2) := H
 have A4 := Aside0.mk A40
 clear A40
 by_cases c5 : t1012 = true
 ·subst c5
  have H1 : (if 0 ≤ (wrap64 ((l2.length : Int) - 1)) then (if (wrap64 ((l2.length : Int) - 1)) < (l2.length : Int) then ((spec_ReadFile.f k (rdOf ByteArray.empty l2 (wrap64 ((l2.length : Int) - 1)))).bind fun bt1014 => (some (bt1014.1, bt1014.2))) else (none)) else (none)) = some (r1, r2) := by rw [if_pos rfl] at H; exact H
  clear H
  have H := H1
  clear H1
  try (have e_ : (wrap64 ((l2.length : Int) - 1)) = ji15 := hji15; clear e_; clear hji15; try clear hji15w)
  try (have e_ : (wrap64 ((l2.length : Int) - 1)) = ji22 := hji22; clear e_; clear hji22; try clear hji22w)
  obtain ⟨ji6, hji6⟩ : ∃ j_ : Int, (wrap64 ((l2.length : Int) - 1)) = j_ := ⟨_, rfl⟩
  replace H : (if 0 ≤ (ji6) then (if (ji6) < (l2.length : Int) then ((spec_ReadFile.f k (rdOf ByteArray.empty l2 (ji6))).bind fun bt1014 => (some (bt1014.1, bt1014.2))) else (none)) else (none)) = some (r1, r2) := by first | (rw [hji6] at H; exact H) | (simp only [hji6] at H ⊢; exact H)
  (try rw [hji6] at A4)
  have hji6w : (IntKind.i64.wrap ((l2.length : Int) - 1)) = ji6 := (i64_w _).trans hji6
  by_cases c7 : 0 ≤ (ji6)
  ·rw [if_pos c7] at H
   have c7b0 : decide (0 ≤ (ji6)) = true := decide_eq_true c7
   clear c7
   by_cases c8 : (ji6) < (l2.length : Int)
   ·rw [if_pos c8] at H
    have c8b0 : decide ((ji6) < (l2.length : Int)) = true := decide_eq_true c8
    clear c8
    replace H := Option.bind_eq_some_iff.mp H
    obtain ⟨⟨t1014, t1015⟩, A90, H⟩ := H
    replace H : (some (t1014, t1015)) = some (r1, r2) := H
    have A9 := Aside0.mk A90
    clear A90
    simp only [Option.some.injEq, Prod.mk.injEq] at H
    obtain ⟨rfl, rfl⟩ := H
    go_enter Tryd.func44, Tryd.ntmps44
    go_wp2_with (first | ((with_reducible refine gate_callee (f := 39) rfl ?_); refine goesL_ (some 11) rfl rfl Tryd.func39 (by kernel_rfl) rfl #[.int .i64 a0, .string a1, .slice A2 l2.length c2] rfl sl_ ?_; (with_reducible refine (spec_ProofRight.calls k a0 a1 _ _ l2 true _ ?side1 ?side2 A4.out).mono ?_); (case side1 => exact kC_ HR2.out); (case side2 => exact HC2.out); rintro e w10 ⟨rfl, hb⟩; refine ⟨_, rfl, ?_⟩; replace HB := Aside0.mk (below_step hb_ hb); (try clear hb); have p1013 : 0 ≤ ((ji6) : Int) := of_decide_eq_true ma_; have q1013 : (ji6) < (l2.length : Int) := of_decide_eq_true ma_; obtain ⟨ad1013, e1013, hx1013_0⟩ := Kd.at_string HR2.out (ji6) p1013 q1013; cases e1013; replace hx1013_0 := (HB.out.cell (World.block_lt_of_cell? w _ hx1013_0)).trans hx1013_0; replace p1013 := eq_true p1013; replace q1013 := eq_true q1013) | ((with_reducible refine gate_callee (f := 70) rfl ?_); refine goesL_ (some 19) rfl rfl Tryd.func70 (by kernel_rfl) rfl #[.string (rdOf ByteArray.empty l2 (ji6))] rfl (by (try simp only [List.map_toArray, List.map_cons, List.map_nil]); first | done | (simp only [hji6]; rfl) | rfl | (simp only [List.length_drop, List.length_take]; rfl)) ?_; (with_reducible refine (spec_ReadFile.calls k (rdOf ByteArray.empty l2 (ji6)) t1014 t1015 _ A9.out).mono ?_); rintro e w' ⟨rfl, ⟨nd, rfl⟩⟩; refine ⟨_, rfl, ?_⟩))
    go_ret2
    exact ⟨by first | rfl | (simp [errW_none, errW_some] <;> rfl) | (simp only [← hji6]; first | rfl | (simp [errW_none, errW_some] <;> rfl)) | (simp [*, errW_none, errW_some] <;> rfl), hb_⟩
   ·rw [if_neg c8] at H
    exact absurd H (by simp)
  ·rw [if_neg c7] at H
   exact absurd H (by simp)
 ·replace c5 := Bool.eq_false_iff.mpr c5
  subst c5
  have H1 : (some ((⟨#[]⟩ : ByteArray), false)) = some (r1, r2) := by rw [if_neg (show ¬ (false = true) by decide)] at H; exact H
  clear H
  have H := H1
  clear H1
  simp only [Option.some.injEq, Prod.mk.injEq] at H
  obtain ⟨rfl, rfl⟩ := H
  go_enter Tryd.func44, Tryd.ntmps44
  go_wp2_with (first | ((with_reducible refine gate_callee (f := 39) rfl ?_); refine goesL_ (some 11) rfl rfl Tryd.func39 (by kernel_rfl) rfl #[.int .i64 a0, .string a1, .slice A2 l2.length c2] rfl sl_ ?_; (with_reducible refine (spec_ProofRight.calls k a0 a1 _ _ l2 false _ ?side1 ?side2 A4.out).mono ?_); (case side1 => exact kC_ HR2.out); (case side2 => exact HC2.out); rintro e w11 ⟨rfl, hb⟩; refine ⟨_, rfl, ?_⟩; replace HB := Aside0.mk (below_step hb_ hb); (try clear hb)))
  go_ret2
  exact ⟨er_, hb_⟩
/-! ### impl_ProofContent: function 45 -/
def impl_ProofContent.f (k : Nat) (a0 : Int) (a1 : ByteArray) (l2 : List ByteArray) : Option (ByteArray × Bool) := (impl_ProofRight.f k a0 a1 l2).bind fun t1016 => (if t1016 = true then (if 0 ≤ (wrap64 ((l2.length : Int) - 1)) then (if (wrap64 ((l2.length : Int) - 1)) < (l2.length : Int) then ((impl_ReadFile.f k (rdOf ByteArray.empty l2 (wrap64 ((l2.length : Int) - 1)))).bind fun bt1018 => (some (bt1018.1, bt1018.2))) else (none)) else (none)) else (some ((⟨#[]⟩ : ByteArray), false)))
theorem impl_ProofContent.mono : ∀ a0 a1 a2 k, LeO (impl_ProofContent.f k a0 a1 a2) (impl_ProofContent.f (k + 1) a0 a1 a2) := by
 intro a0 a1 a2 k
 unfold impl_ProofContent.f
 repeat' first
   | (with_reducible exact impl_ProofRight.mono _ _ _ _)
   | (with_reducible exact impl_ReadFile.mono _ _)
   | (with_reducible exact LeO.refl _)
   | (with_reducible exact LeO.none _)
   | (with_reducible refine LeO.ite ?_ ?_)
   | (with_reducible refine LeO.bind ?_ (fun _ => ?_))
   | exact impl_ProofRight.mono _ _ _ _
   | exact impl_ReadFile.mono _ _
   | exact LeO.none _
   | refine LeO.ite ?_ ?_
   | refine LeO.bind ?_ (fun _ => ?_)
set_option maxHeartbeats 8000000 in
set_option maxRecDepth 100000 in
theorem impl_ProofContent.calls (k : Nat) (a0 : Int) (a1 : ByteArray) (A2 : Option Addr) (c2 : Nat) (l2 : List ByteArray) (r1 : ByteArray) (r2 : Bool) (w : World) (hr2 : Kd.C Kd.string w A2 l2.length l2) (hc2 : l2.length ≤ c2) (hG : GT w) (h : impl_ProofContent.f k a0 a1 l2 = some (r1, r2)) :
  Calls Tryd.prog 45 #[.int .i64 a0, .string a1, .slice A2 l2.length c2] w fun e w' => e = .returned (.tuple #[.string r1, .bool r2]) ∧ Below w.heap.size w w' := by
 have HR2 := Aside0.mk hr2
 have HC2 := Aside0.mk hc2
 clear hr2 hc2
 have HB := Aside0.mk (Below.refl w.heap.size w)
 have H : ((impl_ProofRight.f k a0 a1 l2).bind fun t1016 => (if t1016 = true then (if 0 ≤ (wrap64 ((l2.length : Int) - 1)) then (if (wrap64 ((l2.length : Int) - 1)) < (l2.length : Int) then ((impl_ReadFile.f k (rdOf ByteArray.empty l2 (wrap64 ((l2.length : Int) - 1)))).bind fun bt1018 => (some (bt1018.1, bt1018.2))) else (none)) else (none)) else (some ((⟨#[]⟩ : ByteArray), false)))) = some (r1, r2) := h
 clear h
 replace H := Option.bind_eq_some_iff.mp H
 obtain ⟨t1016, A40, H⟩ := H
 replace H : (if t1016 = true then (if 0 ≤ (wrap64 ((l2.length : Int) - 1)) then (if (wrap64 ((l2.length : Int) - 1)) < (l2.length : Int) then ((impl_ReadFile.f k (rdOf ByteArray.empty l2 (wrap64 ((l2.length : Int) - 1)))).bind fun bt1018 => (some (bt1018.1, bt1018.2))) else (none)) else (none)) else (some ((⟨#[]⟩ : ByteArray), false))) = some (r1, r2) := H
 have A4 := Aside0.mk A40
 clear A40
 by_cases c5 : t1016 = true
 ·subst c5
  have H1 : (if 0 ≤ (wrap64 ((l2.length : Int) - 1)) then (if (wrap64 ((l2.length : Int) - 1)) < (l2.length : Int) then ((impl_ReadFile.f k (rdOf ByteArray.empty l2 (wrap64 ((l2.length : Int) - 1)))).bind fun bt1018 => (some (bt1018.1, bt1018.2))) else (none)) else (none)) = some (r1, r2) := by rw [if_pos rfl] at H; exact H
  clear H
  have H := H1
  clear H1
  try (have e_ : (wrap64 ((l2.length : Int) - 1)) = ji15 := hji15; clear e_; clear hji15; try clear hji15w)
  try (have e_ : (wrap64 ((l2.length : Int) - 1)) = ji22 := hji22; clear e_; clear hji22; try clear hji22w)
  obtain ⟨ji6, hji6⟩ : ∃ j_ : Int, (wrap64 ((l2.length : Int) - 1)) = j_ := ⟨_, rfl⟩
  replace H : (if 0 ≤ (ji6) then (if (ji6) < (l2.length : Int) then ((impl_ReadFile.f k (rdOf ByteArray.empty l2 (ji6))).bind fun bt1018 => (some (bt1018.1, bt1018.2))) else (none)) else (none)) = some (r1, r2) := by first | (rw [hji6] at H; exact H) | (simp only [hji6] at H ⊢; exact H)
  (try rw [hji6] at A4)
  have hji6w : (IntKind.i64.wrap ((l2.length : Int) - 1)) = ji6 := (i64_w _).trans hji6
  by_cases c7 : 0 ≤ (ji6)
  ·rw [if_pos c7] at H
   have c7b0 : decide (0 ≤ (ji6)) = true := decide_eq_true c7
   clear c7
   by_cases c8 : (ji6) < (l2.length : Int)
   ·rw [if_pos c8] at H
    have c8b0 : decide ((ji6) < (l2.length : Int)) = true := decide_eq_true c8
    clear c8
    replace H := Option.bind_eq_some_iff.mp H
    obtain ⟨⟨t1018, t1019⟩, A90, H⟩ := H
    replace H : (some (t1018, t1019)) = some (r1, r2) := H
    have A9 := Aside0.mk A90
    clear A90
    simp only [Option.some.injEq, Prod.mk.injEq] at H
    obtain ⟨rfl, rfl⟩ := H
    go_enter Tryd.func45, Tryd.ntmps45
    go_wp2_with (first | ((with_reducible refine gate_callee (f := 41) rfl ?_); refine goesL_ (some 11) rfl rfl Tryd.func41 (by kernel_rfl) rfl #[.int .i64 a0, .string a1, .slice A2 l2.length c2] rfl sl_ ?_; (with_reducible refine (impl_ProofRight.calls k a0 a1 _ _ l2 true _ ?side1 ?side2 (GT_on hb_ hG) A4.out).mono ?_); (case side1 => exact kC_ HR2.out); (case side2 => exact HC2.out); rintro e w10 ⟨rfl, hb⟩; refine ⟨_, rfl, ?_⟩; replace HB := Aside0.mk (below_step hb_ hb); (try clear hb); have p1017 : 0 ≤ ((ji6) : Int) := of_decide_eq_true ma_; have q1017 : (ji6) < (l2.length : Int) := of_decide_eq_true ma_; obtain ⟨ad1017, e1017, hx1017_0⟩ := Kd.at_string HR2.out (ji6) p1017 q1017; cases e1017; replace hx1017_0 := (HB.out.cell (World.block_lt_of_cell? w _ hx1017_0)).trans hx1017_0; replace p1017 := eq_true p1017; replace q1017 := eq_true q1017) | ((with_reducible refine gate_callee (f := 71) rfl ?_); refine goesL_ (some 19) rfl rfl Tryd.func71 (by kernel_rfl) rfl #[.string (rdOf ByteArray.empty l2 (ji6))] rfl (by (try simp only [List.map_toArray, List.map_cons, List.map_nil]); first | done | (simp only [hji6]; rfl) | rfl | (simp only [List.length_drop, List.length_take]; rfl)) ?_; (with_reducible refine (impl_ReadFile.calls k (rdOf ByteArray.empty l2 (ji6)) t1018 t1019 _ A9.out).mono ?_); rintro e w' ⟨rfl, ⟨nd, rfl⟩⟩; refine ⟨_, rfl, ?_⟩))
    go_ret2
    exact ⟨by first | rfl | (simp [errW_none, errW_some] <;> rfl) | (simp only [← hji6]; first | rfl | (simp [errW_none, errW_some] <;> rfl)) | (simp [*, errW_none, errW_some] <;> rfl), hb_⟩
   ·rw [if_neg c8] at H
    exact absurd H (by simp)
  ·rw [if_neg c7] at H
   exact absurd H (by simp)
 ·replace c5 := Bool.eq_false_iff.mpr c5
  subst c5
  have H1 : (some ((⟨#[]⟩ : ByteArray), false)) = some (r1, r2) := by rw [if_neg (show ¬ (false = true) by decide)] at H; exact H
  clear H
  have H := H1
  clear H1
  simp only [Option.some.injEq, Prod.mk.injEq] at H
  obtain ⟨rfl, rfl⟩ := H
  go_enter Tryd.func45, Tryd.ntmps45
  go_wp2_with (first | ((with_reducible refine gate_callee (f := 41) rfl ?_); refine goesL_ (some 11) rfl rfl Tryd.func41 (by kernel_rfl) rfl #[.int .i64 a0, .string a1, .slice A2 l2.length c2] rfl sl_ ?_; (with_reducible refine (impl_ProofRight.calls k a0 a1 _ _ l2 false _ ?side1 ?side2 (GT_on hb_ hG) A4.out).mono ?_); (case side1 => exact kC_ HR2.out); (case side2 => exact HC2.out); rintro e w11 ⟨rfl, hb⟩; refine ⟨_, rfl, ?_⟩; replace HB := Aside0.mk (below_step hb_ hb); (try clear hb)))
  go_ret2
  exact ⟨er_, hb_⟩
/-! ### laws_FnExactProofContent: function 10 -/
def laws_FnExactProofContent.j0 : Nat → List ByteArray → List ByteArray → Bool → Option (Bool)
 | 0, _, _, _ => none
 | k + 1, x2, x10, x45 => if x45 = true then (some false) else ((laws_toStringS.f k x2).bind fun t1031 => ((laws_eqStringS.f k x10 t1031).bind fun t1034 => (if t1034 = true then (some true) else (some false))))
def laws_FnExactProofContent.f (k : Nat) (a0 : Int) (a1 : ByteArray) (l2 : List ByteArray) : Option (Bool) := if (a1.size : Int) > 1048576 then (some true) else ((laws_szStringS.f k l2 1048576).bind fun t1020 => (if t1020 < 0 then (some true) else ((laws_toStringS.f k l2).bind fun t1021 => ((spec_ProofContent.f k a0 a1 t1021).bind fun bt1024 => ((laws_toStringS.f k l2).bind fun t1026 => ((impl_ProofContent.f k a0 a1 t1026).bind fun bt1029 => (if bt1029.1.toList = bt1024.1.toList then (laws_FnExactProofContent.j0 k l2 t1026 (bt1029.2 != bt1024.2)) else (laws_FnExactProofContent.j0 k l2 t1026 true))))))))
theorem laws_FnExactProofContent.mono_l : ∀ k, (∀ y0 y1 y2, LeO (laws_FnExactProofContent.j0 k y0 y1 y2) (laws_FnExactProofContent.j0 (k + 1) y0 y1 y2))
 | 0 => fun _ _ _ r h => by simp [laws_FnExactProofContent.j0] at h
 | k + 1 => by
  have ih0 := laws_FnExactProofContent.mono_l k
  ·intro y0 y1 y2
   unfold laws_FnExactProofContent.j0
   repeat' first
   | (with_reducible exact ih0 _ _ _)
   | (with_reducible exact impl_ProofContent.mono _ _ _ _)
   | (with_reducible exact laws_eqStringS.mono _ _ _)
   | (with_reducible exact laws_szStringS.mono _ _ _)
   | (with_reducible exact laws_toStringS.mono _ _)
   | (with_reducible exact spec_ProofContent.mono _ _ _ _)
   | (with_reducible exact LeO.refl _)
   | (with_reducible exact LeO.none _)
   | (with_reducible refine LeO.ite ?_ ?_)
   | (with_reducible refine LeO.bind ?_ (fun _ => ?_))
   | exact ih0 _ _ _
   | exact impl_ProofContent.mono _ _ _ _
   | exact laws_eqStringS.mono _ _ _
   | exact laws_szStringS.mono _ _ _
   | exact laws_toStringS.mono _ _
   | exact spec_ProofContent.mono _ _ _ _
   | exact LeO.none _
   | refine LeO.ite ?_ ?_
   | refine LeO.bind ?_ (fun _ => ?_)
theorem laws_FnExactProofContent.mono : ∀ a0 a1 a2 k, LeO (laws_FnExactProofContent.f k a0 a1 a2) (laws_FnExactProofContent.f (k + 1) a0 a1 a2) := by
 intro a0 a1 a2 k
 have ih0 := laws_FnExactProofContent.mono_l k
 unfold laws_FnExactProofContent.f
 repeat' first
   | (with_reducible exact ih0 _ _ _)
   | (with_reducible exact impl_ProofContent.mono _ _ _ _)
   | (with_reducible exact laws_eqStringS.mono _ _ _)
   | (with_reducible exact laws_szStringS.mono _ _ _)
   | (with_reducible exact laws_toStringS.mono _ _)
   | (with_reducible exact spec_ProofContent.mono _ _ _ _)
   | (with_reducible exact LeO.refl _)
   | (with_reducible exact LeO.none _)
   | (with_reducible refine LeO.ite ?_ ?_)
   | (with_reducible refine LeO.bind ?_ (fun _ => ?_))
   | exact ih0 _ _ _
   | exact impl_ProofContent.mono _ _ _ _
   | exact laws_eqStringS.mono _ _ _
   | exact laws_szStringS.mono _ _ _
   | exact laws_toStringS.mono _ _
   | exact spec_ProofContent.mono _ _ _ _
   | exact LeO.none _
   | refine LeO.ite ?_ ?_
   | refine LeO.bind ?_ (fun _ => ?_)
set_option maxHeartbeats 8000000 in
set_option maxRecDepth 100000 in
theorem laws_FnExactProofContent.calls (k : Nat) (a0 : Int) (a1 : ByteArray) (A2 : Option Addr) (c2 : Nat) (l2 : List ByteArray) (r : Bool) (w : World) (hr2 : Kd.C Kd.string w A2 l2.length l2) (hc2 : l2.length ≤ c2) (hG : GT w) (h : laws_FnExactProofContent.f k a0 a1 l2 = some r) (hrt : r = true) :
  Calls Tryd.prog 10 #[.int .i64 a0, .string a1, .slice A2 l2.length c2] w fun e w' => e = .returned (.bool r) ∧ Below w.heap.size w w' := by
 have HR2 := Aside0.mk hr2
 have HC2 := Aside0.mk hc2
 clear hr2 hc2
 have HB := Aside0.mk (Below.refl w.heap.size w)
 have H : (if (a1.size : Int) > 1048576 then (some true) else ((laws_szStringS.f k l2 1048576).bind fun t1020 => (if t1020 < 0 then (some true) else ((laws_toStringS.f k l2).bind fun t1021 => ((spec_ProofContent.f k a0 a1 t1021).bind fun bt1024 => ((laws_toStringS.f k l2).bind fun t1026 => ((impl_ProofContent.f k a0 a1 t1026).bind fun bt1029 => (if bt1029.1.toList = bt1024.1.toList then (laws_FnExactProofContent.j0 k l2 t1026 (bt1029.2 != bt1024.2)) else (laws_FnExactProofContent.j0 k l2 t1026 true))))))))) = some r := h
 clear h
 by_cases c4 : (a1.size : Int) > 1048576
 ·rw [if_pos c4] at H
  have c4b0 : decide (1048576 < (a1.size : Int)) = true := decide_eq_true c4
  have c4b1 : decide (1048576 < a1.size) = true := decide_eq_true (by omega)
  clear c4
  obtain rfl := Option.some.inj H
  go_enter Tryd.func10, Tryd.ntmps10
  go_wp2
  go_ret
  exact ⟨er_, hb_⟩
 ·rw [if_neg c4] at H
  have c4b0 : decide (1048576 < (a1.size : Int)) = false := decide_eq_false c4
  have c4b1 : decide (1048576 < a1.size) = false := decide_eq_false (by omega)
  clear c4
  replace H := Option.bind_eq_some_iff.mp H
  obtain ⟨t1020, A50, H⟩ := H
  replace H : (if t1020 < 0 then (some true) else ((laws_toStringS.f k l2).bind fun t1021 => ((spec_ProofContent.f k a0 a1 t1021).bind fun bt1024 => ((laws_toStringS.f k l2).bind fun t1026 => ((impl_ProofContent.f k a0 a1 t1026).bind fun bt1029 => (if bt1029.1.toList = bt1024.1.toList then (laws_FnExactProofContent.j0 k l2 t1026 (bt1029.2 != bt1024.2)) else (laws_FnExactProofContent.j0 k l2 t1026 true))))))) = some r := H
  have A5 := Aside0.mk A50
  clear A50
  by_cases c6 : t1020 < 0
  ·rw [if_pos c6] at H
   have c6b0 : decide (t1020 < 0) = true := decide_eq_true c6
   clear c6
   obtain rfl := Option.some.inj H
   go_enter Tryd.func10, Tryd.ntmps10
   go_wp2_with (first | ((with_reducible refine gate_callee (f := 38) rfl ?_); refine goesL_ (some 18) rfl rfl Tryd.func38 (by kernel_rfl) rfl #[.slice A2 l2.length c2, .int .i64 1048576] rfl sl_ ?_; (with_reducible refine (laws_szStringS.calls k _ _ l2 1048576 t1020 _ ?side1 ?side2 A5.out).mono ?_); (case side1 => exact kC_ HR2.out); (case side2 => exact HC2.out); rintro e w' ⟨rfl, ⟨nd, rfl⟩⟩; refine ⟨_, rfl, ?_⟩))
   go_ret
   exact ⟨er_, hb_⟩
  ·rw [if_neg c6] at H
   have c6b0 : decide (t1020 < 0) = false := decide_eq_false c6
   clear c6
   replace H := Option.bind_eq_some_iff.mp H
   obtain ⟨t1021, A70, H⟩ := H
   replace H : ((spec_ProofContent.f k a0 a1 t1021).bind fun bt1024 => ((laws_toStringS.f k l2).bind fun t1026 => ((impl_ProofContent.f k a0 a1 t1026).bind fun bt1029 => (if bt1029.1.toList = bt1024.1.toList then (laws_FnExactProofContent.j0 k l2 t1026 (bt1029.2 != bt1024.2)) else (laws_FnExactProofContent.j0 k l2 t1026 true))))) = some r := H
   have A7 := Aside0.mk A70
   clear A70
   replace H := Option.bind_eq_some_iff.mp H
   obtain ⟨⟨t1024, t1025⟩, A80, H⟩ := H
   replace H : ((laws_toStringS.f k l2).bind fun t1026 => ((impl_ProofContent.f k a0 a1 t1026).bind fun bt1029 => (if bt1029.1.toList = t1024.toList then (laws_FnExactProofContent.j0 k l2 t1026 (bt1029.2 != t1025)) else (laws_FnExactProofContent.j0 k l2 t1026 true)))) = some r := H
   have A8 := Aside0.mk A80
   clear A80
   replace H := Option.bind_eq_some_iff.mp H
   obtain ⟨t1026, A90, H⟩ := H
   replace H : ((impl_ProofContent.f k a0 a1 t1026).bind fun bt1029 => (if bt1029.1.toList = t1024.toList then (laws_FnExactProofContent.j0 k l2 t1026 (bt1029.2 != t1025)) else (laws_FnExactProofContent.j0 k l2 t1026 true))) = some r := H
   have A9 := Aside0.mk A90
   clear A90
   replace H := Option.bind_eq_some_iff.mp H
   obtain ⟨⟨t1029, t1030⟩, A100, H⟩ := H
   replace H : (if t1029.toList = t1024.toList then (laws_FnExactProofContent.j0 k l2 t1026 (t1030 != t1025)) else (laws_FnExactProofContent.j0 k l2 t1026 true)) = some r := H
   have A10 := Aside0.mk A100
   clear A100
   have HC11 := Aside0.mk H
   clear H
   go_enter Tryd.func10, Tryd.ntmps10
   go_upto_region 10 with (first | ((with_reducible refine gate_callee (f := 38) rfl ?_); refine goesL_ (some 18) rfl rfl Tryd.func38 (by kernel_rfl) rfl #[.slice A2 l2.length c2, .int .i64 1048576] rfl sl_ ?_; (with_reducible refine (laws_szStringS.calls k _ _ l2 1048576 t1020 _ ?side1 ?side2 A5.out).mono ?_); (case side1 => exact kC_ HR2.out); (case side2 => exact HC2.out); rintro e w' ⟨rfl, ⟨nd, rfl⟩⟩; refine ⟨_, rfl, ?_⟩) | ((with_reducible refine gate_callee (f := 40) rfl ?_); refine goesL_ (some 25) rfl rfl Tryd.func40 (by kernel_rfl) rfl #[.slice A2 l2.length c2] rfl sl_ ?_; (with_reducible refine (laws_toStringS.calls k _ _ l2 t1021 _ ?side1 ?side2 A7.out).mono ?_); (case side1 => exact kC_ HR2.out); (case side2 => exact HC2.out); rintro e w12 ⟨v1022, rfl, ho0, hb⟩; refine ⟨_, rfl, ?_⟩; have HO1023 := Aside0.mk (Kd.R_lower ho0 (below_size hb_)); replace HB := Aside0.mk (below_step hb_ hb); (try clear hb); (try clear ho0); obtain ⟨Ao13, co13, eo13⟩ := Kd.R_slice HO1023.out; subst eo13) | ((with_reducible refine gate_callee (f := 44) rfl ?_); refine goesL_ (some 26) rfl rfl Tryd.func44 (by kernel_rfl) rfl #[.int .i64 a0, .string a1, .slice Ao13 t1021.length co13] rfl sl_ ?_; (with_reducible refine (spec_ProofContent.calls k a0 a1 _ _ t1021 t1024 t1025 _ ?side1 ?side2 A8.out).mono ?_); (case side1 => exact kC_ ((Kd.R_reads' HO1023.out).2.2)); (case side2 => exact (Kd.R_reads' HO1023.out).2.1); rintro e w14 ⟨rfl, hb⟩; refine ⟨_, rfl, ?_⟩; replace HO1023 := Aside0.mk (Kd.R_below (kR_ HO1023.out) hb); replace HB := Aside0.mk (below_step hb_ hb); (try clear hb)) | ((with_reducible refine gate_callee (f := 40) rfl ?_); refine goesL_ (some 30) rfl rfl Tryd.func40 (by kernel_rfl) rfl #[.slice A2 l2.length c2] rfl sl_ ?_; (with_reducible refine (laws_toStringS.calls k _ _ l2 t1026 _ ?side1 ?side2 A9.out).mono ?_); (case side1 => exact kC_ (Kd.C_below HR2.out HB.out)); (case side2 => exact HC2.out); rintro e w15 ⟨v1027, rfl, ho0, hb⟩; refine ⟨_, rfl, ?_⟩; have HO1028 := Aside0.mk (Kd.R_lower (Kd.R_new' ho0 (Kd.R_lt (kR_ HO1023.out))) (below_size hb_)); replace HO1023 := Aside0.mk (Kd.R_elder' (kR_ HO1023.out) (Kd.R_base ho0) hb); replace HB := Aside0.mk (below_step hb_ hb); (try clear hb); (try clear ho0); obtain ⟨Ao16, co16, eo16⟩ := Kd.R_slice HO1028.out; subst eo16) | ((with_reducible refine gate_callee (f := 45) rfl ?_); refine goesL_ (some 35) rfl rfl Tryd.func45 (by kernel_rfl) rfl #[.int .i64 a0, .string a1, .slice Ao16 t1026.length co16] rfl sl_ ?_; (with_reducible refine (impl_ProofContent.calls k a0 a1 _ _ t1026 t1029 t1030 _ ?side1 ?side2 (GT_on hb_ hG) A10.out).mono ?_); (case side1 => exact kC_ ((Kd.R_reads' HO1028.out).2.2)); (case side2 => exact (Kd.R_reads' HO1028.out).2.1); rintro e w17 ⟨rfl, hb⟩; refine ⟨_, rfl, ?_⟩; replace HO1023 := Aside0.mk (Kd.R_below (kR_ HO1023.out) hb); replace HO1028 := Aside0.mk (Kd.R_below (kR_ HO1028.out) hb); replace HB := Aside0.mk (below_step hb_ hb); (try clear hb)))
   (try simp only [Act.put, List.setIfInBounds_toArray, List.set_cons_zero, List.set_cons_succ])
   go_cut [45] (fun v45 wc => ∃ (kq : Nat) (x45_10 : Bool), v45 = .bool x45_10 ∧ Aside0 (laws_FnExactProofContent.j0 kq l2 t1026 x45_10 = some r) ∧ Aside0 (kq ≤ k) ∧ Aside0 (Kd.R Kd.string 9 wc w.heap.size (fun _ => True) (.slice Ao16 t1026.length co16) t1026) ∧ Aside0 (Below w.heap.size w wc))
   case first =>
    have H := HC11.out
    clear HC11
    by_cases c18 : t1029.toList = t1024.toList
    ·rw [if_pos c18] at H
     have c18b0 : (t1029.toList == t1024.toList) = true := beq_iff_eq.mpr c18
     have c18b1 : (t1029.toList != t1024.toList) = false := bne_eq_false_iff_eq.mpr c18
     clear c18
     (first | rw [c18b0] | (simp only [i64_w, i32_w]; rw [c18b0]) | skip)
     have H' := Aside0.mk H
     clear H
     go_wp2
     go_meet
     case rel => exact ⟨_, ((t1030 != t1025)), (by first | rfl | (simp; done) | (simp [*]; done)), H', ⟨by first | omega | exact Nat.le_refl _⟩, ⟨by (with_reducible repeat (first | apply Kd.R_alloc | apply Kd.R_drewN | apply Kd.R_drew)); exact Kd.R_mono HO1028.out (fun _ hk => trivial)⟩, ⟨hb_⟩⟩
    ·rw [if_neg c18] at H
     have c18b0 : (t1029.toList == t1024.toList) = false := beq_eq_false_iff_ne.mpr c18
     have c18b1 : (t1029.toList != t1024.toList) = true := bne_iff_ne.mpr c18
     (first | rw [c18b0] | (simp only [i64_w, i32_w]; rw [c18b0]) | skip)
     have H' := Aside0.mk H
     clear H
     go_wp2
     go_meet
     case rel => exact ⟨_, (true), (by first | rfl | (simp; done) | (simp [*]; done)), H', ⟨by first | omega | exact Nat.le_refl _⟩, ⟨by (with_reducible repeat (first | apply Kd.R_alloc | apply Kd.R_drewN | apply Kd.R_drew)); exact Kd.R_mono HO1028.out (fun _ hk => trivial)⟩, ⟨hb_⟩⟩
   case rest =>
    clear HC11
    try clear c1
    try clear c2
    try clear p2
    try clear c3
    try clear c4
    try clear c4b0
    try clear c4b1
    try clear c6
    try clear c6b0
    try clear c10
    try clear c18
    try clear c18b0
    try clear c18b1
    obtain ⟨kq, x45_10, rfl, HA, HJ10, HO_10, HB⟩ := hcut
    cases kq with
    | zero => exact absurd HA.out (by simp [laws_FnExactProofContent.j0])
    | succ kj10 =>
     have H := HA.out
     clear HA
     simp only [laws_FnExactProofContent.j0] at H
     by_cases c19 : x45_10 = true
     ·subst c19
      have H1 : (some false) = some r := by rw [if_pos rfl] at H; exact H
      clear H
      have H := H1
      clear H1
      exact absurd H (by subst hrt; decide)
     ·replace c19 := Bool.eq_false_iff.mpr c19
      subst c19
      have H1 : ((laws_toStringS.f kj10 l2).bind fun t1031 => ((laws_eqStringS.f kj10 t1026 t1031).bind fun t1034 => (if t1034 = true then (some true) else (some false)))) = some r := by rw [if_neg (show ¬ (false = true) by decide)] at H; exact H
      clear H
      have H := H1
      clear H1
      replace H := Option.bind_eq_some_iff.mp H
      obtain ⟨t1031, A200, H⟩ := H
      replace H : ((laws_eqStringS.f kj10 t1026 t1031).bind fun t1034 => (if t1034 = true then (some true) else (some false))) = some r := H
      have A20 := Aside0.mk A200
      clear A200
      replace H := Option.bind_eq_some_iff.mp H
      obtain ⟨t1034, A210, H⟩ := H
      replace H : (if t1034 = true then (some true) else (some false)) = some r := H
      have A21 := Aside0.mk A210
      clear A210
      by_cases c22 : t1034 = true
      ·subst c22
       have H1 : (some true) = some r := by rw [if_pos rfl] at H; exact H
       clear H
       have H := H1
       clear H1
       obtain rfl := Option.some.inj H
       go_wp2_with (first | ((with_reducible refine gate_callee (f := 40) rfl ?_); refine goesL_ (some 48) rfl rfl Tryd.func40 (by kernel_rfl) rfl #[.slice A2 l2.length c2] rfl sl_ ?_; (with_reducible refine (laws_toStringS.calls kj10 _ _ l2 t1031 _ ?side1 ?side2 A20.out).mono ?_); (case side1 => exact kC_ (Kd.C_below HR2.out HB.out)); (case side2 => exact HC2.out); rintro e w23 ⟨v1032, rfl, ho0, hb⟩; refine ⟨_, rfl, ?_⟩; have HO1033 := Aside0.mk (Kd.R_lower (Kd.R_new' ho0 (Kd.R_lt (kR_ HO_10.out))) (below_size hb_)); replace HO_10 := Aside0.mk (Kd.R_elder' (kR_ HO_10.out) (Kd.R_base ho0) hb); replace HB := Aside0.mk (below_step hb_ hb); (try clear hb); (try clear ho0); obtain ⟨Ao24, co24, eo24⟩ := Kd.R_slice HO1033.out; subst eo24) | ((with_reducible refine gate_callee (f := 35) rfl ?_); refine goesL_ (some 49) rfl rfl Tryd.func35 (by kernel_rfl) rfl #[.slice Ao16 t1026.length co16, .slice Ao24 t1031.length co24] rfl sl_ ?_; (with_reducible refine (laws_eqStringS.calls kj10 _ _ t1026 _ _ t1031 true _ ?side1 ?side2 ?side3 ?side4 A21.out).mono ?_); (case side1 => exact kC_ ((Kd.R_reads' HO_10.out).2.2)); (case side2 => exact (Kd.R_reads' HO_10.out).2.1); (case side3 => exact kC_ ((Kd.R_reads' HO1033.out).2.2)); (case side4 => exact (Kd.R_reads' HO1033.out).2.1); rintro e w' ⟨rfl, ⟨nd, rfl⟩⟩; refine ⟨_, rfl, ?_⟩))
       go_ret
       exact ⟨er_, hb_⟩
      ·replace c22 := Bool.eq_false_iff.mpr c22
       subst c22
       have H1 : (some false) = some r := by rw [if_neg (show ¬ (false = true) by decide)] at H; exact H
       clear H
       have H := H1
       clear H1
       exact absurd H (by subst hrt; decide)
end Go.Proofs.YtjgbidklkhohfaaDoor.P
