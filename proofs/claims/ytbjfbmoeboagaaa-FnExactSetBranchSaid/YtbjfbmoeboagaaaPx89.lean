-- The functions of the seat as plain Lean functions, made by the kit's print.py for all laws at once. Not trusted: Lean checks it.
import Derived.Test.YtbjfbmoeboagaaaPx0
import Derived.Test.YtbjfbmoeboagaaaPx26
import Derived.Test.YtbjfbmoeboagaaaPx27
import Derived.Test.YtbjfbmoeboagaaaPx30
import Derived.Test.YtbjfbmoeboagaaaPx31
import Derived.Test.YtbjfbmoeboagaaaPx39
import Derived.Test.YtbjfbmoeboagaaaPx68
import Derived.Test.YtbjfbmoeboagaaaPx77
import Derived.Test.YtbjfbmoeboagaaaPx78
import Derived.Test.YtbjfbmoeboagaaaPx88
namespace Go.Proofs.Ytbjfbmoeboagaaa.P
open Go.RowKit Go.Proofs.YtbjfbmoeboagaaaW.PrintWords Go.Proofs.YtbjfbmoeboagaaaW.PrintLast Go.Proofs.YtbjfbmoeboagaaaW.PrintMore
attribute [local go_sem] max2_int min2_int max_two min_two max_three min_three max_four min_four   -- for this text's walks alone
set_option linter.unusedVariables false
set_option linter.unusedSimpArgs false

/-! ### laws_FnExactSetBranch: function 13 -/
mutual
def laws_FnExactSetBranch.j0 : Nat → List (S69) → Int → List (S64) → Bool → List (S64) → List (S64) → Bool → Bool → ByteArray → Int → Option (Bool)
  | 0, _, _, _, _, _, _, _, _, _, _ => none
  | k + 1, x0, x1, x8, x9, x10, x11, x12, x55, x800000, x800001 => if x55 = true then (some false) else ((laws_toBranchS.f k x0).bind fun t821 => ((laws_eqBranchS.f k x10 t821).bind fun t824 => (if t824 = true then ((laws_markBranchS.f k x10 1).bind fun bt825 => (if bt825.1 < 0 then (laws_FnExactSetBranch.j1 k x0 x1 x8 x9 x11 true x800000 x800001) else ((laws_eqBranchS.f k x11 x8).bind fun t827 => (if t827 = true then (laws_FnExactSetBranch.j1 k x0 x1 x8 x9 x11 (x12 != x9) x800000 x800001) else (laws_FnExactSetBranch.j1 k x0 x1 x8 x9 x11 true x800000 x800001))))) else (some false))))
def laws_FnExactSetBranch.j1 : Nat → List (S69) → Int → List (S64) → Bool → List (S64) → Bool → ByteArray → Int → Option (Bool)
  | 0, _, _, _, _, _, _, _, _ => none
  | k + 1, x0, x1, x8, x9, x11, x76, x800000, x800001 => if x76 = true then (some false) else ((laws_markBranchS.f k x11 1).bind fun bt828 => ((laws_heldBranchS.f k bt828.2 1).bind fun t830 => (if t830 < 0 then (some false) else (if t830 = bt828.1 then ((laws_toBranchS.f k x0).bind fun t831 => ((laws_toBranch.f x800000 x800001).bind fun bt834 => ((impl_SetBranch.f k t831 x1 bt834.1 bt834.2).bind fun bt836 => ((laws_eqBranchS.f k bt836.1 x8).bind fun t840 => (if t840 = true then (laws_FnExactSetBranch.j2 k bt828.2 bt828.1 (bt836.2 != x9)) else (laws_FnExactSetBranch.j2 k bt828.2 bt828.1 true)))))) else (some false)))))
def laws_FnExactSetBranch.j2 : Nat → List (S64) → Int → Bool → Option (Bool)
  | 0, _, _, _ => none
  | k + 1, x11, x14, x105 => if x105 = true then (some false) else ((laws_heldBranchS.f k x11 1).bind fun t841 => (if t841 < 0 then (some false) else (if t841 = x14 then (some true) else (some false))))
end
def laws_FnExactSetBranch.f (k : Nat) (l0 : List (S69)) (a1 : Int) (a2_0 : ByteArray) (a2_1 : Int) : Option (Bool) := (laws_szBranchS.f k l0 1048576).bind fun t800 => (if t800 < 0 then (some true) else ((laws_szBranch.f a2_0 a2_1 t800).bind fun t801 => (if t801 < 0 then (some true) else ((laws_toBranchS.f k l0).bind fun t802 => ((laws_toBranch.f a2_0 a2_1).bind fun bt805 => ((spec_SetBranch.f k t802 a1 bt805.1 bt805.2).bind fun bt807 => ((laws_toBranchS.f k l0).bind fun t811 => ((laws_toBranch.f a2_0 a2_1).bind fun bt814 => ((impl_SetBranch.f k t811 a1 bt814.1 bt814.2).bind fun bt816 => ((laws_eqBranchS.f k bt816.1 bt807.1).bind fun t820 => (if t820 = true then (laws_FnExactSetBranch.j0 k l0 a1 bt807.1 bt807.2 t811 bt816.1 bt816.2 (bt816.2 != bt807.2) a2_0 a2_1) else (laws_FnExactSetBranch.j0 k l0 a1 bt807.1 bt807.2 t811 bt816.1 bt816.2 true a2_0 a2_1))))))))))))
theorem laws_FnExactSetBranch.mono_l : ∀ k, (∀ y0 y1 y2 y3 y4 y5 y6 y7 y8 y9, LeO (laws_FnExactSetBranch.j0 k y0 y1 y2 y3 y4 y5 y6 y7 y8 y9) (laws_FnExactSetBranch.j0 (k + 1) y0 y1 y2 y3 y4 y5 y6 y7 y8 y9)) ∧ (∀ y0 y1 y2 y3 y4 y5 y6 y7, LeO (laws_FnExactSetBranch.j1 k y0 y1 y2 y3 y4 y5 y6 y7) (laws_FnExactSetBranch.j1 (k + 1) y0 y1 y2 y3 y4 y5 y6 y7)) ∧ (∀ y0 y1 y2, LeO (laws_FnExactSetBranch.j2 k y0 y1 y2) (laws_FnExactSetBranch.j2 (k + 1) y0 y1 y2))
  | 0 => ⟨fun _ _ _ _ _ _ _ _ _ _ r h => by simp [laws_FnExactSetBranch.j0] at h, fun _ _ _ _ _ _ _ _ r h => by simp [laws_FnExactSetBranch.j1] at h, fun _ _ _ r h => by simp [laws_FnExactSetBranch.j2] at h⟩
  | k + 1 => by
    obtain ⟨ih0, ih1, ih2⟩ := laws_FnExactSetBranch.mono_l k
    refine ⟨?_, ?_, ?_⟩
    · intro y0 y1 y2 y3 y4 y5 y6 y7 y8 y9
      unfold laws_FnExactSetBranch.j0
      repeat' first
      | (with_reducible exact ih0 _ _ _ _ _ _ _ _ _ _)
      | (with_reducible exact ih1 _ _ _ _ _ _ _ _)
      | (with_reducible exact ih2 _ _ _)
      | (with_reducible exact impl_SetBranch.mono _ _ _ _ _)
      | (with_reducible exact laws_eqBranchS.mono _ _ _)
      | (with_reducible exact laws_heldBranchS.mono _ _ _)
      | (with_reducible exact laws_markBranchS.mono _ _ _)
      | (with_reducible exact laws_szBranchS.mono _ _ _)
      | (with_reducible exact laws_toBranchS.mono _ _)
      | (with_reducible exact spec_SetBranch.mono _ _ _ _ _)
      | (with_reducible exact LeO.refl _)
      | (with_reducible exact LeO.none _)
      | (with_reducible refine LeO.ite ?_ ?_)
      | (with_reducible refine LeO.bind ?_ (fun _ => ?_))
      | exact ih0 _ _ _ _ _ _ _ _ _ _
      | exact ih1 _ _ _ _ _ _ _ _
      | exact ih2 _ _ _
      | exact impl_SetBranch.mono _ _ _ _ _
      | exact laws_eqBranchS.mono _ _ _
      | exact laws_heldBranchS.mono _ _ _
      | exact laws_markBranchS.mono _ _ _
      | exact laws_szBranchS.mono _ _ _
      | exact laws_toBranchS.mono _ _
      | exact spec_SetBranch.mono _ _ _ _ _
      | exact LeO.none _
      | refine LeO.ite ?_ ?_
      | refine LeO.bind ?_ (fun _ => ?_)
    · intro y0 y1 y2 y3 y4 y5 y6 y7
      unfold laws_FnExactSetBranch.j1
      repeat' first
      | (with_reducible exact ih0 _ _ _ _ _ _ _ _ _ _)
      | (with_reducible exact ih1 _ _ _ _ _ _ _ _)
      | (with_reducible exact ih2 _ _ _)
      | (with_reducible exact impl_SetBranch.mono _ _ _ _ _)
      | (with_reducible exact laws_eqBranchS.mono _ _ _)
      | (with_reducible exact laws_heldBranchS.mono _ _ _)
      | (with_reducible exact laws_markBranchS.mono _ _ _)
      | (with_reducible exact laws_szBranchS.mono _ _ _)
      | (with_reducible exact laws_toBranchS.mono _ _)
      | (with_reducible exact spec_SetBranch.mono _ _ _ _ _)
      | (with_reducible exact LeO.refl _)
      | (with_reducible exact LeO.none _)
      | (with_reducible refine LeO.ite ?_ ?_)
      | (with_reducible refine LeO.bind ?_ (fun _ => ?_))
      | exact ih0 _ _ _ _ _ _ _ _ _ _
      | exact ih1 _ _ _ _ _ _ _ _
      | exact ih2 _ _ _
      | exact impl_SetBranch.mono _ _ _ _ _
      | exact laws_eqBranchS.mono _ _ _
      | exact laws_heldBranchS.mono _ _ _
      | exact laws_markBranchS.mono _ _ _
      | exact laws_szBranchS.mono _ _ _
      | exact laws_toBranchS.mono _ _
      | exact spec_SetBranch.mono _ _ _ _ _
      | exact LeO.none _
      | refine LeO.ite ?_ ?_
      | refine LeO.bind ?_ (fun _ => ?_)
    · intro y0 y1 y2
      unfold laws_FnExactSetBranch.j2
      repeat' first
      | (with_reducible exact ih0 _ _ _ _ _ _ _ _ _ _)
      | (with_reducible exact ih1 _ _ _ _ _ _ _ _)
      | (with_reducible exact ih2 _ _ _)
      | (with_reducible exact impl_SetBranch.mono _ _ _ _ _)
      | (with_reducible exact laws_eqBranchS.mono _ _ _)
      | (with_reducible exact laws_heldBranchS.mono _ _ _)
      | (with_reducible exact laws_markBranchS.mono _ _ _)
      | (with_reducible exact laws_szBranchS.mono _ _ _)
      | (with_reducible exact laws_toBranchS.mono _ _)
      | (with_reducible exact spec_SetBranch.mono _ _ _ _ _)
      | (with_reducible exact LeO.refl _)
      | (with_reducible exact LeO.none _)
      | (with_reducible refine LeO.ite ?_ ?_)
      | (with_reducible refine LeO.bind ?_ (fun _ => ?_))
      | exact ih0 _ _ _ _ _ _ _ _ _ _
      | exact ih1 _ _ _ _ _ _ _ _
      | exact ih2 _ _ _
      | exact impl_SetBranch.mono _ _ _ _ _
      | exact laws_eqBranchS.mono _ _ _
      | exact laws_heldBranchS.mono _ _ _
      | exact laws_markBranchS.mono _ _ _
      | exact laws_szBranchS.mono _ _ _
      | exact laws_toBranchS.mono _ _
      | exact spec_SetBranch.mono _ _ _ _ _
      | exact LeO.none _
      | refine LeO.ite ?_ ?_
      | refine LeO.bind ?_ (fun _ => ?_)
theorem laws_FnExactSetBranch.mono : ∀ a0 a1 a2 a3 k, LeO (laws_FnExactSetBranch.f k a0 a1 a2 a3) (laws_FnExactSetBranch.f (k + 1) a0 a1 a2 a3) := by
  intro a0 a1 a2 a3 k
  obtain ⟨ih0, ih1, ih2⟩ := laws_FnExactSetBranch.mono_l k
  unfold laws_FnExactSetBranch.f
  repeat' first
      | (with_reducible exact ih0 _ _ _ _ _ _ _ _ _ _)
      | (with_reducible exact ih1 _ _ _ _ _ _ _ _)
      | (with_reducible exact ih2 _ _ _)
      | (with_reducible exact impl_SetBranch.mono _ _ _ _ _)
      | (with_reducible exact laws_eqBranchS.mono _ _ _)
      | (with_reducible exact laws_heldBranchS.mono _ _ _)
      | (with_reducible exact laws_markBranchS.mono _ _ _)
      | (with_reducible exact laws_szBranchS.mono _ _ _)
      | (with_reducible exact laws_toBranchS.mono _ _)
      | (with_reducible exact spec_SetBranch.mono _ _ _ _ _)
      | (with_reducible exact LeO.refl _)
      | (with_reducible exact LeO.none _)
      | (with_reducible refine LeO.ite ?_ ?_)
      | (with_reducible refine LeO.bind ?_ (fun _ => ?_))
      | exact ih0 _ _ _ _ _ _ _ _ _ _
      | exact ih1 _ _ _ _ _ _ _ _
      | exact ih2 _ _ _
      | exact impl_SetBranch.mono _ _ _ _ _
      | exact laws_eqBranchS.mono _ _ _
      | exact laws_heldBranchS.mono _ _ _
      | exact laws_markBranchS.mono _ _ _
      | exact laws_szBranchS.mono _ _ _
      | exact laws_toBranchS.mono _ _
      | exact spec_SetBranch.mono _ _ _ _ _
      | exact LeO.none _
      | refine LeO.ite ?_ ?_
      | refine LeO.bind ?_ (fun _ => ?_)
def laws_FnExactSetBranch.T8 : Bool × List (List Nat × List Nat) := (true, [([], []), ([0], [0]), ([], []), ([], []), ([3, 1], [3]), ([1, 2, 4, 4], [1, 2, 4]), ([5], [5]), ([6], [6]), ([6], [6]), ([7, 5, 0, 1, 2, 3, 4, 5, 6, 7], [7]), ([8, 9, 0, 1, 2, 3, 4, 5, 6, 7, 8, 9], [8])])
def laws_FnExactSetBranch.B8 : List Nat := [0, 1, 0, 0, 11, 31, 63, 127, 127, 255, 1023]
theorem laws_FnExactSetBranch.tab8 : rtab .any (opsOf Try.f13 8) = laws_FnExactSetBranch.T8 := by kernel_rfl
theorem laws_FnExactSetBranch.bits8 : waitsOk laws_FnExactSetBranch.T8.2 laws_FnExactSetBranch.B8 = true := by kernel_rfl
def laws_FnExactSetBranch.T27 : Bool × List (List Nat × List Nat) := (true, [([], []), ([0], [0]), ([], []), ([], []), ([3, 1], [3]), ([1, 2, 4, 4], [1, 2, 4]), ([5], [5]), ([6], [6]), ([6], [6]), ([7, 5, 0, 1, 2, 3, 4, 5, 6, 7], [7]), ([8, 9, 0, 1, 2, 3, 4, 5, 6, 7, 8, 9], [8])])
def laws_FnExactSetBranch.B27 : List Nat := [0, 1, 0, 0, 11, 31, 63, 127, 127, 255, 1023]
theorem laws_FnExactSetBranch.tab27 : rtab .any (opsOf Try.f13 27) = laws_FnExactSetBranch.T27 := by kernel_rfl
theorem laws_FnExactSetBranch.bits27 : waitsOk laws_FnExactSetBranch.T27.2 laws_FnExactSetBranch.B27 = true := by kernel_rfl
set_option maxHeartbeats 8000000 in
set_option maxRecDepth 100000 in
theorem laws_FnExactSetBranch.calls (k : Nat) (A0 : Option Addr) (c0 : Nat) (l0 : List (S69)) (a1 : Int) (a2_0 : ByteArray) (a2_1 : Int) (r : Bool) (w : World) (hr0 : Kd.C k69 w A0 l0.length l0) (hc0 : l0.length ≤ c0) (h : laws_FnExactSetBranch.f k l0 a1 a2_0 a2_1 = some r) :
    Calls Try.prog 13 #[.slice A0 l0.length c0, .int .i64 a1, .agg #[.string a2_0, .int .i64 a2_1]] w fun e w' => e = .returned (.bool r) ∧ Below w.heap.size w w' := by
  have hu69 := Try.underlying69
  have HR0 := Aside0.mk hr0
  have HC0 := Aside0.mk hc0
  clear hr0 hc0
  have HB := Aside0.mk (Below.refl w.heap.size w)
  have H : ((laws_szBranchS.f k l0 1048576).bind fun t800 => (if t800 < 0 then (some true) else ((laws_szBranch.f a2_0 a2_1 t800).bind fun t801 => (if t801 < 0 then (some true) else ((laws_toBranchS.f k l0).bind fun t802 => ((laws_toBranch.f a2_0 a2_1).bind fun bt805 => ((spec_SetBranch.f k t802 a1 bt805.1 bt805.2).bind fun bt807 => ((laws_toBranchS.f k l0).bind fun t811 => ((laws_toBranch.f a2_0 a2_1).bind fun bt814 => ((impl_SetBranch.f k t811 a1 bt814.1 bt814.2).bind fun bt816 => ((laws_eqBranchS.f k bt816.1 bt807.1).bind fun t820 => (if t820 = true then (laws_FnExactSetBranch.j0 k l0 a1 bt807.1 bt807.2 t811 bt816.1 bt816.2 (bt816.2 != bt807.2) a2_0 a2_1) else (laws_FnExactSetBranch.j0 k l0 a1 bt807.1 bt807.2 t811 bt816.1 bt816.2 true a2_0 a2_1))))))))))))) = some r := h
  clear h
  replace H := Option.bind_eq_some_iff.mp H
  obtain ⟨t800, A40, H⟩ := H
  replace H : (if t800 < 0 then (some true) else ((laws_szBranch.f a2_0 a2_1 t800).bind fun t801 => (if t801 < 0 then (some true) else ((laws_toBranchS.f k l0).bind fun t802 => ((laws_toBranch.f a2_0 a2_1).bind fun bt805 => ((spec_SetBranch.f k t802 a1 bt805.1 bt805.2).bind fun bt807 => ((laws_toBranchS.f k l0).bind fun t811 => ((laws_toBranch.f a2_0 a2_1).bind fun bt814 => ((impl_SetBranch.f k t811 a1 bt814.1 bt814.2).bind fun bt816 => ((laws_eqBranchS.f k bt816.1 bt807.1).bind fun t820 => (if t820 = true then (laws_FnExactSetBranch.j0 k l0 a1 bt807.1 bt807.2 t811 bt816.1 bt816.2 (bt816.2 != bt807.2) a2_0 a2_1) else (laws_FnExactSetBranch.j0 k l0 a1 bt807.1 bt807.2 t811 bt816.1 bt816.2 true a2_0 a2_1)))))))))))) = some r := H
  have A4 := Aside0.mk A40
  clear A40
  by_cases c5 : t800 < 0
  · rw [if_pos c5] at H
    have c5b0 : decide (t800 < 0) = true := decide_eq_true c5
    clear c5
    obtain rfl := Option.some.inj H
    go_enter Try.func13, Try.ntmps13
    go_wp2_with (first | ((with_reducible refine gate_dst (N := 5) rfl ?_); refine box_event ?hg (N := 5) ?hd (cs := #[.string a2_0, .int .i64 a2_1]) (t := 69) ?hr ?_; (case hd => rfl); (case hg => rfl); (case hr => first | (go_simp; done) | (go_simp; rfl)); intro gb799 hg w6 hbox hb; have n0_ := Aside0.mk (below_step (by repeat (first | (with_reducible first | exact HB.out | apply below_alloc | apply pw_below_drewN | apply below_drew1) | exact HB.out)) hb); have n1_ := Aside0.mk (hbox); have n2_ := Aside0.mk ((by rw [hg]; exact (below_size (by repeat (first | (with_reducible first | exact HB.out | apply below_alloc | apply pw_below_drewN | apply below_drew1) | exact HB.out))) : w.heap.size ≤ gb799)); have n3_ := Aside0.mk ((by rw [hg]; exact (below_size (by repeat (first | (with_reducible first | exact HB.out | apply below_alloc | apply pw_below_drewN | apply below_drew1) | exact HB.out))) : w.heap.size ≤ gb799)); clear HB; have HB := n0_; have BK799 := n1_; have GW799 := n2_; have GE799 := n3_; clear n0_ n1_ n2_ n3_; clear hb hbox hg) | ((with_reducible refine gate_callee (f := 23) rfl ?_); refine goesL_ (some 20) rfl rfl Try.func23 (by kernel_rfl) rfl #[.slice A0 l0.length c0, .int .i64 1048576] rfl (by (try simp only [List.map_toArray, List.map_cons, List.map_nil]); first | done | rfl | (simp only [List.length_drop, List.length_take]; rfl)) ?_; (with_reducible refine (laws_szBranchS.calls k _ _ l0 1048576 t800 _ ?side1 ?side2 A4.out).mono ?_); (case side1 => repeat (first | exact (Kd.C_below HR0.out HB.out) | (with_reducible refine Kd.C_alloc ?_ _) | (with_reducible refine Kd.C_drewN ?_ _) | (with_reducible refine Kd.C_drew ?_))); (case side2 => exact HC0.out); rintro e w7 ⟨rfl, hb⟩; refine ⟨_, rfl, ?_⟩; have n0_ := Aside0.mk (blk_below (g := gb799) (o := .cells #[.string a2_0, .int .i64 a2_1] 69 (0, 0)) (by (with_reducible repeat (first | refine blk_drewN ?_ _ | refine blk_drew ?_ | refine blk_alloc ?_ _)); exact BK799.out) hb); have n1_ := Aside0.mk (below_step (by repeat (first | (with_reducible first | exact HB.out | apply below_alloc | apply pw_below_drewN | apply below_drew1 | refine below_set ?_ GE799.out) | exact HB.out)) hb); clear BK799; clear HB; have BK799 := n0_; have HB := n1_; clear n0_ n1_; (try clear hb); (try clear hb2); (try clear hk); (try clear hi)))
    go_ret
    exact ⟨by first | rfl | (simp [errW_none, errW_some] <;> rfl) | (simp [*, errW_none, errW_some] <;> rfl), by repeat (first | (with_reducible first | exact HB.out | apply below_alloc | apply pw_below_drewN | apply below_drew1 | refine below_set ?_ GE799.out) | exact HB.out)⟩
  · rw [if_neg c5] at H
    have c5b0 : decide (t800 < 0) = false := decide_eq_false c5
    clear c5
    replace H := Option.bind_eq_some_iff.mp H
    obtain ⟨t801, A80, H⟩ := H
    replace H : (if t801 < 0 then (some true) else ((laws_toBranchS.f k l0).bind fun t802 => ((laws_toBranch.f a2_0 a2_1).bind fun bt805 => ((spec_SetBranch.f k t802 a1 bt805.1 bt805.2).bind fun bt807 => ((laws_toBranchS.f k l0).bind fun t811 => ((laws_toBranch.f a2_0 a2_1).bind fun bt814 => ((impl_SetBranch.f k t811 a1 bt814.1 bt814.2).bind fun bt816 => ((laws_eqBranchS.f k bt816.1 bt807.1).bind fun t820 => (if t820 = true then (laws_FnExactSetBranch.j0 k l0 a1 bt807.1 bt807.2 t811 bt816.1 bt816.2 (bt816.2 != bt807.2) a2_0 a2_1) else (laws_FnExactSetBranch.j0 k l0 a1 bt807.1 bt807.2 t811 bt816.1 bt816.2 true a2_0 a2_1)))))))))) = some r := H
    have A8 := Aside0.mk A80
    clear A80
    by_cases c9 : t801 < 0
    · rw [if_pos c9] at H
      have c9b0 : decide (t801 < 0) = true := decide_eq_true c9
      clear c9
      obtain rfl := Option.some.inj H
      go_enter Try.func13, Try.ntmps13
      go_wp2_with (first | ((with_reducible refine gate_dst (N := 5) rfl ?_); refine box_event ?hg (N := 5) ?hd (cs := #[.string a2_0, .int .i64 a2_1]) (t := 69) ?hr ?_; (case hd => rfl); (case hg => rfl); (case hr => first | (go_simp; done) | (go_simp; rfl)); intro gb799 hg w10 hbox hb; have n0_ := Aside0.mk (below_step (by repeat (first | (with_reducible first | exact HB.out | apply below_alloc | apply pw_below_drewN | apply below_drew1) | exact HB.out)) hb); have n1_ := Aside0.mk (hbox); have n2_ := Aside0.mk ((by rw [hg]; exact (below_size (by repeat (first | (with_reducible first | exact HB.out | apply below_alloc | apply pw_below_drewN | apply below_drew1) | exact HB.out))) : w.heap.size ≤ gb799)); have n3_ := Aside0.mk ((by rw [hg]; exact (below_size (by repeat (first | (with_reducible first | exact HB.out | apply below_alloc | apply pw_below_drewN | apply below_drew1) | exact HB.out))) : w.heap.size ≤ gb799)); clear HB; have HB := n0_; have BK799 := n1_; have GW799 := n2_; have GE799 := n3_; clear n0_ n1_ n2_ n3_; clear hb hbox hg) | ((with_reducible refine gate_callee (f := 23) rfl ?_); refine goesL_ (some 20) rfl rfl Try.func23 (by kernel_rfl) rfl #[.slice A0 l0.length c0, .int .i64 1048576] rfl (by (try simp only [List.map_toArray, List.map_cons, List.map_nil]); first | done | rfl | (simp only [List.length_drop, List.length_take]; rfl)) ?_; (with_reducible refine (laws_szBranchS.calls k _ _ l0 1048576 t800 _ ?side1 ?side2 A4.out).mono ?_); (case side1 => repeat (first | exact (Kd.C_below HR0.out HB.out) | (with_reducible refine Kd.C_alloc ?_ _) | (with_reducible refine Kd.C_drewN ?_ _) | (with_reducible refine Kd.C_drew ?_))); (case side2 => exact HC0.out); rintro e w11 ⟨rfl, hb⟩; refine ⟨_, rfl, ?_⟩; have n0_ := Aside0.mk (blk_below (g := gb799) (o := .cells #[.string a2_0, .int .i64 a2_1] 69 (0, 0)) (by (with_reducible repeat (first | refine blk_drewN ?_ _ | refine blk_drew ?_ | refine blk_alloc ?_ _)); exact BK799.out) hb); have n1_ := Aside0.mk (below_step (by repeat (first | (with_reducible first | exact HB.out | apply below_alloc | apply pw_below_drewN | apply below_drew1 | refine below_set ?_ GE799.out) | exact HB.out)) hb); clear BK799; clear HB; have BK799 := n0_; have HB := n1_; clear n0_ n1_; (try clear hb); (try clear hb2); (try clear hk); (try clear hi); have hcz12_0 : w11.cell? ⟨gb799, 0, none⟩ = some (.string a2_0) := (blk_cell BK799.out 0).trans rfl; have hcz12_1 : w11.cell? ⟨gb799, 1, none⟩ = some (.int .i64 a2_1) := (blk_cell BK799.out 1).trans rfl; have hfz12_0 := blk_frozen BK799.out 0; have hfz12_1 := blk_frozen BK799.out 1) | ((with_reducible refine gate_callee (f := 54) rfl ?_); refine goesL_ (some 25) rfl rfl Try.func54 (by kernel_rfl) rfl #[.agg #[.string a2_0, .int .i64 a2_1], .int .i64 t800] rfl (by (try simp only [List.map_toArray, List.map_cons, List.map_nil]); first | done | rfl | (simp only [List.length_drop, List.length_take]; rfl)) ?_; (with_reducible refine (laws_szBranch.calls a2_0 a2_1 t800 t801 _ A8.out).mono ?_); rintro e w13 ⟨rfl, hb⟩; refine ⟨_, rfl, ?_⟩; have n0_ := Aside0.mk (blk_below (g := gb799) (o := .cells #[.string a2_0, .int .i64 a2_1] 69 (0, 0)) (by (with_reducible repeat (first | refine blk_drewN ?_ _ | refine blk_drew ?_ | refine blk_alloc ?_ _)); exact BK799.out) hb); have n1_ := Aside0.mk (below_step (by repeat (first | (with_reducible first | exact HB.out | apply below_alloc | apply pw_below_drewN | apply below_drew1 | refine below_set ?_ GE799.out) | exact HB.out)) hb); clear BK799; clear HB; have BK799 := n0_; have HB := n1_; clear n0_ n1_; (try clear hb); (try clear hb2); (try clear hk); (try clear hi)))
      go_ret
      exact ⟨by first | rfl | (simp [errW_none, errW_some] <;> rfl) | (simp [*, errW_none, errW_some] <;> rfl), by repeat (first | (with_reducible first | exact HB.out | apply below_alloc | apply pw_below_drewN | apply below_drew1 | refine below_set ?_ GE799.out) | exact HB.out)⟩
    · rw [if_neg c9] at H
      have c9b0 : decide (t801 < 0) = false := decide_eq_false c9
      clear c9
      replace H := Option.bind_eq_some_iff.mp H
      obtain ⟨t802, A140, H⟩ := H
      replace H : ((laws_toBranch.f a2_0 a2_1).bind fun bt805 => ((spec_SetBranch.f k t802 a1 bt805.1 bt805.2).bind fun bt807 => ((laws_toBranchS.f k l0).bind fun t811 => ((laws_toBranch.f a2_0 a2_1).bind fun bt814 => ((impl_SetBranch.f k t811 a1 bt814.1 bt814.2).bind fun bt816 => ((laws_eqBranchS.f k bt816.1 bt807.1).bind fun t820 => (if t820 = true then (laws_FnExactSetBranch.j0 k l0 a1 bt807.1 bt807.2 t811 bt816.1 bt816.2 (bt816.2 != bt807.2) a2_0 a2_1) else (laws_FnExactSetBranch.j0 k l0 a1 bt807.1 bt807.2 t811 bt816.1 bt816.2 true a2_0 a2_1)))))))) = some r := H
      have A14 := Aside0.mk A140
      clear A140
      replace H := Option.bind_eq_some_iff.mp H
      obtain ⟨⟨t805, t806⟩, A150, H⟩ := H
      replace H : ((spec_SetBranch.f k t802 a1 t805 t806).bind fun bt807 => ((laws_toBranchS.f k l0).bind fun t811 => ((laws_toBranch.f a2_0 a2_1).bind fun bt814 => ((impl_SetBranch.f k t811 a1 bt814.1 bt814.2).bind fun bt816 => ((laws_eqBranchS.f k bt816.1 bt807.1).bind fun t820 => (if t820 = true then (laws_FnExactSetBranch.j0 k l0 a1 bt807.1 bt807.2 t811 bt816.1 bt816.2 (bt816.2 != bt807.2) a2_0 a2_1) else (laws_FnExactSetBranch.j0 k l0 a1 bt807.1 bt807.2 t811 bt816.1 bt816.2 true a2_0 a2_1))))))) = some r := H
      have A15 := Aside0.mk A150
      clear A150
      replace H := Option.bind_eq_some_iff.mp H
      obtain ⟨⟨t807, t810⟩, A160, H⟩ := H
      replace H : ((laws_toBranchS.f k l0).bind fun t811 => ((laws_toBranch.f a2_0 a2_1).bind fun bt814 => ((impl_SetBranch.f k t811 a1 bt814.1 bt814.2).bind fun bt816 => ((laws_eqBranchS.f k bt816.1 t807).bind fun t820 => (if t820 = true then (laws_FnExactSetBranch.j0 k l0 a1 t807 t810 t811 bt816.1 bt816.2 (bt816.2 != t810) a2_0 a2_1) else (laws_FnExactSetBranch.j0 k l0 a1 t807 t810 t811 bt816.1 bt816.2 true a2_0 a2_1)))))) = some r := H
      have A16 := Aside0.mk A160
      clear A160
      replace H := Option.bind_eq_some_iff.mp H
      obtain ⟨t811, A170, H⟩ := H
      replace H : ((laws_toBranch.f a2_0 a2_1).bind fun bt814 => ((impl_SetBranch.f k t811 a1 bt814.1 bt814.2).bind fun bt816 => ((laws_eqBranchS.f k bt816.1 t807).bind fun t820 => (if t820 = true then (laws_FnExactSetBranch.j0 k l0 a1 t807 t810 t811 bt816.1 bt816.2 (bt816.2 != t810) a2_0 a2_1) else (laws_FnExactSetBranch.j0 k l0 a1 t807 t810 t811 bt816.1 bt816.2 true a2_0 a2_1))))) = some r := H
      have A17 := Aside0.mk A170
      clear A170
      replace H := Option.bind_eq_some_iff.mp H
      obtain ⟨⟨t814, t815⟩, A180, H⟩ := H
      replace H : ((impl_SetBranch.f k t811 a1 t814 t815).bind fun bt816 => ((laws_eqBranchS.f k bt816.1 t807).bind fun t820 => (if t820 = true then (laws_FnExactSetBranch.j0 k l0 a1 t807 t810 t811 bt816.1 bt816.2 (bt816.2 != t810) a2_0 a2_1) else (laws_FnExactSetBranch.j0 k l0 a1 t807 t810 t811 bt816.1 bt816.2 true a2_0 a2_1)))) = some r := H
      have A18 := Aside0.mk A180
      clear A180
      replace H := Option.bind_eq_some_iff.mp H
      obtain ⟨⟨t816, t819⟩, A190, H⟩ := H
      replace H : ((laws_eqBranchS.f k t816 t807).bind fun t820 => (if t820 = true then (laws_FnExactSetBranch.j0 k l0 a1 t807 t810 t811 t816 t819 (t819 != t810) a2_0 a2_1) else (laws_FnExactSetBranch.j0 k l0 a1 t807 t810 t811 t816 t819 true a2_0 a2_1))) = some r := H
      have A19 := Aside0.mk A190
      clear A190
      have HC20 := Aside0.mk H
      clear H
      go_enter Try.func13, Try.ntmps13
      try go_wp2_with (first | ((with_reducible refine gate_dst (N := 5) rfl ?_); refine box_event ?hg (N := 5) ?hd (cs := #[.string a2_0, .int .i64 a2_1]) (t := 69) ?hr ?_; (case hd => rfl); (case hg => rfl); (case hr => first | (go_simp; done) | (go_simp; rfl)); intro gb799 hg w21 hbox hb; have n0_ := Aside0.mk (below_step (by repeat (first | (with_reducible first | exact HB.out | apply below_alloc | apply pw_below_drewN | apply below_drew1) | exact HB.out)) hb); have n1_ := Aside0.mk (hbox); have n2_ := Aside0.mk ((by rw [hg]; exact (below_size (by repeat (first | (with_reducible first | exact HB.out | apply below_alloc | apply pw_below_drewN | apply below_drew1) | exact HB.out))) : w.heap.size ≤ gb799)); have n3_ := Aside0.mk ((by rw [hg]; exact (below_size (by repeat (first | (with_reducible first | exact HB.out | apply below_alloc | apply pw_below_drewN | apply below_drew1) | exact HB.out))) : w.heap.size ≤ gb799)); clear HB; have HB := n0_; have BK799 := n1_; have GW799 := n2_; have GE799 := n3_; clear n0_ n1_ n2_ n3_; clear hb hbox hg) | ((with_reducible refine gate_callee (f := 23) rfl ?_); refine goesL_ (some 20) rfl rfl Try.func23 (by kernel_rfl) rfl #[.slice A0 l0.length c0, .int .i64 1048576] rfl (by (try simp only [List.map_toArray, List.map_cons, List.map_nil]); first | done | rfl | (simp only [List.length_drop, List.length_take]; rfl)) ?_; (with_reducible refine (laws_szBranchS.calls k _ _ l0 1048576 t800 _ ?side1 ?side2 A4.out).mono ?_); (case side1 => repeat (first | exact (Kd.C_below HR0.out HB.out) | (with_reducible refine Kd.C_alloc ?_ _) | (with_reducible refine Kd.C_drewN ?_ _) | (with_reducible refine Kd.C_drew ?_))); (case side2 => exact HC0.out); rintro e w22 ⟨rfl, hb⟩; refine ⟨_, rfl, ?_⟩; have n0_ := Aside0.mk (blk_below (g := gb799) (o := .cells #[.string a2_0, .int .i64 a2_1] 69 (0, 0)) (by (with_reducible repeat (first | refine blk_drewN ?_ _ | refine blk_drew ?_ | refine blk_alloc ?_ _)); exact BK799.out) hb); have n1_ := Aside0.mk (below_step (by repeat (first | (with_reducible first | exact HB.out | apply below_alloc | apply pw_below_drewN | apply below_drew1 | refine below_set ?_ GE799.out) | exact HB.out)) hb); clear BK799; clear HB; have BK799 := n0_; have HB := n1_; clear n0_ n1_; (try clear hb); (try clear hb2); (try clear hk); (try clear hi); have hcz23_0 : w22.cell? ⟨gb799, 0, none⟩ = some (.string a2_0) := (blk_cell BK799.out 0).trans rfl; have hcz23_1 : w22.cell? ⟨gb799, 1, none⟩ = some (.int .i64 a2_1) := (blk_cell BK799.out 1).trans rfl; have hfz23_0 := blk_frozen BK799.out 0; have hfz23_1 := blk_frozen BK799.out 1) | ((with_reducible refine gate_callee (f := 54) rfl ?_); refine goesL_ (some 25) rfl rfl Try.func54 (by kernel_rfl) rfl #[.agg #[.string a2_0, .int .i64 a2_1], .int .i64 t800] rfl (by (try simp only [List.map_toArray, List.map_cons, List.map_nil]); first | done | rfl | (simp only [List.length_drop, List.length_take]; rfl)) ?_; (with_reducible refine (laws_szBranch.calls a2_0 a2_1 t800 t801 _ A8.out).mono ?_); rintro e w24 ⟨rfl, hb⟩; refine ⟨_, rfl, ?_⟩; have n0_ := Aside0.mk (blk_below (g := gb799) (o := .cells #[.string a2_0, .int .i64 a2_1] 69 (0, 0)) (by (with_reducible repeat (first | refine blk_drewN ?_ _ | refine blk_drew ?_ | refine blk_alloc ?_ _)); exact BK799.out) hb); have n1_ := Aside0.mk (below_step (by repeat (first | (with_reducible first | exact HB.out | apply below_alloc | apply pw_below_drewN | apply below_drew1 | refine below_set ?_ GE799.out) | exact HB.out)) hb); clear BK799; clear HB; have BK799 := n0_; have HB := n1_; clear n0_ n1_; (try clear hb); (try clear hb2); (try clear hk); (try clear hi)))
      have n0_ := Aside0.mk (blk_drew BK799.out)
      have n1_ := Aside0.mk (below_drew1 HB.out)
      clear BK799
      clear HB
      have BK799 := n0_
      have HB := n1_
      clear n0_ n1_
      refine start_ (n := 11) (S := fun w' => w'.cell? ⟨gb799, 0, none⟩ = some (.string a2_0) ∧ w'.cell? ⟨gb799, 1, none⟩ = some (.int .i64 a2_1)) (ds := []) #[false, false, false, false, false, false, false, false, false, false, false] (by kernel_rfl) rfl rfl ⟨(blk_cell BK799.out 0).trans rfl, (blk_cell BK799.out 1).trans rfl⟩ (fun hHeld => ?_); refine with_tabW laws_FnExactSetBranch.tab8 laws_FnExactSetBranch.bits8 (fun HT_ HW_ => ?_)
      generalize w24.drew = w25 at BK799 HB hHeld ⊢
      refine pure_ (i := 0) (N := some 29) (v := ?_) (a' := ?_) #[true, false, false, false, false, false, false, false, false, false, false] rfl rfl (any_of HT_.out (by kernel_rfl)) (fun _ _ _ h => h) (Or.inl ⟨by rfl, ?_⟩) ?_ ?_
      rotate_left
      · intro w'
        go_simp
        with_reducible rfl
      rotate_left
      · simp only [Act.put, List.setIfInBounds_toArray, List.set_cons_zero, List.set_cons_succ, i64_w, i32_w]
        rfl
      refine pure_ (i := 2) (N := some 31) (v := ?_) (a' := ?_) #[true, false, true, false, false, false, false, false, false, false, false] rfl rfl (any_of HT_.out (by kernel_rfl)) (fun _ _ _ h => h) (Or.inl ⟨by rfl, ?_⟩) ?_ ?_
      rotate_left
      · intro w'
        go_simp
        with_reducible rfl
      rotate_left
      · simp only [Act.put, List.setIfInBounds_toArray, List.set_cons_zero, List.set_cons_succ, i64_w, i32_w]
        rfl
      refine take_ (i := 3) (N := some 32) (v := ?_) (a' := ?_) #[true, false, true, true, false, false, false, false, false, false, false] rfl rfl (take_ofW HT_.out HW_.out (by kernel_rfl)) (fun _ _ _ h => h) (Or.inl ⟨by rfl, ?_⟩) hHeld ?_ ?_
      rotate_left
      · rintro w' ⟨s0, s1⟩
        go_simp
        with_reducible rfl
      rotate_left
      · simp only [Act.put, List.setIfInBounds_toArray, List.set_cons_zero, List.set_cons_succ, i64_w, i32_w]
        rfl
      refine one_ (i := 1) (N := some 30) #[true, true, true, true, false, false, false, false, false, false, false] rfl rfl (one_of HT_.out (by kernel_rfl)) (by decide) (fun K hK => ?_)
      refine goes_ Try.func25 (by kernel_rfl) rfl #[.slice A0 l0.length c0] (by rfl) rfl rfl (by (try simp only [List.map_toArray, List.map_cons, List.map_nil]); first | done | rfl | (simp only [List.length_drop, List.length_take]; rfl)) ?_
      with_reducible refine (laws_toBranchS.calls k _ _ l0 t802 _ ?side1 ?side2 A14.out).mono ?_
      (case side1 => repeat (first | exact (Kd.C_below HR0.out HB.out) | (with_reducible refine Kd.C_alloc ?_ _) | (with_reducible refine Kd.C_drewN ?_ _) | (with_reducible refine Kd.C_drew ?_)))
      (case side2 => exact HC0.out)
      rintro e w26 ⟨v803, rfl, ho0, hb⟩
      refine ⟨_, rfl, ?_⟩
      have n0_ := Aside0.mk (Kd.R_lower ho0 (below_size (by repeat (first | (with_reducible first | exact HB.out | apply below_alloc | apply pw_below_drewN | apply below_drew1 | refine below_set ?_ GE799.out) | exact HB.out))))
      have n1_ := Aside0.mk (blk_below (g := gb799) (o := .cells #[.string a2_0, .int .i64 a2_1] 69 (0, 0)) (by (with_reducible repeat (first | refine blk_drewN ?_ _ | refine blk_drew ?_ | refine blk_alloc ?_ _)); exact BK799.out) hb)
      have n2_ := Aside0.mk (below_step (by repeat (first | (with_reducible first | exact HB.out | apply below_alloc | apply pw_below_drewN | apply below_drew1 | refine below_set ?_ GE799.out) | exact HB.out)) hb)
      clear BK799
      clear HB
      have HO804 := n0_
      have BK799 := n1_
      have HB := n2_
      clear n0_ n1_ n2_
      (try clear hb)
      (try clear hb2)
      (try clear hk)
      (try clear hi)
      (try clear ho0)
      refine hK.out _ _ ⟨(blk_cell BK799.out 0).trans rfl, (blk_cell BK799.out 1).trans rfl⟩ (fun hHeld => ?_)
      clear hK K
      refine norm_ (a' := ?_) ?_ ?_
      rotate_left
      · show Act.put _ (some 30) _ = _
        simp only [Act.put, List.setIfInBounds_toArray, List.set_cons_zero, List.set_cons_succ, i64_w, i32_w]
        rfl
      refine one_ (i := 4) (N := some 33) #[true, true, true, true, true, false, false, false, false, false, false] rfl rfl (one_of HT_.out (by kernel_rfl)) (by decide) (fun K hK => ?_)
      refine goes_ Try.func56 (by kernel_rfl) rfl #[.agg #[.string a2_0, .int .i64 a2_1]] (by rfl) rfl rfl (by (try simp only [List.map_toArray, List.map_cons, List.map_nil]); first | done | rfl | (simp only [List.length_drop, List.length_take]; rfl)) ?_
      with_reducible refine (laws_toBranch.calls a2_0 a2_1 t805 t806 _ A15.out).mono ?_
      rintro e w27 ⟨rfl, hb⟩
      refine ⟨_, rfl, ?_⟩
      have n0_ := Aside0.mk (Kd.R_below (by (with_reducible repeat (first | apply Kd.R_alloc | apply Kd.R_drewN | apply Kd.R_drew)); exact HO804.out) hb)
      have n1_ := Aside0.mk (blk_below (g := gb799) (o := .cells #[.string a2_0, .int .i64 a2_1] 69 (0, 0)) (by (with_reducible repeat (first | refine blk_drewN ?_ _ | refine blk_drew ?_ | refine blk_alloc ?_ _)); exact BK799.out) hb)
      have n2_ := Aside0.mk (below_step (by repeat (first | (with_reducible first | exact HB.out | apply below_alloc | apply pw_below_drewN | apply below_drew1 | refine below_set ?_ GE799.out) | exact HB.out)) hb)
      clear HO804
      clear BK799
      clear HB
      have HO804 := n0_
      have BK799 := n1_
      have HB := n2_
      clear n0_ n1_ n2_
      (try clear hb)
      (try clear hb2)
      (try clear hk)
      (try clear hi)
      obtain ⟨Ao28, co28, eo28⟩ := Kd.R_slice HO804.out
      (first | subst eo28 | (injection eo28 with f1_ f2_ f3_; have f4_ := f1_.symm; have f5_ := f3_.symm; clear f1_ f2_ f3_; subst f4_; subst f5_))
      refine hK.out _ _ ⟨(blk_cell BK799.out 0).trans rfl, (blk_cell BK799.out 1).trans rfl⟩ (fun hHeld => ?_)
      clear hK K
      refine norm_ (a' := ?_) ?_ ?_
      rotate_left
      · show Act.put _ (some 33) _ = _
        simp only [Act.put, List.setIfInBounds_toArray, List.set_cons_zero, List.set_cons_succ, i64_w, i32_w]
        rfl
      refine one_ (i := 5) (N := some 34) #[true, true, true, true, true, true, false, false, false, false, false] rfl rfl (one_of HT_.out (by kernel_rfl)) (by decide) (fun K hK => ?_)
      refine goes_ Try.func55 (by kernel_rfl) rfl #[.slice Ao28 t802.length co28, .int .i64 a1, .agg #[.string t805, .int .i64 t806]] (by rfl) rfl rfl (by (try simp only [List.map_toArray, List.map_cons, List.map_nil]); first | done | rfl | (simp only [List.length_drop, List.length_take]; rfl)) ?_
      with_reducible refine (spec_SetBranch.calls k (fun k_ => some k_ = (.slice Ao28 t802.length co28 : Value).ownBlock) _ _ t802 a1 t805 t806 t807 t810 _ ?side1 A16.out).mono ?_
      (case side1 => exact Kd.R_V (Kd.R_tight rfl (Kd.R_types (HO804.out) BK799.out (by decide))))
      rintro e w29 ⟨v808, rfl, ho0, hb⟩
      refine ⟨_, rfl, ?_⟩
      have n0_ := Aside0.mk (Kd.R_elder' (by (with_reducible repeat (first | apply Kd.R_alloc | apply Kd.R_drewN | apply Kd.R_drew)); exact HO804.out) (Kd.R_base ho0) hb)
      have n1_ := Aside0.mk (Kd.R_lower (Kd.R_new' (Kd.R_mono (ok' := fun k_ => True) ho0 (fun _ hk_ => trivial)) (Kd.R_lt (by (with_reducible repeat (first | apply Kd.R_alloc | apply Kd.R_drewN | apply Kd.R_drew)); exact HO804.out))) (below_size (by repeat (first | (with_reducible first | exact HB.out | apply below_alloc | apply pw_below_drewN | apply below_drew1 | refine below_set ?_ GE799.out) | exact HB.out))))
      have n2_ := Aside0.mk (blk_below (g := gb799) (o := .cells #[.string a2_0, .int .i64 a2_1] 69 (0, 0)) (by (with_reducible repeat (first | refine blk_drewN ?_ _ | refine blk_drew ?_ | refine blk_alloc ?_ _)); exact BK799.out) hb)
      have n3_ := Aside0.mk (below_step (by repeat (first | (with_reducible first | exact HB.out | apply below_alloc | apply pw_below_drewN | apply below_drew1 | refine below_set ?_ GE799.out) | exact HB.out)) hb)
      clear HO804
      clear BK799
      clear HB
      have HO804 := n0_
      have HO809 := n1_
      have BK799 := n2_
      have HB := n3_
      clear n0_ n1_ n2_ n3_
      (try clear hb)
      (try clear hb2)
      (try clear hk)
      (try clear hi)
      (try clear ho0)
      refine hK.out _ _ ⟨(blk_cell BK799.out 0).trans rfl, (blk_cell BK799.out 1).trans rfl⟩ (fun hHeld => ?_)
      clear hK K
      refine norm_ (a' := ?_) ?_ ?_
      rotate_left
      · show Act.put _ (some 34) _ = _
        simp only [Act.put, List.setIfInBounds_toArray, List.set_cons_zero, List.set_cons_succ, i64_w, i32_w]
        rfl
      refine pure_ (i := 6) (N := some 28) (v := ?_) (a' := ?_) #[true, true, true, true, true, true, true, false, false, false, false] rfl rfl (any_of HT_.out (by kernel_rfl)) (fun _ _ _ h => h) (Or.inl ⟨by rfl, ?_⟩) ?_ ?_
      rotate_left
      · intro w'
        go_simp
        with_reducible rfl
      rotate_left
      · simp only [Act.put, List.setIfInBounds_toArray, List.set_cons_zero, List.set_cons_succ, i64_w, i32_w]
        rfl
      refine pure_ (i := 7) (N := some 35) (v := ?_) (a' := ?_) #[true, true, true, true, true, true, true, true, false, false, false] rfl rfl (any_of HT_.out (by kernel_rfl)) (fun _ _ _ h => h) (Or.inl ⟨by rfl, ?_⟩) ?_ ?_
      rotate_left
      · intro w'
        go_simp
        with_reducible rfl
      rotate_left
      · simp only [Act.put, List.setIfInBounds_toArray, List.set_cons_zero, List.set_cons_succ, i64_w, i32_w]
        rfl
      refine pure_ (i := 8) (N := some 36) (v := ?_) (a' := ?_) #[true, true, true, true, true, true, true, true, true, false, false] rfl rfl (any_of HT_.out (by kernel_rfl)) (fun _ _ _ h => h) (Or.inl ⟨by rfl, ?_⟩) ?_ ?_
      rotate_left
      · intro w'
        go_simp
        with_reducible rfl
      rotate_left
      · simp only [Act.put, List.setIfInBounds_toArray, List.set_cons_zero, List.set_cons_succ, i64_w, i32_w]
        rfl
      refine pure_ (i := 9) (N := some 8) (v := ?_) (a' := ?_) #[true, true, true, true, true, true, true, true, true, true, false] rfl rfl (any_of HT_.out (by kernel_rfl)) (fun _ _ _ h => h) (Or.inl ⟨by rfl, ?_⟩) ?_ ?_
      rotate_left
      · intro w'
        go_simp
        with_reducible rfl
      rotate_left
      · simp only [Act.put, List.setIfInBounds_toArray, List.set_cons_zero, List.set_cons_succ, i64_w, i32_w]
        rfl
      refine pure_ (i := 10) (N := some 9) (v := ?_) (a' := ?_) #[true, true, true, true, true, true, true, true, true, true, true] rfl rfl (any_of HT_.out (by kernel_rfl)) (fun _ _ _ h => h) (Or.inl ⟨by rfl, ?_⟩) ?_ ?_
      rotate_left
      · intro w'
        go_simp
        with_reducible rfl
      rotate_left
      · simp only [Act.put, List.setIfInBounds_toArray, List.set_cons_zero, List.set_cons_succ, i64_w, i32_w]
        rfl
      refine done_ (done_of HT_.out (by kernel_rfl)) ?_
      go_upto_region 11 with (first | ((with_reducible refine gate_callee (f := 25) rfl ?_); refine goesL_ (some 38) rfl rfl Try.func25 (by kernel_rfl) rfl #[.slice A0 l0.length c0] rfl (by (try simp only [List.map_toArray, List.map_cons, List.map_nil]); first | done | rfl | (simp only [List.length_drop, List.length_take]; rfl)) ?_; (with_reducible refine (laws_toBranchS.calls k _ _ l0 t811 _ ?side1 ?side2 A17.out).mono ?_); (case side1 => repeat (first | exact (Kd.C_below HR0.out HB.out) | (with_reducible refine Kd.C_alloc ?_ _) | (with_reducible refine Kd.C_drewN ?_ _) | (with_reducible refine Kd.C_drew ?_))); (case side2 => exact HC0.out); rintro e w30 ⟨v812, rfl, ho0, hb⟩; refine ⟨_, rfl, ?_⟩; have n0_ := Aside0.mk (Kd.R_elder' (by (with_reducible repeat (first | apply Kd.R_alloc | apply Kd.R_drewN | apply Kd.R_drew)); exact HO804.out) (Kd.R_base ho0) hb); have n1_ := Aside0.mk (Kd.R_elder' (by (with_reducible repeat (first | apply Kd.R_alloc | apply Kd.R_drewN | apply Kd.R_drew)); exact HO809.out) (Kd.R_base ho0) hb); have n2_ := Aside0.mk (Kd.R_lower (Kd.R_new' (Kd.R_new' ho0 (Kd.R_lt (by (with_reducible repeat (first | apply Kd.R_alloc | apply Kd.R_drewN | apply Kd.R_drew)); exact HO804.out))) (Kd.R_lt (by (with_reducible repeat (first | apply Kd.R_alloc | apply Kd.R_drewN | apply Kd.R_drew)); exact HO809.out))) (below_size (by repeat (first | (with_reducible first | exact HB.out | apply below_alloc | apply pw_below_drewN | apply below_drew1 | refine below_set ?_ GE799.out) | exact HB.out)))); have n3_ := Aside0.mk (blk_below (g := gb799) (o := .cells #[.string a2_0, .int .i64 a2_1] 69 (0, 0)) (by (with_reducible repeat (first | refine blk_drewN ?_ _ | refine blk_drew ?_ | refine blk_alloc ?_ _)); exact BK799.out) hb); have n4_ := Aside0.mk (below_step (by repeat (first | (with_reducible first | exact HB.out | apply below_alloc | apply pw_below_drewN | apply below_drew1 | refine below_set ?_ GE799.out) | exact HB.out)) hb); clear HO804; clear HO809; clear BK799; clear HB; have HO804 := n0_; have HO809 := n1_; have HO813 := n2_; have BK799 := n3_; have HB := n4_; clear n0_ n1_ n2_ n3_ n4_; (try clear hb); (try clear hb2); (try clear hk); (try clear hi); (try clear ho0); have hcz31_0 : w30.cell? ⟨gb799, 0, none⟩ = some (.string a2_0) := (blk_cell BK799.out 0).trans rfl; have hcz31_1 : w30.cell? ⟨gb799, 1, none⟩ = some (.int .i64 a2_1) := (blk_cell BK799.out 1).trans rfl; have hfz31_0 := blk_frozen BK799.out 0; have hfz31_1 := blk_frozen BK799.out 1) | ((with_reducible refine gate_callee (f := 56) rfl ?_); refine goesL_ (some 43) rfl rfl Try.func56 (by kernel_rfl) rfl #[.agg #[.string a2_0, .int .i64 a2_1]] rfl (by (try simp only [List.map_toArray, List.map_cons, List.map_nil]); first | done | rfl | (simp only [List.length_drop, List.length_take]; rfl)) ?_; (with_reducible refine (laws_toBranch.calls a2_0 a2_1 t814 t815 _ A18.out).mono ?_); rintro e w32 ⟨rfl, hb⟩; refine ⟨_, rfl, ?_⟩; have n0_ := Aside0.mk (Kd.R_below (by (with_reducible repeat (first | apply Kd.R_alloc | apply Kd.R_drewN | apply Kd.R_drew)); exact HO804.out) hb); have n1_ := Aside0.mk (Kd.R_below (by (with_reducible repeat (first | apply Kd.R_alloc | apply Kd.R_drewN | apply Kd.R_drew)); exact HO809.out) hb); have n2_ := Aside0.mk (Kd.R_below (by (with_reducible repeat (first | apply Kd.R_alloc | apply Kd.R_drewN | apply Kd.R_drew)); exact HO813.out) hb); have n3_ := Aside0.mk (blk_below (g := gb799) (o := .cells #[.string a2_0, .int .i64 a2_1] 69 (0, 0)) (by (with_reducible repeat (first | refine blk_drewN ?_ _ | refine blk_drew ?_ | refine blk_alloc ?_ _)); exact BK799.out) hb); have n4_ := Aside0.mk (below_step (by repeat (first | (with_reducible first | exact HB.out | apply below_alloc | apply pw_below_drewN | apply below_drew1 | refine below_set ?_ GE799.out) | exact HB.out)) hb); clear HO804; clear HO809; clear HO813; clear BK799; clear HB; have HO804 := n0_; have HO809 := n1_; have HO813 := n2_; have BK799 := n3_; have HB := n4_; clear n0_ n1_ n2_ n3_ n4_; (try clear hb); (try clear hb2); (try clear hk); (try clear hi); obtain ⟨Ao33, co33, eo33⟩ := Kd.R_slice HO813.out; subst eo33) | ((with_reducible refine gate_callee (f := 57) rfl ?_); refine goesL_ (some 44) rfl rfl Try.func57 (by kernel_rfl) rfl #[.slice Ao33 t811.length co33, .int .i64 a1, .agg #[.string t814, .int .i64 t815]] rfl (by (try simp only [List.map_toArray, List.map_cons, List.map_nil]); first | done | rfl | (simp only [List.length_drop, List.length_take]; rfl)) ?_; (with_reducible refine (impl_SetBranch.calls k _ _ t811 a1 t814 t815 t816 t819 _ ?side1 ?side2 A19.out).mono ?_); (case side1 => repeat (first | exact (Kd.R_reads' HO813.out).2.2 | (with_reducible refine Kd.C_alloc ?_ _) | (with_reducible refine Kd.C_drewN ?_ _) | (with_reducible refine Kd.C_drew ?_))); (case side2 => exact (Kd.R_reads' HO813.out).2.1); rintro e w34 ⟨v817, rfl, ho0, hb⟩; refine ⟨_, rfl, ?_⟩; have n0_ := Aside0.mk (Kd.R_elder' (by (with_reducible repeat (first | apply Kd.R_alloc | apply Kd.R_drewN | apply Kd.R_drew)); exact HO804.out) (Kd.R_base ho0) hb); have n1_ := Aside0.mk (Kd.R_elder' (by (with_reducible repeat (first | apply Kd.R_alloc | apply Kd.R_drewN | apply Kd.R_drew)); exact HO809.out) (Kd.R_base ho0) hb); have n2_ := Aside0.mk (Kd.R_elder' (by (with_reducible repeat (first | apply Kd.R_alloc | apply Kd.R_drewN | apply Kd.R_drew)); exact HO813.out) (Kd.R_base ho0) hb); have n3_ := Aside0.mk (Kd.R_lower (Kd.R_new' (Kd.R_new' (Kd.R_new' ho0 (Kd.R_lt (by (with_reducible repeat (first | apply Kd.R_alloc | apply Kd.R_drewN | apply Kd.R_drew)); exact HO804.out))) (Kd.R_lt (by (with_reducible repeat (first | apply Kd.R_alloc | apply Kd.R_drewN | apply Kd.R_drew)); exact HO809.out))) (Kd.R_lt (by (with_reducible repeat (first | apply Kd.R_alloc | apply Kd.R_drewN | apply Kd.R_drew)); exact HO813.out))) (below_size (by repeat (first | (with_reducible first | exact HB.out | apply below_alloc | apply pw_below_drewN | apply below_drew1 | refine below_set ?_ GE799.out) | exact HB.out)))); have n4_ := Aside0.mk (blk_below (g := gb799) (o := .cells #[.string a2_0, .int .i64 a2_1] 69 (0, 0)) (by (with_reducible repeat (first | refine blk_drewN ?_ _ | refine blk_drew ?_ | refine blk_alloc ?_ _)); exact BK799.out) hb); have n5_ := Aside0.mk (below_step (by repeat (first | (with_reducible first | exact HB.out | apply below_alloc | apply pw_below_drewN | apply below_drew1 | refine below_set ?_ GE799.out) | exact HB.out)) hb); clear HO804; clear HO809; clear HO813; clear BK799; clear HB; have HO804 := n0_; have HO809 := n1_; have HO813 := n2_; have HO818 := n3_; have BK799 := n4_; have HB := n5_; clear n0_ n1_ n2_ n3_ n4_ n5_; (try clear hb); (try clear hb2); (try clear hk); (try clear hi); (try clear ho0)))
      (try simp only [Act.put, List.setIfInBounds_toArray, List.set_cons_zero, List.set_cons_succ])
      go_cut [55] (fun v55 wc => ∃ (kq : Nat) (x55_19 : Bool), v55 = .bool x55_19 ∧ Aside0 (laws_FnExactSetBranch.j0 kq l0 a1 t807 t810 t811 t816 t819 x55_19 a2_0 a2_1 = some r) ∧ Aside0 (kq ≤ k) ∧ Aside0 (Kd.R k64 64 wc w.heap.size (fun k_ => some k_ ≠ ((.slice Ao33 t811.length co33) : Value).ownBlock ∧ some k_ ≠ (v817 : Value).ownBlock) v808 t807) ∧ Aside0 (Kd.R k64 64 wc w.heap.size (fun k_ => some k_ ≠ (v808 : Value).ownBlock ∧ some k_ ≠ (v817 : Value).ownBlock) (.slice Ao33 t811.length co33) t811) ∧ Aside0 (Kd.R k64 64 wc w.heap.size (fun k_ => some k_ ≠ (v808 : Value).ownBlock ∧ some k_ ≠ ((.slice Ao33 t811.length co33) : Value).ownBlock) v817 t816) ∧ Aside0 (wc.heap[gb799]? = some (.cells #[.string a2_0, .int .i64 a2_1] 69 (0, 0))) ∧ Aside0 (Below w.heap.size w wc))
      case first =>
        have H := HC20.out
        clear HC20
        replace H := Option.bind_eq_some_iff.mp H
        obtain ⟨t820, A350, H⟩ := H
        replace H : (if t820 = true then (laws_FnExactSetBranch.j0 k l0 a1 t807 t810 t811 t816 t819 (t819 != t810) a2_0 a2_1) else (laws_FnExactSetBranch.j0 k l0 a1 t807 t810 t811 t816 t819 true a2_0 a2_1)) = some r := H
        have A35 := Aside0.mk A350
        clear A350
        by_cases c36 : t820 = true
        · subst c36
          have H1 : (laws_FnExactSetBranch.j0 k l0 a1 t807 t810 t811 t816 t819 (t819 != t810) a2_0 a2_1) = some r := by rw [if_pos rfl] at H; exact H
          clear H
          have H := H1
          clear H1
          have H' := Aside0.mk H
          clear H
          obtain ⟨Ao37, co37, eo37⟩ := Kd.R_slice HO818.out
          subst eo37
          obtain ⟨Ao38, co38, eo38⟩ := Kd.R_slice HO809.out
          subst eo38
          go_wp2_with (first | ((with_reducible refine gate_callee (f := 27) rfl ?_); refine goesL_ (some 49) rfl rfl Try.func27 (by kernel_rfl) rfl #[.slice Ao37 t816.length co37, .slice Ao38 t807.length co38] rfl (by (try simp only [List.map_toArray, List.map_cons, List.map_nil]); first | done | rfl | (simp only [List.length_drop, List.length_take]; rfl)) ?_; (with_reducible refine (laws_eqBranchS.calls k _ _ t816 _ _ t807 true _ ?side1 ?side2 ?side3 ?side4 A35.out).mono ?_); (case side1 => repeat (first | exact (Kd.R_reads' HO818.out).2.2 | (with_reducible refine Kd.C_alloc ?_ _) | (with_reducible refine Kd.C_drewN ?_ _) | (with_reducible refine Kd.C_drew ?_))); (case side2 => exact (Kd.R_reads' HO818.out).2.1); (case side3 => repeat (first | exact (Kd.R_reads' HO809.out).2.2 | (with_reducible refine Kd.C_alloc ?_ _) | (with_reducible refine Kd.C_drewN ?_ _) | (with_reducible refine Kd.C_drew ?_))); (case side4 => exact (Kd.R_reads' HO809.out).2.1); rintro e w39 ⟨rfl, hb⟩; refine ⟨_, rfl, ?_⟩; have n0_ := Aside0.mk (Kd.R_below (by (with_reducible repeat (first | apply Kd.R_alloc | apply Kd.R_drewN | apply Kd.R_drew)); exact HO804.out) hb); have n1_ := Aside0.mk (Kd.R_below (by (with_reducible repeat (first | apply Kd.R_alloc | apply Kd.R_drewN | apply Kd.R_drew)); exact HO809.out) hb); have n2_ := Aside0.mk (Kd.R_below (by (with_reducible repeat (first | apply Kd.R_alloc | apply Kd.R_drewN | apply Kd.R_drew)); exact HO813.out) hb); have n3_ := Aside0.mk (Kd.R_below (by (with_reducible repeat (first | apply Kd.R_alloc | apply Kd.R_drewN | apply Kd.R_drew)); exact HO818.out) hb); have n4_ := Aside0.mk (blk_below (g := gb799) (o := .cells #[.string a2_0, .int .i64 a2_1] 69 (0, 0)) (by (with_reducible repeat (first | refine blk_drewN ?_ _ | refine blk_drew ?_ | refine blk_alloc ?_ _)); exact BK799.out) hb); have n5_ := Aside0.mk (below_step (by repeat (first | (with_reducible first | exact HB.out | apply below_alloc | apply pw_below_drewN | apply below_drew1 | refine below_set ?_ GE799.out) | exact HB.out)) hb); clear HO804; clear HO809; clear HO813; clear HO818; clear BK799; clear HB; have HO804 := n0_; have HO809 := n1_; have HO813 := n2_; have HO818 := n3_; have BK799 := n4_; have HB := n5_; clear n0_ n1_ n2_ n3_ n4_ n5_; (try clear hb); (try clear hb2); (try clear hk); (try clear hi)))
          go_meet
          case rel => exact ⟨_, ((t819 != t810)), (by first | rfl | (simp; done) | (simp [*]; done)), H', ⟨by first | omega | exact Nat.le_refl _⟩, ⟨by (with_reducible repeat (first | apply Kd.R_alloc | apply Kd.R_drewN | apply Kd.R_drew)); exact Kd.R_mono HO809.out (fun _ hk => ⟨hk.1.2, hk.2⟩)⟩, ⟨by (with_reducible repeat (first | apply Kd.R_alloc | apply Kd.R_drewN | apply Kd.R_drew)); exact Kd.R_mono HO813.out (fun _ hk => ⟨hk.1.2, hk.2⟩)⟩, ⟨by (with_reducible repeat (first | apply Kd.R_alloc | apply Kd.R_drewN | apply Kd.R_drew)); exact Kd.R_mono HO818.out (fun _ hk => ⟨hk.1.2, hk.2⟩)⟩, ⟨by (with_reducible repeat (first | refine blk_drewN ?_ _ | refine blk_drew ?_ | refine blk_alloc ?_ _)); exact BK799.out⟩, ⟨by repeat (first | (with_reducible first | exact HB.out | apply below_alloc | apply pw_below_drewN | apply below_drew1 | refine below_set ?_ GE799.out) | exact HB.out)⟩⟩
        · replace c36 := Bool.eq_false_iff.mpr c36
          subst c36
          have H1 : (laws_FnExactSetBranch.j0 k l0 a1 t807 t810 t811 t816 t819 true a2_0 a2_1) = some r := by rw [if_neg (show ¬ (false = true) by decide)] at H; exact H
          clear H
          have H := H1
          clear H1
          have H' := Aside0.mk H
          clear H
          obtain ⟨Ao40, co40, eo40⟩ := Kd.R_slice HO818.out
          subst eo40
          obtain ⟨Ao41, co41, eo41⟩ := Kd.R_slice HO809.out
          subst eo41
          go_wp2_with (first | ((with_reducible refine gate_callee (f := 27) rfl ?_); refine goesL_ (some 49) rfl rfl Try.func27 (by kernel_rfl) rfl #[.slice Ao40 t816.length co40, .slice Ao41 t807.length co41] rfl (by (try simp only [List.map_toArray, List.map_cons, List.map_nil]); first | done | rfl | (simp only [List.length_drop, List.length_take]; rfl)) ?_; (with_reducible refine (laws_eqBranchS.calls k _ _ t816 _ _ t807 false _ ?side1 ?side2 ?side3 ?side4 A35.out).mono ?_); (case side1 => repeat (first | exact (Kd.R_reads' HO818.out).2.2 | (with_reducible refine Kd.C_alloc ?_ _) | (with_reducible refine Kd.C_drewN ?_ _) | (with_reducible refine Kd.C_drew ?_))); (case side2 => exact (Kd.R_reads' HO818.out).2.1); (case side3 => repeat (first | exact (Kd.R_reads' HO809.out).2.2 | (with_reducible refine Kd.C_alloc ?_ _) | (with_reducible refine Kd.C_drewN ?_ _) | (with_reducible refine Kd.C_drew ?_))); (case side4 => exact (Kd.R_reads' HO809.out).2.1); rintro e w42 ⟨rfl, hb⟩; refine ⟨_, rfl, ?_⟩; have n0_ := Aside0.mk (Kd.R_below (by (with_reducible repeat (first | apply Kd.R_alloc | apply Kd.R_drewN | apply Kd.R_drew)); exact HO804.out) hb); have n1_ := Aside0.mk (Kd.R_below (by (with_reducible repeat (first | apply Kd.R_alloc | apply Kd.R_drewN | apply Kd.R_drew)); exact HO809.out) hb); have n2_ := Aside0.mk (Kd.R_below (by (with_reducible repeat (first | apply Kd.R_alloc | apply Kd.R_drewN | apply Kd.R_drew)); exact HO813.out) hb); have n3_ := Aside0.mk (Kd.R_below (by (with_reducible repeat (first | apply Kd.R_alloc | apply Kd.R_drewN | apply Kd.R_drew)); exact HO818.out) hb); have n4_ := Aside0.mk (blk_below (g := gb799) (o := .cells #[.string a2_0, .int .i64 a2_1] 69 (0, 0)) (by (with_reducible repeat (first | refine blk_drewN ?_ _ | refine blk_drew ?_ | refine blk_alloc ?_ _)); exact BK799.out) hb); have n5_ := Aside0.mk (below_step (by repeat (first | (with_reducible first | exact HB.out | apply below_alloc | apply pw_below_drewN | apply below_drew1 | refine below_set ?_ GE799.out) | exact HB.out)) hb); clear HO804; clear HO809; clear HO813; clear HO818; clear BK799; clear HB; have HO804 := n0_; have HO809 := n1_; have HO813 := n2_; have HO818 := n3_; have BK799 := n4_; have HB := n5_; clear n0_ n1_ n2_ n3_ n4_ n5_; (try clear hb); (try clear hb2); (try clear hk); (try clear hi)))
          go_meet
          case rel => exact ⟨_, (true), (by first | rfl | (simp; done) | (simp [*]; done)), H', ⟨by first | omega | exact Nat.le_refl _⟩, ⟨by (with_reducible repeat (first | apply Kd.R_alloc | apply Kd.R_drewN | apply Kd.R_drew)); exact Kd.R_mono HO809.out (fun _ hk => ⟨hk.1.2, hk.2⟩)⟩, ⟨by (with_reducible repeat (first | apply Kd.R_alloc | apply Kd.R_drewN | apply Kd.R_drew)); exact Kd.R_mono HO813.out (fun _ hk => ⟨hk.1.2, hk.2⟩)⟩, ⟨by (with_reducible repeat (first | apply Kd.R_alloc | apply Kd.R_drewN | apply Kd.R_drew)); exact Kd.R_mono HO818.out (fun _ hk => ⟨hk.1.2, hk.2⟩)⟩, ⟨by (with_reducible repeat (first | refine blk_drewN ?_ _ | refine blk_drew ?_ | refine blk_alloc ?_ _)); exact BK799.out⟩, ⟨by repeat (first | (with_reducible first | exact HB.out | apply below_alloc | apply pw_below_drewN | apply below_drew1 | refine below_set ?_ GE799.out) | exact HB.out)⟩⟩
      case rest =>
        clear HC20
        try clear c1
        try clear c2
        try clear p2
        try clear c3
        try clear c5
        try clear c5b0
        try clear c9
        try clear c9b0
        try clear c13
        try clear c23
        try clear c25
        try clear c27
        try clear c36
        try clear hcz12_0
        try clear hcz12_1
        try clear hcz23_0
        try clear hcz23_1
        try clear hcz31_0
        try clear hcz31_1
        try clear hfz12_0
        try clear hfz12_1
        try clear hfz23_0
        try clear hfz23_1
        try clear hfz31_0
        try clear hfz31_1
        obtain ⟨kq, x55_19, rfl, HA, HJ19, HO_8, HO_10, HO_11, BK799, HB⟩ := hcut
        cases kq with
        | zero => exact absurd HA.out (by simp [laws_FnExactSetBranch.j0])
        | succ kj19 =>
          have H := HA.out
          clear HA
          simp only [laws_FnExactSetBranch.j0] at H
          by_cases c43 : x55_19 = true
          · subst c43
            have H1 : (some false) = some r := by rw [if_pos rfl] at H; exact H
            clear H
            have H := H1
            clear H1
            obtain rfl := Option.some.inj H
            go_wp2
            go_ret
            exact ⟨by first | rfl | (simp [errW_none, errW_some] <;> rfl) | (simp [*, errW_none, errW_some] <;> rfl), by repeat (first | (with_reducible first | exact HB.out | apply below_alloc | apply pw_below_drewN | apply below_drew1 | refine below_set ?_ GE799.out) | exact HB.out)⟩
          · replace c43 := Bool.eq_false_iff.mpr c43
            subst c43
            have H1 : ((laws_toBranchS.f kj19 l0).bind fun t821 => ((laws_eqBranchS.f kj19 t811 t821).bind fun t824 => (if t824 = true then ((laws_markBranchS.f kj19 t811 1).bind fun bt825 => (if bt825.1 < 0 then (laws_FnExactSetBranch.j1 kj19 l0 a1 t807 t810 t816 true a2_0 a2_1) else ((laws_eqBranchS.f kj19 t816 t807).bind fun t827 => (if t827 = true then (laws_FnExactSetBranch.j1 kj19 l0 a1 t807 t810 t816 (t819 != t810) a2_0 a2_1) else (laws_FnExactSetBranch.j1 kj19 l0 a1 t807 t810 t816 true a2_0 a2_1))))) else (some false)))) = some r := by rw [if_neg (show ¬ (false = true) by decide)] at H; exact H
            clear H
            have H := H1
            clear H1
            replace H := Option.bind_eq_some_iff.mp H
            obtain ⟨t821, A440, H⟩ := H
            replace H : ((laws_eqBranchS.f kj19 t811 t821).bind fun t824 => (if t824 = true then ((laws_markBranchS.f kj19 t811 1).bind fun bt825 => (if bt825.1 < 0 then (laws_FnExactSetBranch.j1 kj19 l0 a1 t807 t810 t816 true a2_0 a2_1) else ((laws_eqBranchS.f kj19 t816 t807).bind fun t827 => (if t827 = true then (laws_FnExactSetBranch.j1 kj19 l0 a1 t807 t810 t816 (t819 != t810) a2_0 a2_1) else (laws_FnExactSetBranch.j1 kj19 l0 a1 t807 t810 t816 true a2_0 a2_1))))) else (some false))) = some r := H
            have A44 := Aside0.mk A440
            clear A440
            replace H := Option.bind_eq_some_iff.mp H
            obtain ⟨t824, A450, H⟩ := H
            replace H : (if t824 = true then ((laws_markBranchS.f kj19 t811 1).bind fun bt825 => (if bt825.1 < 0 then (laws_FnExactSetBranch.j1 kj19 l0 a1 t807 t810 t816 true a2_0 a2_1) else ((laws_eqBranchS.f kj19 t816 t807).bind fun t827 => (if t827 = true then (laws_FnExactSetBranch.j1 kj19 l0 a1 t807 t810 t816 (t819 != t810) a2_0 a2_1) else (laws_FnExactSetBranch.j1 kj19 l0 a1 t807 t810 t816 true a2_0 a2_1))))) else (some false)) = some r := H
            have A45 := Aside0.mk A450
            clear A450
            by_cases c46 : t824 = true
            · subst c46
              have H1 : ((laws_markBranchS.f kj19 t811 1).bind fun bt825 => (if bt825.1 < 0 then (laws_FnExactSetBranch.j1 kj19 l0 a1 t807 t810 t816 true a2_0 a2_1) else ((laws_eqBranchS.f kj19 t816 t807).bind fun t827 => (if t827 = true then (laws_FnExactSetBranch.j1 kj19 l0 a1 t807 t810 t816 (t819 != t810) a2_0 a2_1) else (laws_FnExactSetBranch.j1 kj19 l0 a1 t807 t810 t816 true a2_0 a2_1))))) = some r := by rw [if_pos rfl] at H; exact H
              clear H
              have H := H1
              clear H1
              replace H := Option.bind_eq_some_iff.mp H
              obtain ⟨⟨t825, t826⟩, A470, H⟩ := H
              replace H : (if t825 < 0 then (laws_FnExactSetBranch.j1 kj19 l0 a1 t807 t810 t816 true a2_0 a2_1) else ((laws_eqBranchS.f kj19 t816 t807).bind fun t827 => (if t827 = true then (laws_FnExactSetBranch.j1 kj19 l0 a1 t807 t810 t816 (t819 != t810) a2_0 a2_1) else (laws_FnExactSetBranch.j1 kj19 l0 a1 t807 t810 t816 true a2_0 a2_1)))) = some r := H
              have A47 := Aside0.mk A470
              clear A470
              have HC48 := Aside0.mk H
              clear H
              go_upto_region 17 with (first | ((with_reducible refine gate_callee (f := 25) rfl ?_); refine goesL_ (some 58) rfl rfl Try.func25 (by kernel_rfl) rfl #[.slice A0 l0.length c0] rfl (by (try simp only [List.map_toArray, List.map_cons, List.map_nil]); first | done | rfl | (simp only [List.length_drop, List.length_take]; rfl)) ?_; (with_reducible refine (laws_toBranchS.calls kj19 _ _ l0 t821 _ ?side1 ?side2 A44.out).mono ?_); (case side1 => repeat (first | exact (Kd.C_below HR0.out HB.out) | (with_reducible refine Kd.C_alloc ?_ _) | (with_reducible refine Kd.C_drewN ?_ _) | (with_reducible refine Kd.C_drew ?_))); (case side2 => exact HC0.out); rintro e w49 ⟨v822, rfl, ho0, hb⟩; refine ⟨_, rfl, ?_⟩; have n0_ := Aside0.mk (Kd.R_elder' (by (with_reducible repeat (first | apply Kd.R_alloc | apply Kd.R_drewN | apply Kd.R_drew)); exact HO_8.out) (Kd.R_base ho0) hb); have n1_ := Aside0.mk (Kd.R_elder' (by (with_reducible repeat (first | apply Kd.R_alloc | apply Kd.R_drewN | apply Kd.R_drew)); exact HO_10.out) (Kd.R_base ho0) hb); have n2_ := Aside0.mk (Kd.R_elder' (by (with_reducible repeat (first | apply Kd.R_alloc | apply Kd.R_drewN | apply Kd.R_drew)); exact HO_11.out) (Kd.R_base ho0) hb); have n3_ := Aside0.mk (Kd.R_lower (Kd.R_new' (Kd.R_new' (Kd.R_new' ho0 (Kd.R_lt (by (with_reducible repeat (first | apply Kd.R_alloc | apply Kd.R_drewN | apply Kd.R_drew)); exact HO_8.out))) (Kd.R_lt (by (with_reducible repeat (first | apply Kd.R_alloc | apply Kd.R_drewN | apply Kd.R_drew)); exact HO_10.out))) (Kd.R_lt (by (with_reducible repeat (first | apply Kd.R_alloc | apply Kd.R_drewN | apply Kd.R_drew)); exact HO_11.out))) (below_size (by repeat (first | (with_reducible first | exact HB.out | apply below_alloc | apply pw_below_drewN | apply below_drew1 | refine below_set ?_ GE799.out) | exact HB.out)))); have n4_ := Aside0.mk (blk_below (g := gb799) (o := .cells #[.string a2_0, .int .i64 a2_1] 69 (0, 0)) (by (with_reducible repeat (first | refine blk_drewN ?_ _ | refine blk_drew ?_ | refine blk_alloc ?_ _)); exact BK799.out) hb); have n5_ := Aside0.mk (below_step (by repeat (first | (with_reducible first | exact HB.out | apply below_alloc | apply pw_below_drewN | apply below_drew1 | refine below_set ?_ GE799.out) | exact HB.out)) hb); clear HO_8; clear HO_10; clear HO_11; clear BK799; clear HB; have HO_8 := n0_; have HO_10 := n1_; have HO_11 := n2_; have HO823 := n3_; have BK799 := n4_; have HB := n5_; clear n0_ n1_ n2_ n3_ n4_ n5_; (try clear hb); (try clear hb2); (try clear hk); (try clear hi); (try clear ho0); obtain ⟨Ao50, co50, eo50⟩ := Kd.R_slice HO823.out; subst eo50) | ((with_reducible refine gate_callee (f := 27) rfl ?_); refine goesL_ (some 59) rfl rfl Try.func27 (by kernel_rfl) rfl #[.slice Ao33 t811.length co33, .slice Ao50 t821.length co50] rfl (by (try simp only [List.map_toArray, List.map_cons, List.map_nil]); first | done | rfl | (simp only [List.length_drop, List.length_take]; rfl)) ?_; (with_reducible refine (laws_eqBranchS.calls kj19 _ _ t811 _ _ t821 true _ ?side1 ?side2 ?side3 ?side4 A45.out).mono ?_); (case side1 => repeat (first | exact (Kd.R_reads' HO_10.out).2.2 | (with_reducible refine Kd.C_alloc ?_ _) | (with_reducible refine Kd.C_drewN ?_ _) | (with_reducible refine Kd.C_drew ?_))); (case side2 => exact (Kd.R_reads' HO_10.out).2.1); (case side3 => repeat (first | exact (Kd.R_reads' HO823.out).2.2 | (with_reducible refine Kd.C_alloc ?_ _) | (with_reducible refine Kd.C_drewN ?_ _) | (with_reducible refine Kd.C_drew ?_))); (case side4 => exact (Kd.R_reads' HO823.out).2.1); rintro e w51 ⟨rfl, hb⟩; refine ⟨_, rfl, ?_⟩; have n0_ := Aside0.mk (Kd.R_below (by (with_reducible repeat (first | apply Kd.R_alloc | apply Kd.R_drewN | apply Kd.R_drew)); exact HO_8.out) hb); have n1_ := Aside0.mk (Kd.R_below (by (with_reducible repeat (first | apply Kd.R_alloc | apply Kd.R_drewN | apply Kd.R_drew)); exact HO_10.out) hb); have n2_ := Aside0.mk (Kd.R_below (by (with_reducible repeat (first | apply Kd.R_alloc | apply Kd.R_drewN | apply Kd.R_drew)); exact HO_11.out) hb); have n3_ := Aside0.mk (Kd.R_below (by (with_reducible repeat (first | apply Kd.R_alloc | apply Kd.R_drewN | apply Kd.R_drew)); exact HO823.out) hb); have n4_ := Aside0.mk (blk_below (g := gb799) (o := .cells #[.string a2_0, .int .i64 a2_1] 69 (0, 0)) (by (with_reducible repeat (first | refine blk_drewN ?_ _ | refine blk_drew ?_ | refine blk_alloc ?_ _)); exact BK799.out) hb); have n5_ := Aside0.mk (below_step (by repeat (first | (with_reducible first | exact HB.out | apply below_alloc | apply pw_below_drewN | apply below_drew1 | refine below_set ?_ GE799.out) | exact HB.out)) hb); clear HO_8; clear HO_10; clear HO_11; clear HO823; clear BK799; clear HB; have HO_8 := n0_; have HO_10 := n1_; have HO_11 := n2_; have HO823 := n3_; have BK799 := n4_; have HB := n5_; clear n0_ n1_ n2_ n3_ n4_ n5_; (try clear hb); (try clear hb2); (try clear hk); (try clear hi)) | ((with_reducible refine gate_callee (f := 50) rfl ?_); refine goesL_ (some 63) rfl rfl Try.func50 (by kernel_rfl) rfl #[.slice Ao33 t811.length co33, .int .i64 1] rfl (by (try simp only [List.map_toArray, List.map_cons, List.map_nil]); first | done | rfl | (simp only [List.length_drop, List.length_take]; rfl)) ?_; (with_reducible refine (laws_markBranchS.calls kj19 (fun k_ => some k_ = (.slice Ao33 t811.length co33 : Value).ownBlock) (.slice Ao33 t811.length co33) t811 1 t825 t826 w _ ?side1 ?side2 A47.out).mono ?_); (case side1 => repeat (first | (with_reducible first | exact HB.out | apply below_alloc | apply pw_below_drewN | apply below_drew1 | refine below_set ?_ GE799.out) | exact HB.out)); (case side2 => exact Kd.R_tight rfl HO_10.out); rintro e w52 ⟨rfl, hy0, hb, hkp⟩; refine ⟨_, rfl, ?_⟩; have n0_ := Aside0.mk (Kd.R_mono (ok' := fun k_ => some k_ ≠ (.slice Ao33 t811.length co33 : Value).ownBlock ∧ some k_ ≠ (v817 : Value).ownBlock ∧ some k_ ≠ (.slice Ao50 t821.length co50 : Value).ownBlock) (Kd.R_keptB (HO_8.out) hkp (fun k_ hk_ hs_ => (hk_.1.1) hs_)) (fun k_ hk_ => ⟨hk_.1.1.1, hk_.1.1.2, hk_.1.2⟩)); have n1_ := Aside0.mk (Kd.R_reok rfl hy0 (fun k_ e_ => HO_10.out.1 k_ e_)); have n2_ := Aside0.mk (Kd.R_mono (ok' := fun k_ => some k_ ≠ (v808 : Value).ownBlock ∧ some k_ ≠ (.slice Ao33 t811.length co33 : Value).ownBlock ∧ some k_ ≠ (.slice Ao50 t821.length co50 : Value).ownBlock) (Kd.R_keptB (HO_11.out) hkp (fun k_ hk_ hs_ => (hk_.1.2) hs_)) (fun k_ hk_ => ⟨hk_.1.1.1, hk_.1.1.2, hk_.1.2⟩)); have n3_ := Aside0.mk (blk_kept (by (with_reducible repeat (first | refine blk_drewN ?_ _ | refine blk_drew ?_ | refine blk_alloc ?_ _)); exact BK799.out) hkp (fun hs_ => (fun e_ => (Kd.R_ne HO_10.out BK799.out (by decide)) e_) hs_)); have n4_ := Aside0.mk (Kd.R_mono (ok' := fun k_ => some k_ ≠ (v808 : Value).ownBlock ∧ some k_ ≠ (.slice Ao33 t811.length co33 : Value).ownBlock ∧ some k_ ≠ (v817 : Value).ownBlock) (Kd.R_keptB (HO823.out) hkp (fun k_ hk_ hs_ => (hk_.1.2) hs_)) (fun k_ hk_ => ⟨hk_.1.1.1.2, hk_.1.1.2, hk_.1.2⟩)); have n5_ := Aside0.mk (hb); clear HO_8; clear HO_10; clear HO_11; clear BK799; clear HO823; clear HB; have HO_8 := n0_; have HO_10 := n1_; have HO_11 := n2_; have BK799 := n3_; have HO823 := n4_; have HB := n5_; clear n0_ n1_ n2_ n3_ n4_ n5_; (try clear hb); (try clear hkp); (try clear hy0)))
              (try simp only [Act.put, List.setIfInBounds_toArray, List.set_cons_zero, List.set_cons_succ])
              go_cut [76] (fun v76 wc => ∃ (kq : Nat) (x76_47 : Bool), v76 = .bool x76_47 ∧ Aside0 (laws_FnExactSetBranch.j1 kq l0 a1 t807 t810 t816 x76_47 a2_0 a2_1 = some r) ∧ Aside0 (kq ≤ kj19) ∧ Aside0 (Kd.R k64 64 wc w.heap.size (fun k_ => some k_ ≠ (v817 : Value).ownBlock) v808 t807) ∧ Aside0 (Kd.R k64 64 wc w.heap.size (fun k_ => some k_ ≠ (v808 : Value).ownBlock) v817 t816) ∧ Aside0 (wc.heap[gb799]? = some (.cells #[.string a2_0, .int .i64 a2_1] 69 (0, 0))) ∧ Aside0 (Below w.heap.size w wc))
              case first =>
                have H := HC48.out
                clear HC48
                by_cases c53 : t825 < 0
                · rw [if_pos c53] at H
                  have c53b0 : decide (t825 < 0) = true := decide_eq_true c53
                  clear c53
                  (first | rw [c53b0] | (simp only [i64_w, i32_w]; rw [c53b0]) | skip)
                  have H' := Aside0.mk H
                  clear H
                  go_wp2
                  go_meet
                  case rel => exact ⟨_, (true), (by first | rfl | (simp; done) | (simp [*]; done)), H', ⟨by have := HJ19.out; first | omega | exact Nat.le_refl _⟩, ⟨by (with_reducible repeat (first | apply Kd.R_alloc | apply Kd.R_drewN | apply Kd.R_drew)); exact Kd.R_mono HO_8.out (fun _ hk => hk.2.1)⟩, ⟨by (with_reducible repeat (first | apply Kd.R_alloc | apply Kd.R_drewN | apply Kd.R_drew)); exact Kd.R_mono HO_11.out (fun _ hk => hk.1)⟩, ⟨by (with_reducible repeat (first | refine blk_drewN ?_ _ | refine blk_drew ?_ | refine blk_alloc ?_ _)); exact BK799.out⟩, ⟨by repeat (first | (with_reducible first | exact HB.out | apply below_alloc | apply pw_below_drewN | apply below_drew1 | refine below_set ?_ GE799.out) | exact HB.out)⟩⟩
                · rw [if_neg c53] at H
                  have c53b0 : decide (t825 < 0) = false := decide_eq_false c53
                  clear c53
                  (first | rw [c53b0] | (simp only [i64_w, i32_w]; rw [c53b0]) | skip)
                  replace H := Option.bind_eq_some_iff.mp H
                  obtain ⟨t827, A540, H⟩ := H
                  replace H : (if t827 = true then (laws_FnExactSetBranch.j1 kj19 l0 a1 t807 t810 t816 (t819 != t810) a2_0 a2_1) else (laws_FnExactSetBranch.j1 kj19 l0 a1 t807 t810 t816 true a2_0 a2_1)) = some r := H
                  have A54 := Aside0.mk A540
                  clear A540
                  by_cases c55 : t827 = true
                  · subst c55
                    have H1 : (laws_FnExactSetBranch.j1 kj19 l0 a1 t807 t810 t816 (t819 != t810) a2_0 a2_1) = some r := by rw [if_pos rfl] at H; exact H
                    clear H
                    have H := H1
                    clear H1
                    have H' := Aside0.mk H
                    clear H
                    obtain ⟨Ao56, co56, eo56⟩ := Kd.R_slice HO_11.out
                    subst eo56
                    obtain ⟨Ao57, co57, eo57⟩ := Kd.R_slice HO_8.out
                    subst eo57
                    go_wp2_with (first | (go_at_call 27; (with_reducible refine (laws_eqBranchS.calls kj19 _ _ t816 _ _ t807 true _ ?side1 ?side2 ?side3 ?side4 A54.out).mono ?_); (case side1 => repeat (first | exact (Kd.R_reads' HO_11.out).2.2 | (with_reducible refine Kd.C_alloc ?_ _) | (with_reducible refine Kd.C_drewN ?_ _) | (with_reducible refine Kd.C_drew ?_))); (case side2 => exact (Kd.R_reads' HO_11.out).2.1); (case side3 => repeat (first | exact (Kd.R_reads' HO_8.out).2.2 | (with_reducible refine Kd.C_alloc ?_ _) | (with_reducible refine Kd.C_drewN ?_ _) | (with_reducible refine Kd.C_drew ?_))); (case side4 => exact (Kd.R_reads' HO_8.out).2.1); rintro e w58 ⟨rfl, hb⟩; have n0_ := Aside0.mk (Kd.R_below (by (with_reducible repeat (first | apply Kd.R_alloc | apply Kd.R_drewN | apply Kd.R_drew)); exact HO_8.out) hb); have n1_ := Aside0.mk (Kd.R_below (by (with_reducible repeat (first | apply Kd.R_alloc | apply Kd.R_drewN | apply Kd.R_drew)); exact HO_10.out) hb); have n2_ := Aside0.mk (Kd.R_below (by (with_reducible repeat (first | apply Kd.R_alloc | apply Kd.R_drewN | apply Kd.R_drew)); exact HO_11.out) hb); have n3_ := Aside0.mk (Kd.R_below (by (with_reducible repeat (first | apply Kd.R_alloc | apply Kd.R_drewN | apply Kd.R_drew)); exact HO823.out) hb); have n4_ := Aside0.mk (blk_below (g := gb799) (o := .cells #[.string a2_0, .int .i64 a2_1] 69 (0, 0)) (by (with_reducible repeat (first | refine blk_drewN ?_ _ | refine blk_drew ?_ | refine blk_alloc ?_ _)); exact BK799.out) hb); have n5_ := Aside0.mk (below_step (by repeat (first | (with_reducible first | exact HB.out | apply below_alloc | apply pw_below_drewN | apply below_drew1 | refine below_set ?_ GE799.out) | exact HB.out)) hb); clear HO_8; clear HO_10; clear HO_11; clear HO823; clear BK799; clear HB; have HO_8 := n0_; have HO_10 := n1_; have HO_11 := n2_; have HO823 := n3_; have BK799 := n4_; have HB := n5_; clear n0_ n1_ n2_ n3_ n4_ n5_; (try clear hb); (try clear hb2); (try clear hk); (try clear hi)))
                    go_meet
                    case rel => exact ⟨_, ((t819 != t810)), (by first | rfl | (simp; done) | (simp [*]; done)), H', ⟨by have := HJ19.out; first | omega | exact Nat.le_refl _⟩, ⟨by (with_reducible repeat (first | apply Kd.R_alloc | apply Kd.R_drewN | apply Kd.R_drew)); exact Kd.R_mono HO_8.out (fun _ hk => hk.2.1)⟩, ⟨by (with_reducible repeat (first | apply Kd.R_alloc | apply Kd.R_drewN | apply Kd.R_drew)); exact Kd.R_mono HO_11.out (fun _ hk => hk.1)⟩, ⟨by (with_reducible repeat (first | refine blk_drewN ?_ _ | refine blk_drew ?_ | refine blk_alloc ?_ _)); exact BK799.out⟩, ⟨by repeat (first | (with_reducible first | exact HB.out | apply below_alloc | apply pw_below_drewN | apply below_drew1 | refine below_set ?_ GE799.out) | exact HB.out)⟩⟩
                  · replace c55 := Bool.eq_false_iff.mpr c55
                    subst c55
                    have H1 : (laws_FnExactSetBranch.j1 kj19 l0 a1 t807 t810 t816 true a2_0 a2_1) = some r := by rw [if_neg (show ¬ (false = true) by decide)] at H; exact H
                    clear H
                    have H := H1
                    clear H1
                    have H' := Aside0.mk H
                    clear H
                    obtain ⟨Ao59, co59, eo59⟩ := Kd.R_slice HO_11.out
                    subst eo59
                    obtain ⟨Ao60, co60, eo60⟩ := Kd.R_slice HO_8.out
                    subst eo60
                    go_wp2_with (first | (go_at_call 27; (with_reducible refine (laws_eqBranchS.calls kj19 _ _ t816 _ _ t807 false _ ?side1 ?side2 ?side3 ?side4 A54.out).mono ?_); (case side1 => repeat (first | exact (Kd.R_reads' HO_11.out).2.2 | (with_reducible refine Kd.C_alloc ?_ _) | (with_reducible refine Kd.C_drewN ?_ _) | (with_reducible refine Kd.C_drew ?_))); (case side2 => exact (Kd.R_reads' HO_11.out).2.1); (case side3 => repeat (first | exact (Kd.R_reads' HO_8.out).2.2 | (with_reducible refine Kd.C_alloc ?_ _) | (with_reducible refine Kd.C_drewN ?_ _) | (with_reducible refine Kd.C_drew ?_))); (case side4 => exact (Kd.R_reads' HO_8.out).2.1); rintro e w61 ⟨rfl, hb⟩; have n0_ := Aside0.mk (Kd.R_below (by (with_reducible repeat (first | apply Kd.R_alloc | apply Kd.R_drewN | apply Kd.R_drew)); exact HO_8.out) hb); have n1_ := Aside0.mk (Kd.R_below (by (with_reducible repeat (first | apply Kd.R_alloc | apply Kd.R_drewN | apply Kd.R_drew)); exact HO_10.out) hb); have n2_ := Aside0.mk (Kd.R_below (by (with_reducible repeat (first | apply Kd.R_alloc | apply Kd.R_drewN | apply Kd.R_drew)); exact HO_11.out) hb); have n3_ := Aside0.mk (Kd.R_below (by (with_reducible repeat (first | apply Kd.R_alloc | apply Kd.R_drewN | apply Kd.R_drew)); exact HO823.out) hb); have n4_ := Aside0.mk (blk_below (g := gb799) (o := .cells #[.string a2_0, .int .i64 a2_1] 69 (0, 0)) (by (with_reducible repeat (first | refine blk_drewN ?_ _ | refine blk_drew ?_ | refine blk_alloc ?_ _)); exact BK799.out) hb); have n5_ := Aside0.mk (below_step (by repeat (first | (with_reducible first | exact HB.out | apply below_alloc | apply pw_below_drewN | apply below_drew1 | refine below_set ?_ GE799.out) | exact HB.out)) hb); clear HO_8; clear HO_10; clear HO_11; clear HO823; clear BK799; clear HB; have HO_8 := n0_; have HO_10 := n1_; have HO_11 := n2_; have HO823 := n3_; have BK799 := n4_; have HB := n5_; clear n0_ n1_ n2_ n3_ n4_ n5_; (try clear hb); (try clear hb2); (try clear hk); (try clear hi)))
                    go_meet
                    case rel => exact ⟨_, (true), (by first | rfl | (simp; done) | (simp [*]; done)), H', ⟨by have := HJ19.out; first | omega | exact Nat.le_refl _⟩, ⟨by (with_reducible repeat (first | apply Kd.R_alloc | apply Kd.R_drewN | apply Kd.R_drew)); exact Kd.R_mono HO_8.out (fun _ hk => hk.2.1)⟩, ⟨by (with_reducible repeat (first | apply Kd.R_alloc | apply Kd.R_drewN | apply Kd.R_drew)); exact Kd.R_mono HO_11.out (fun _ hk => hk.1)⟩, ⟨by (with_reducible repeat (first | refine blk_drewN ?_ _ | refine blk_drew ?_ | refine blk_alloc ?_ _)); exact BK799.out⟩, ⟨by repeat (first | (with_reducible first | exact HB.out | apply below_alloc | apply pw_below_drewN | apply below_drew1 | refine below_set ?_ GE799.out) | exact HB.out)⟩⟩
              case rest =>
                clear HC48
                try clear c1
                try clear c2
                try clear p2
                try clear c3
                try clear c4
                try clear c5
                try clear c5b0
                try clear c9
                try clear c9b0
                try clear c13
                try clear c23
                try clear c25
                try clear c27
                try clear c36
                try clear c43
                try clear c46
                try clear c50
                try clear c53
                try clear c53b0
                try clear c54
                try clear c55
                try clear c56
                try clear c57
                try clear hcz12_0
                try clear hcz12_1
                try clear hcz23_0
                try clear hcz23_1
                try clear hcz31_0
                try clear hcz31_1
                try clear hfz12_0
                try clear hfz12_1
                try clear hfz23_0
                try clear hfz23_1
                try clear hfz31_0
                try clear hfz31_1
                try clear p2
                obtain ⟨kq, x76_47, rfl, HA, HJ47, HO_8, HO_11, BK799, HB⟩ := hcut
                cases kq with
                | zero => exact absurd HA.out (by simp [laws_FnExactSetBranch.j1])
                | succ kj47 =>
                  have H := HA.out
                  clear HA
                  simp only [laws_FnExactSetBranch.j1] at H
                  by_cases c62 : x76_47 = true
                  · subst c62
                    have H1 : (some false) = some r := by rw [if_pos rfl] at H; exact H
                    clear H
                    have H := H1
                    clear H1
                    obtain rfl := Option.some.inj H
                    go_wp2
                    go_ret
                    exact ⟨by first | rfl | (simp [errW_none, errW_some] <;> rfl) | (simp [*, errW_none, errW_some] <;> rfl), by repeat (first | (with_reducible first | exact HB.out | apply below_alloc | apply pw_below_drewN | apply below_drew1 | refine below_set ?_ GE799.out) | exact HB.out)⟩
                  · replace c62 := Bool.eq_false_iff.mpr c62
                    subst c62
                    have H1 : ((laws_markBranchS.f kj47 t816 1).bind fun bt828 => ((laws_heldBranchS.f kj47 bt828.2 1).bind fun t830 => (if t830 < 0 then (some false) else (if t830 = bt828.1 then ((laws_toBranchS.f kj47 l0).bind fun t831 => ((laws_toBranch.f a2_0 a2_1).bind fun bt834 => ((impl_SetBranch.f kj47 t831 a1 bt834.1 bt834.2).bind fun bt836 => ((laws_eqBranchS.f kj47 bt836.1 t807).bind fun t840 => (if t840 = true then (laws_FnExactSetBranch.j2 kj47 bt828.2 bt828.1 (bt836.2 != t810)) else (laws_FnExactSetBranch.j2 kj47 bt828.2 bt828.1 true)))))) else (some false))))) = some r := by rw [if_neg (show ¬ (false = true) by decide)] at H; exact H
                    clear H
                    have H := H1
                    clear H1
                    replace H := Option.bind_eq_some_iff.mp H
                    obtain ⟨⟨t828, t829⟩, A630, H⟩ := H
                    replace H : ((laws_heldBranchS.f kj47 t829 1).bind fun t830 => (if t830 < 0 then (some false) else (if t830 = t828 then ((laws_toBranchS.f kj47 l0).bind fun t831 => ((laws_toBranch.f a2_0 a2_1).bind fun bt834 => ((impl_SetBranch.f kj47 t831 a1 bt834.1 bt834.2).bind fun bt836 => ((laws_eqBranchS.f kj47 bt836.1 t807).bind fun t840 => (if t840 = true then (laws_FnExactSetBranch.j2 kj47 t829 t828 (bt836.2 != t810)) else (laws_FnExactSetBranch.j2 kj47 t829 t828 true)))))) else (some false)))) = some r := H
                    have A63 := Aside0.mk A630
                    clear A630
                    replace H := Option.bind_eq_some_iff.mp H
                    obtain ⟨t830, A640, H⟩ := H
                    replace H : (if t830 < 0 then (some false) else (if t830 = t828 then ((laws_toBranchS.f kj47 l0).bind fun t831 => ((laws_toBranch.f a2_0 a2_1).bind fun bt834 => ((impl_SetBranch.f kj47 t831 a1 bt834.1 bt834.2).bind fun bt836 => ((laws_eqBranchS.f kj47 bt836.1 t807).bind fun t840 => (if t840 = true then (laws_FnExactSetBranch.j2 kj47 t829 t828 (bt836.2 != t810)) else (laws_FnExactSetBranch.j2 kj47 t829 t828 true)))))) else (some false))) = some r := H
                    have A64 := Aside0.mk A640
                    clear A640
                    by_cases c65 : t830 < 0
                    · rw [if_pos c65] at H
                      have c65b0 : decide (t830 < 0) = true := decide_eq_true c65
                      clear c65
                      obtain rfl := Option.some.inj H
                      obtain ⟨Ao66, co66, eo66⟩ := Kd.R_slice HO_11.out
                      subst eo66
                      go_wp2_with (first | ((with_reducible refine gate_callee (f := 50) rfl ?_); refine goesL_ (some 79) rfl rfl Try.func50 (by kernel_rfl) rfl #[.slice Ao66 t816.length co66, .int .i64 1] rfl (by (try simp only [List.map_toArray, List.map_cons, List.map_nil]); first | done | rfl | (simp only [List.length_drop, List.length_take]; rfl)) ?_; (with_reducible refine (laws_markBranchS.calls kj47 (fun k_ => some k_ = (.slice Ao66 t816.length co66 : Value).ownBlock) (.slice Ao66 t816.length co66) t816 1 t828 t829 w _ ?side1 ?side2 A63.out).mono ?_); (case side1 => repeat (first | (with_reducible first | exact HB.out | apply below_alloc | apply pw_below_drewN | apply below_drew1 | refine below_set ?_ GE799.out) | exact HB.out)); (case side2 => exact Kd.R_tight rfl HO_11.out); rintro e w67 ⟨rfl, hy0, hb, hkp⟩; refine ⟨_, rfl, ?_⟩; have n0_ := Aside0.mk (Kd.R_mono (ok' := fun k_ => some k_ ≠ (.slice Ao66 t816.length co66 : Value).ownBlock) (Kd.R_keptB (HO_8.out) hkp (fun k_ hk_ hs_ => (hk_) hs_)) (fun k_ hk_ => hk_.1)); have n1_ := Aside0.mk (Kd.R_reok rfl hy0 (fun k_ e_ => HO_11.out.1 k_ e_)); have n2_ := Aside0.mk (blk_kept (by (with_reducible repeat (first | refine blk_drewN ?_ _ | refine blk_drew ?_ | refine blk_alloc ?_ _)); exact BK799.out) hkp (fun hs_ => (fun e_ => (Kd.R_ne HO_11.out BK799.out (by decide)) e_) hs_)); have n3_ := Aside0.mk (hb); clear HO_8; clear HO_11; clear BK799; clear HB; have HO_8 := n0_; have HO_11 := n1_; have BK799 := n2_; have HB := n3_; clear n0_ n1_ n2_ n3_; (try clear hb); (try clear hkp); (try clear hy0)) | ((with_reducible refine gate_callee (f := 51) rfl ?_); refine goesL_ (some 82) rfl rfl Try.func51 (by kernel_rfl) rfl #[.slice Ao66 t829.length co66, .int .i64 1] rfl (by (try simp only [List.map_toArray, List.map_cons, List.map_nil]); first | done | (rw [show t829.length = t816.length from (Kd.R_reads' HO_11.out).1.symm] <;> rfl) | rfl | (simp only [List.length_drop, List.length_take]; rfl)) ?_; (with_reducible refine (laws_heldBranchS.calls kj47 _ _ t829 1 t830 _ ?side1 ?side2 A64.out).mono ?_); (case side1 => repeat (first | exact (Kd.R_reads' HO_11.out).2.2 | (with_reducible refine Kd.C_alloc ?_ _) | (with_reducible refine Kd.C_drewN ?_ _) | (with_reducible refine Kd.C_drew ?_))); (case side2 => rw [show t829.length = t816.length from (Kd.R_reads' HO_11.out).1.symm]; exact (Kd.R_reads' HO_11.out).2.1); rintro e w68 ⟨rfl, hb⟩; refine ⟨_, rfl, ?_⟩; have n0_ := Aside0.mk (Kd.R_below (by (with_reducible repeat (first | apply Kd.R_alloc | apply Kd.R_drewN | apply Kd.R_drew)); exact HO_8.out) hb); have n1_ := Aside0.mk (Kd.R_below (by (with_reducible repeat (first | apply Kd.R_alloc | apply Kd.R_drewN | apply Kd.R_drew)); exact HO_11.out) hb); have n2_ := Aside0.mk (blk_below (g := gb799) (o := .cells #[.string a2_0, .int .i64 a2_1] 69 (0, 0)) (by (with_reducible repeat (first | refine blk_drewN ?_ _ | refine blk_drew ?_ | refine blk_alloc ?_ _)); exact BK799.out) hb); have n3_ := Aside0.mk (below_step (by repeat (first | (with_reducible first | exact HB.out | apply below_alloc | apply pw_below_drewN | apply below_drew1 | refine below_set ?_ GE799.out) | exact HB.out)) hb); clear HO_8; clear HO_11; clear BK799; clear HB; have HO_8 := n0_; have HO_11 := n1_; have BK799 := n2_; have HB := n3_; clear n0_ n1_ n2_ n3_; (try clear hb); (try clear hb2); (try clear hk); (try clear hi)))
                      go_ret
                      exact ⟨by first | rfl | (simp [errW_none, errW_some] <;> rfl) | (simp [*, errW_none, errW_some] <;> rfl), by repeat (first | (with_reducible first | exact HB.out | apply below_alloc | apply pw_below_drewN | apply below_drew1 | refine below_set ?_ GE799.out) | exact HB.out)⟩
                    · rw [if_neg c65] at H
                      have c65b0 : decide (t830 < 0) = false := decide_eq_false c65
                      clear c65
                      by_cases c69 : t830 = t828
                      · rw [if_pos c69] at H
                        have c69b0 : (t830 == t828) = true := beq_iff_eq.mpr c69
                        have c69b1 : (t830 != t828) = false := bne_eq_false_iff_eq.mpr c69
                        clear c69
                        replace H := Option.bind_eq_some_iff.mp H
                        obtain ⟨t831, A700, H⟩ := H
                        replace H : ((laws_toBranch.f a2_0 a2_1).bind fun bt834 => ((impl_SetBranch.f kj47 t831 a1 bt834.1 bt834.2).bind fun bt836 => ((laws_eqBranchS.f kj47 bt836.1 t807).bind fun t840 => (if t840 = true then (laws_FnExactSetBranch.j2 kj47 t829 t828 (bt836.2 != t810)) else (laws_FnExactSetBranch.j2 kj47 t829 t828 true))))) = some r := H
                        have A70 := Aside0.mk A700
                        clear A700
                        replace H := Option.bind_eq_some_iff.mp H
                        obtain ⟨⟨t834, t835⟩, A710, H⟩ := H
                        replace H : ((impl_SetBranch.f kj47 t831 a1 t834 t835).bind fun bt836 => ((laws_eqBranchS.f kj47 bt836.1 t807).bind fun t840 => (if t840 = true then (laws_FnExactSetBranch.j2 kj47 t829 t828 (bt836.2 != t810)) else (laws_FnExactSetBranch.j2 kj47 t829 t828 true)))) = some r := H
                        have A71 := Aside0.mk A710
                        clear A710
                        replace H := Option.bind_eq_some_iff.mp H
                        obtain ⟨⟨t836, t839⟩, A720, H⟩ := H
                        replace H : ((laws_eqBranchS.f kj47 t836 t807).bind fun t840 => (if t840 = true then (laws_FnExactSetBranch.j2 kj47 t829 t828 (t839 != t810)) else (laws_FnExactSetBranch.j2 kj47 t829 t828 true))) = some r := H
                        have A72 := Aside0.mk A720
                        clear A720
                        have HC73 := Aside0.mk H
                        clear H
                        obtain ⟨Ao74, co74, eo74⟩ := Kd.R_slice HO_11.out
                        subst eo74
                        try go_wp2_with (first | ((with_reducible refine gate_callee (f := 50) rfl ?_); refine goesL_ (some 79) rfl rfl Try.func50 (by kernel_rfl) rfl #[.slice Ao74 t816.length co74, .int .i64 1] rfl (by (try simp only [List.map_toArray, List.map_cons, List.map_nil]); first | done | rfl | (simp only [List.length_drop, List.length_take]; rfl)) ?_; (with_reducible refine (laws_markBranchS.calls kj47 (fun k_ => some k_ = (.slice Ao74 t816.length co74 : Value).ownBlock) (.slice Ao74 t816.length co74) t816 1 t828 t829 w _ ?side1 ?side2 A63.out).mono ?_); (case side1 => repeat (first | (with_reducible first | exact HB.out | apply below_alloc | apply pw_below_drewN | apply below_drew1 | refine below_set ?_ GE799.out) | exact HB.out)); (case side2 => exact Kd.R_tight rfl HO_11.out); rintro e w75 ⟨rfl, hy0, hb, hkp⟩; refine ⟨_, rfl, ?_⟩; have n0_ := Aside0.mk (Kd.R_mono (ok' := fun k_ => some k_ ≠ (.slice Ao74 t816.length co74 : Value).ownBlock) (Kd.R_keptB (HO_8.out) hkp (fun k_ hk_ hs_ => (hk_) hs_)) (fun k_ hk_ => hk_.1)); have n1_ := Aside0.mk (Kd.R_reok rfl hy0 (fun k_ e_ => HO_11.out.1 k_ e_)); have n2_ := Aside0.mk (blk_kept (by (with_reducible repeat (first | refine blk_drewN ?_ _ | refine blk_drew ?_ | refine blk_alloc ?_ _)); exact BK799.out) hkp (fun hs_ => (fun e_ => (Kd.R_ne HO_11.out BK799.out (by decide)) e_) hs_)); have n3_ := Aside0.mk (hb); clear HO_8; clear HO_11; clear BK799; clear HB; have HO_8 := n0_; have HO_11 := n1_; have BK799 := n2_; have HB := n3_; clear n0_ n1_ n2_ n3_; (try clear hb); (try clear hkp); (try clear hy0)) | ((with_reducible refine gate_callee (f := 51) rfl ?_); refine goesL_ (some 82) rfl rfl Try.func51 (by kernel_rfl) rfl #[.slice Ao74 t829.length co74, .int .i64 1] rfl (by (try simp only [List.map_toArray, List.map_cons, List.map_nil]); first | done | (rw [show t829.length = t816.length from (Kd.R_reads' HO_11.out).1.symm] <;> rfl) | rfl | (simp only [List.length_drop, List.length_take]; rfl)) ?_; (with_reducible refine (laws_heldBranchS.calls kj47 _ _ t829 1 t830 _ ?side1 ?side2 A64.out).mono ?_); (case side1 => repeat (first | exact (Kd.R_reads' HO_11.out).2.2 | (with_reducible refine Kd.C_alloc ?_ _) | (with_reducible refine Kd.C_drewN ?_ _) | (with_reducible refine Kd.C_drew ?_))); (case side2 => rw [show t829.length = t816.length from (Kd.R_reads' HO_11.out).1.symm]; exact (Kd.R_reads' HO_11.out).2.1); rintro e w76 ⟨rfl, hb⟩; refine ⟨_, rfl, ?_⟩; have n0_ := Aside0.mk (Kd.R_below (by (with_reducible repeat (first | apply Kd.R_alloc | apply Kd.R_drewN | apply Kd.R_drew)); exact HO_8.out) hb); have n1_ := Aside0.mk (Kd.R_below (by (with_reducible repeat (first | apply Kd.R_alloc | apply Kd.R_drewN | apply Kd.R_drew)); exact HO_11.out) hb); have n2_ := Aside0.mk (blk_below (g := gb799) (o := .cells #[.string a2_0, .int .i64 a2_1] 69 (0, 0)) (by (with_reducible repeat (first | refine blk_drewN ?_ _ | refine blk_drew ?_ | refine blk_alloc ?_ _)); exact BK799.out) hb); have n3_ := Aside0.mk (below_step (by repeat (first | (with_reducible first | exact HB.out | apply below_alloc | apply pw_below_drewN | apply below_drew1 | refine below_set ?_ GE799.out) | exact HB.out)) hb); clear HO_8; clear HO_11; clear BK799; clear HB; have HO_8 := n0_; have HO_11 := n1_; have BK799 := n2_; have HB := n3_; clear n0_ n1_ n2_ n3_; (try clear hb); (try clear hb2); (try clear hk); (try clear hi)))
                        have n0_ := Aside0.mk (Kd.R_drew HO_8.out)
                        have n1_ := Aside0.mk (Kd.R_drew HO_11.out)
                        have n2_ := Aside0.mk (blk_drew BK799.out)
                        have n3_ := Aside0.mk (below_drew1 HB.out)
                        clear HO_8
                        clear HO_11
                        clear BK799
                        clear HB
                        have HO_8 := n0_
                        have HO_11 := n1_
                        have BK799 := n2_
                        have HB := n3_
                        clear n0_ n1_ n2_ n3_
                        refine start_ (n := 11) (S := fun w' => w'.cell? ⟨gb799, 0, none⟩ = some (.string a2_0) ∧ w'.cell? ⟨gb799, 1, none⟩ = some (.int .i64 a2_1)) (ds := []) #[false, false, false, false, false, false, false, false, false, false, false] (by kernel_rfl) rfl rfl ⟨(blk_cell BK799.out 0).trans rfl, (blk_cell BK799.out 1).trans rfl⟩ (fun hHeld => ?_); refine with_tabW laws_FnExactSetBranch.tab27 laws_FnExactSetBranch.bits27 (fun HT_ HW_ => ?_)
                        generalize w76.drew = w77 at HO_8 HO_11 BK799 HB hHeld ⊢
                        refine pure_ (i := 0) (N := some 89) (v := ?_) (a' := ?_) #[true, false, false, false, false, false, false, false, false, false, false] rfl rfl (any_of HT_.out (by kernel_rfl)) (fun _ _ _ h => h) (Or.inl ⟨by rfl, ?_⟩) ?_ ?_
                        rotate_left
                        · intro w'
                          go_simp
                          with_reducible rfl
                        rotate_left
                        · simp only [Act.put, List.setIfInBounds_toArray, List.set_cons_zero, List.set_cons_succ, i64_w, i32_w]
                          rfl
                        refine pure_ (i := 2) (N := some 91) (v := ?_) (a' := ?_) #[true, false, true, false, false, false, false, false, false, false, false] rfl rfl (any_of HT_.out (by kernel_rfl)) (fun _ _ _ h => h) (Or.inl ⟨by rfl, ?_⟩) ?_ ?_
                        rotate_left
                        · intro w'
                          go_simp
                          with_reducible rfl
                        rotate_left
                        · simp only [Act.put, List.setIfInBounds_toArray, List.set_cons_zero, List.set_cons_succ, i64_w, i32_w]
                          rfl
                        refine take_ (i := 3) (N := some 92) (v := ?_) (a' := ?_) #[true, false, true, true, false, false, false, false, false, false, false] rfl rfl (take_ofW HT_.out HW_.out (by kernel_rfl)) (fun _ _ _ h => h) (Or.inl ⟨by rfl, ?_⟩) hHeld ?_ ?_
                        rotate_left
                        · rintro w' ⟨s0, s1⟩
                          go_simp
                          with_reducible rfl
                        rotate_left
                        · simp only [Act.put, List.setIfInBounds_toArray, List.set_cons_zero, List.set_cons_succ, i64_w, i32_w]
                          rfl
                        refine one_ (i := 1) (N := some 90) #[true, true, true, true, false, false, false, false, false, false, false] rfl rfl (one_of HT_.out (by kernel_rfl)) (by decide) (fun K hK => ?_)
                        refine goes_ Try.func25 (by kernel_rfl) rfl #[.slice A0 l0.length c0] (by rfl) rfl rfl (by (try simp only [List.map_toArray, List.map_cons, List.map_nil]); first | done | rfl | (simp only [List.length_drop, List.length_take]; rfl)) ?_
                        with_reducible refine (laws_toBranchS.calls kj47 _ _ l0 t831 _ ?side1 ?side2 A70.out).mono ?_
                        (case side1 => repeat (first | exact (Kd.C_below HR0.out HB.out) | (with_reducible refine Kd.C_alloc ?_ _) | (with_reducible refine Kd.C_drewN ?_ _) | (with_reducible refine Kd.C_drew ?_)))
                        (case side2 => exact HC0.out)
                        rintro e w78 ⟨v832, rfl, ho0, hb⟩
                        refine ⟨_, rfl, ?_⟩
                        have n0_ := Aside0.mk (Kd.R_elder' (by (with_reducible repeat (first | apply Kd.R_alloc | apply Kd.R_drewN | apply Kd.R_drew)); exact HO_8.out) (Kd.R_base ho0) hb)
                        have n1_ := Aside0.mk (Kd.R_elder' (by (with_reducible repeat (first | apply Kd.R_alloc | apply Kd.R_drewN | apply Kd.R_drew)); exact HO_11.out) (Kd.R_base ho0) hb)
                        have n2_ := Aside0.mk (Kd.R_lower (Kd.R_new' (Kd.R_new' ho0 (Kd.R_lt (by (with_reducible repeat (first | apply Kd.R_alloc | apply Kd.R_drewN | apply Kd.R_drew)); exact HO_8.out))) (Kd.R_lt (by (with_reducible repeat (first | apply Kd.R_alloc | apply Kd.R_drewN | apply Kd.R_drew)); exact HO_11.out))) (below_size (by repeat (first | (with_reducible first | exact HB.out | apply below_alloc | apply pw_below_drewN | apply below_drew1 | refine below_set ?_ GE799.out) | exact HB.out))))
                        have n3_ := Aside0.mk (blk_below (g := gb799) (o := .cells #[.string a2_0, .int .i64 a2_1] 69 (0, 0)) (by (with_reducible repeat (first | refine blk_drewN ?_ _ | refine blk_drew ?_ | refine blk_alloc ?_ _)); exact BK799.out) hb)
                        have n4_ := Aside0.mk (below_step (by repeat (first | (with_reducible first | exact HB.out | apply below_alloc | apply pw_below_drewN | apply below_drew1 | refine below_set ?_ GE799.out) | exact HB.out)) hb)
                        clear HO_8
                        clear HO_11
                        clear BK799
                        clear HB
                        have HO_8 := n0_
                        have HO_11 := n1_
                        have HO833 := n2_
                        have BK799 := n3_
                        have HB := n4_
                        clear n0_ n1_ n2_ n3_ n4_
                        (try clear hb)
                        (try clear hb2)
                        (try clear hk)
                        (try clear hi)
                        (try clear ho0)
                        refine hK.out _ _ ⟨(blk_cell BK799.out 0).trans rfl, (blk_cell BK799.out 1).trans rfl⟩ (fun hHeld => ?_)
                        clear hK K
                        refine norm_ (a' := ?_) ?_ ?_
                        rotate_left
                        · show Act.put _ (some 90) _ = _
                          simp only [Act.put, List.setIfInBounds_toArray, List.set_cons_zero, List.set_cons_succ, i64_w, i32_w]
                          rfl
                        refine one_ (i := 4) (N := some 93) #[true, true, true, true, true, false, false, false, false, false, false] rfl rfl (one_of HT_.out (by kernel_rfl)) (by decide) (fun K hK => ?_)
                        refine goes_ Try.func56 (by kernel_rfl) rfl #[.agg #[.string a2_0, .int .i64 a2_1]] (by rfl) rfl rfl (by (try simp only [List.map_toArray, List.map_cons, List.map_nil]); first | done | rfl | (simp only [List.length_drop, List.length_take]; rfl)) ?_
                        with_reducible refine (laws_toBranch.calls a2_0 a2_1 t834 t835 _ A71.out).mono ?_
                        rintro e w79 ⟨rfl, hb⟩
                        refine ⟨_, rfl, ?_⟩
                        have n0_ := Aside0.mk (Kd.R_below (by (with_reducible repeat (first | apply Kd.R_alloc | apply Kd.R_drewN | apply Kd.R_drew)); exact HO_8.out) hb)
                        have n1_ := Aside0.mk (Kd.R_below (by (with_reducible repeat (first | apply Kd.R_alloc | apply Kd.R_drewN | apply Kd.R_drew)); exact HO_11.out) hb)
                        have n2_ := Aside0.mk (Kd.R_below (by (with_reducible repeat (first | apply Kd.R_alloc | apply Kd.R_drewN | apply Kd.R_drew)); exact HO833.out) hb)
                        have n3_ := Aside0.mk (blk_below (g := gb799) (o := .cells #[.string a2_0, .int .i64 a2_1] 69 (0, 0)) (by (with_reducible repeat (first | refine blk_drewN ?_ _ | refine blk_drew ?_ | refine blk_alloc ?_ _)); exact BK799.out) hb)
                        have n4_ := Aside0.mk (below_step (by repeat (first | (with_reducible first | exact HB.out | apply below_alloc | apply pw_below_drewN | apply below_drew1 | refine below_set ?_ GE799.out) | exact HB.out)) hb)
                        clear HO_8
                        clear HO_11
                        clear HO833
                        clear BK799
                        clear HB
                        have HO_8 := n0_
                        have HO_11 := n1_
                        have HO833 := n2_
                        have BK799 := n3_
                        have HB := n4_
                        clear n0_ n1_ n2_ n3_ n4_
                        (try clear hb)
                        (try clear hb2)
                        (try clear hk)
                        (try clear hi)
                        obtain ⟨Ao80, co80, eo80⟩ := Kd.R_slice HO833.out
                        (first | subst eo80 | (injection eo80 with f1_ f2_ f3_; have f4_ := f1_.symm; have f5_ := f3_.symm; clear f1_ f2_ f3_; subst f4_; subst f5_))
                        refine hK.out _ _ ⟨(blk_cell BK799.out 0).trans rfl, (blk_cell BK799.out 1).trans rfl⟩ (fun hHeld => ?_)
                        clear hK K
                        refine norm_ (a' := ?_) ?_ ?_
                        rotate_left
                        · show Act.put _ (some 93) _ = _
                          simp only [Act.put, List.setIfInBounds_toArray, List.set_cons_zero, List.set_cons_succ, i64_w, i32_w]
                          rfl
                        refine one_ (i := 5) (N := some 94) #[true, true, true, true, true, true, false, false, false, false, false] rfl rfl (one_of HT_.out (by kernel_rfl)) (by decide) (fun K hK => ?_)
                        refine goes_ Try.func57 (by kernel_rfl) rfl #[.slice Ao80 t831.length co80, .int .i64 a1, .agg #[.string t834, .int .i64 t835]] (by rfl) rfl rfl (by (try simp only [List.map_toArray, List.map_cons, List.map_nil]); first | done | rfl | (simp only [List.length_drop, List.length_take]; rfl)) ?_
                        with_reducible refine (impl_SetBranch.calls kj47 _ _ t831 a1 t834 t835 t836 t839 _ ?side1 ?side2 A72.out).mono ?_
                        (case side1 => repeat (first | exact (Kd.R_reads' HO833.out).2.2 | (with_reducible refine Kd.C_alloc ?_ _) | (with_reducible refine Kd.C_drewN ?_ _) | (with_reducible refine Kd.C_drew ?_)))
                        (case side2 => exact (Kd.R_reads' HO833.out).2.1)
                        rintro e w81 ⟨v837, rfl, ho0, hb⟩
                        refine ⟨_, rfl, ?_⟩
                        have n0_ := Aside0.mk (Kd.R_elder' (by (with_reducible repeat (first | apply Kd.R_alloc | apply Kd.R_drewN | apply Kd.R_drew)); exact HO_8.out) (Kd.R_base ho0) hb)
                        have n1_ := Aside0.mk (Kd.R_elder' (by (with_reducible repeat (first | apply Kd.R_alloc | apply Kd.R_drewN | apply Kd.R_drew)); exact HO_11.out) (Kd.R_base ho0) hb)
                        have n2_ := Aside0.mk (Kd.R_elder' (by (with_reducible repeat (first | apply Kd.R_alloc | apply Kd.R_drewN | apply Kd.R_drew)); exact HO833.out) (Kd.R_base ho0) hb)
                        have n3_ := Aside0.mk (Kd.R_lower (Kd.R_new' (Kd.R_new' (Kd.R_new' ho0 (Kd.R_lt (by (with_reducible repeat (first | apply Kd.R_alloc | apply Kd.R_drewN | apply Kd.R_drew)); exact HO_8.out))) (Kd.R_lt (by (with_reducible repeat (first | apply Kd.R_alloc | apply Kd.R_drewN | apply Kd.R_drew)); exact HO_11.out))) (Kd.R_lt (by (with_reducible repeat (first | apply Kd.R_alloc | apply Kd.R_drewN | apply Kd.R_drew)); exact HO833.out))) (below_size (by repeat (first | (with_reducible first | exact HB.out | apply below_alloc | apply pw_below_drewN | apply below_drew1 | refine below_set ?_ GE799.out) | exact HB.out))))
                        have n4_ := Aside0.mk (blk_below (g := gb799) (o := .cells #[.string a2_0, .int .i64 a2_1] 69 (0, 0)) (by (with_reducible repeat (first | refine blk_drewN ?_ _ | refine blk_drew ?_ | refine blk_alloc ?_ _)); exact BK799.out) hb)
                        have n5_ := Aside0.mk (below_step (by repeat (first | (with_reducible first | exact HB.out | apply below_alloc | apply pw_below_drewN | apply below_drew1 | refine below_set ?_ GE799.out) | exact HB.out)) hb)
                        clear HO_8
                        clear HO_11
                        clear HO833
                        clear BK799
                        clear HB
                        have HO_8 := n0_
                        have HO_11 := n1_
                        have HO833 := n2_
                        have HO838 := n3_
                        have BK799 := n4_
                        have HB := n5_
                        clear n0_ n1_ n2_ n3_ n4_ n5_
                        (try clear hb)
                        (try clear hb2)
                        (try clear hk)
                        (try clear hi)
                        (try clear ho0)
                        refine hK.out _ _ ⟨(blk_cell BK799.out 0).trans rfl, (blk_cell BK799.out 1).trans rfl⟩ (fun hHeld => ?_)
                        clear hK K
                        refine norm_ (a' := ?_) ?_ ?_
                        rotate_left
                        · show Act.put _ (some 94) _ = _
                          simp only [Act.put, List.setIfInBounds_toArray, List.set_cons_zero, List.set_cons_succ, i64_w, i32_w]
                          rfl
                        refine pure_ (i := 6) (N := some 88) (v := ?_) (a' := ?_) #[true, true, true, true, true, true, true, false, false, false, false] rfl rfl (any_of HT_.out (by kernel_rfl)) (fun _ _ _ h => h) (Or.inl ⟨by rfl, ?_⟩) ?_ ?_
                        rotate_left
                        · intro w'
                          go_simp
                          with_reducible rfl
                        rotate_left
                        · simp only [Act.put, List.setIfInBounds_toArray, List.set_cons_zero, List.set_cons_succ, i64_w, i32_w]
                          rfl
                        refine pure_ (i := 7) (N := some 95) (v := ?_) (a' := ?_) #[true, true, true, true, true, true, true, true, false, false, false] rfl rfl (any_of HT_.out (by kernel_rfl)) (fun _ _ _ h => h) (Or.inl ⟨by rfl, ?_⟩) ?_ ?_
                        rotate_left
                        · intro w'
                          go_simp
                          with_reducible rfl
                        rotate_left
                        · simp only [Act.put, List.setIfInBounds_toArray, List.set_cons_zero, List.set_cons_succ, i64_w, i32_w]
                          rfl
                        refine pure_ (i := 8) (N := some 96) (v := ?_) (a' := ?_) #[true, true, true, true, true, true, true, true, true, false, false] rfl rfl (any_of HT_.out (by kernel_rfl)) (fun _ _ _ h => h) (Or.inl ⟨by rfl, ?_⟩) ?_ ?_
                        rotate_left
                        · intro w'
                          go_simp
                          with_reducible rfl
                        rotate_left
                        · simp only [Act.put, List.setIfInBounds_toArray, List.set_cons_zero, List.set_cons_succ, i64_w, i32_w]
                          rfl
                        refine pure_ (i := 9) (N := some 16) (v := ?_) (a' := ?_) #[true, true, true, true, true, true, true, true, true, true, false] rfl rfl (any_of HT_.out (by kernel_rfl)) (fun _ _ _ h => h) (Or.inl ⟨by rfl, ?_⟩) ?_ ?_
                        rotate_left
                        · intro w'
                          go_simp
                          with_reducible rfl
                        rotate_left
                        · simp only [Act.put, List.setIfInBounds_toArray, List.set_cons_zero, List.set_cons_succ, i64_w, i32_w]
                          rfl
                        refine pure_ (i := 10) (N := some 17) (v := ?_) (a' := ?_) #[true, true, true, true, true, true, true, true, true, true, true] rfl rfl (any_of HT_.out (by kernel_rfl)) (fun _ _ _ h => h) (Or.inl ⟨by rfl, ?_⟩) ?_ ?_
                        rotate_left
                        · intro w'
                          go_simp
                          with_reducible rfl
                        rotate_left
                        · simp only [Act.put, List.setIfInBounds_toArray, List.set_cons_zero, List.set_cons_succ, i64_w, i32_w]
                          rfl
                        refine done_ (done_of HT_.out (by kernel_rfl)) ?_
                        go_upto_region 28 with (fail)
                        go_cut [105] (fun v105 wc => ∃ (kq : Nat) (x105_72 : Bool), v105 = .bool x105_72 ∧ Aside0 (laws_FnExactSetBranch.j2 kq t829 t828 x105_72 = some r) ∧ Aside0 (kq ≤ kj47) ∧ Aside0 (Kd.R k64 64 wc w.heap.size (fun _ => True) (.slice Ao74 t816.length co74) t829) ∧ Aside0 (wc.heap[gb799]? = some (.cells #[.string a2_0, .int .i64 a2_1] 69 (0, 0))) ∧ Aside0 (Below w.heap.size w wc))
                        case first =>
                          have H := HC73.out
                          clear HC73
                          replace H := Option.bind_eq_some_iff.mp H
                          obtain ⟨t840, A820, H⟩ := H
                          replace H : (if t840 = true then (laws_FnExactSetBranch.j2 kj47 t829 t828 (t839 != t810)) else (laws_FnExactSetBranch.j2 kj47 t829 t828 true)) = some r := H
                          have A82 := Aside0.mk A820
                          clear A820
                          by_cases c83 : t840 = true
                          · subst c83
                            have H1 : (laws_FnExactSetBranch.j2 kj47 t829 t828 (t839 != t810)) = some r := by rw [if_pos rfl] at H; exact H
                            clear H
                            have H := H1
                            clear H1
                            have H' := Aside0.mk H
                            clear H
                            obtain ⟨Ao84, co84, eo84⟩ := Kd.R_slice HO838.out
                            subst eo84
                            obtain ⟨Ao85, co85, eo85⟩ := Kd.R_slice HO_8.out
                            subst eo85
                            go_wp2_with (first | ((with_reducible refine gate_callee (f := 27) rfl ?_); refine goesL_ (some 99) rfl rfl Try.func27 (by kernel_rfl) rfl #[.slice Ao84 t836.length co84, .slice Ao85 t807.length co85] rfl (by (try simp only [List.map_toArray, List.map_cons, List.map_nil]); first | done | rfl | (simp only [List.length_drop, List.length_take]; rfl)) ?_; (with_reducible refine (laws_eqBranchS.calls kj47 _ _ t836 _ _ t807 true _ ?side1 ?side2 ?side3 ?side4 A82.out).mono ?_); (case side1 => repeat (first | exact (Kd.R_reads' HO838.out).2.2 | (with_reducible refine Kd.C_alloc ?_ _) | (with_reducible refine Kd.C_drewN ?_ _) | (with_reducible refine Kd.C_drew ?_))); (case side2 => exact (Kd.R_reads' HO838.out).2.1); (case side3 => repeat (first | exact (Kd.R_reads' HO_8.out).2.2 | (with_reducible refine Kd.C_alloc ?_ _) | (with_reducible refine Kd.C_drewN ?_ _) | (with_reducible refine Kd.C_drew ?_))); (case side4 => exact (Kd.R_reads' HO_8.out).2.1); rintro e w86 ⟨rfl, hb⟩; refine ⟨_, rfl, ?_⟩; have n0_ := Aside0.mk (Kd.R_below (by (with_reducible repeat (first | apply Kd.R_alloc | apply Kd.R_drewN | apply Kd.R_drew)); exact HO_8.out) hb); have n1_ := Aside0.mk (Kd.R_below (by (with_reducible repeat (first | apply Kd.R_alloc | apply Kd.R_drewN | apply Kd.R_drew)); exact HO_11.out) hb); have n2_ := Aside0.mk (Kd.R_below (by (with_reducible repeat (first | apply Kd.R_alloc | apply Kd.R_drewN | apply Kd.R_drew)); exact HO833.out) hb); have n3_ := Aside0.mk (Kd.R_below (by (with_reducible repeat (first | apply Kd.R_alloc | apply Kd.R_drewN | apply Kd.R_drew)); exact HO838.out) hb); have n4_ := Aside0.mk (blk_below (g := gb799) (o := .cells #[.string a2_0, .int .i64 a2_1] 69 (0, 0)) (by (with_reducible repeat (first | refine blk_drewN ?_ _ | refine blk_drew ?_ | refine blk_alloc ?_ _)); exact BK799.out) hb); have n5_ := Aside0.mk (below_step (by repeat (first | (with_reducible first | exact HB.out | apply below_alloc | apply pw_below_drewN | apply below_drew1 | refine below_set ?_ GE799.out) | exact HB.out)) hb); clear HO_8; clear HO_11; clear HO833; clear HO838; clear BK799; clear HB; have HO_8 := n0_; have HO_11 := n1_; have HO833 := n2_; have HO838 := n3_; have BK799 := n4_; have HB := n5_; clear n0_ n1_ n2_ n3_ n4_ n5_; (try clear hb); (try clear hb2); (try clear hk); (try clear hi)))
                            go_meet
                            case rel => exact ⟨_, ((t839 != t810)), (by first | rfl | (simp; done) | (simp [*]; done)), H', ⟨by have := HJ19.out; have := HJ47.out; first | omega | exact Nat.le_refl _⟩, ⟨by (with_reducible repeat (first | apply Kd.R_alloc | apply Kd.R_drewN | apply Kd.R_drew)); exact Kd.R_mono HO_11.out (fun _ hk => trivial)⟩, ⟨by (with_reducible repeat (first | refine blk_drewN ?_ _ | refine blk_drew ?_ | refine blk_alloc ?_ _)); exact BK799.out⟩, ⟨by repeat (first | (with_reducible first | exact HB.out | apply below_alloc | apply pw_below_drewN | apply below_drew1 | refine below_set ?_ GE799.out) | exact HB.out)⟩⟩
                          · replace c83 := Bool.eq_false_iff.mpr c83
                            subst c83
                            have H1 : (laws_FnExactSetBranch.j2 kj47 t829 t828 true) = some r := by rw [if_neg (show ¬ (false = true) by decide)] at H; exact H
                            clear H
                            have H := H1
                            clear H1
                            have H' := Aside0.mk H
                            clear H
                            obtain ⟨Ao87, co87, eo87⟩ := Kd.R_slice HO838.out
                            subst eo87
                            obtain ⟨Ao88, co88, eo88⟩ := Kd.R_slice HO_8.out
                            subst eo88
                            go_wp2_with (first | ((with_reducible refine gate_callee (f := 27) rfl ?_); refine goesL_ (some 99) rfl rfl Try.func27 (by kernel_rfl) rfl #[.slice Ao87 t836.length co87, .slice Ao88 t807.length co88] rfl (by (try simp only [List.map_toArray, List.map_cons, List.map_nil]); first | done | rfl | (simp only [List.length_drop, List.length_take]; rfl)) ?_; (with_reducible refine (laws_eqBranchS.calls kj47 _ _ t836 _ _ t807 false _ ?side1 ?side2 ?side3 ?side4 A82.out).mono ?_); (case side1 => repeat (first | exact (Kd.R_reads' HO838.out).2.2 | (with_reducible refine Kd.C_alloc ?_ _) | (with_reducible refine Kd.C_drewN ?_ _) | (with_reducible refine Kd.C_drew ?_))); (case side2 => exact (Kd.R_reads' HO838.out).2.1); (case side3 => repeat (first | exact (Kd.R_reads' HO_8.out).2.2 | (with_reducible refine Kd.C_alloc ?_ _) | (with_reducible refine Kd.C_drewN ?_ _) | (with_reducible refine Kd.C_drew ?_))); (case side4 => exact (Kd.R_reads' HO_8.out).2.1); rintro e w89 ⟨rfl, hb⟩; refine ⟨_, rfl, ?_⟩; have n0_ := Aside0.mk (Kd.R_below (by (with_reducible repeat (first | apply Kd.R_alloc | apply Kd.R_drewN | apply Kd.R_drew)); exact HO_8.out) hb); have n1_ := Aside0.mk (Kd.R_below (by (with_reducible repeat (first | apply Kd.R_alloc | apply Kd.R_drewN | apply Kd.R_drew)); exact HO_11.out) hb); have n2_ := Aside0.mk (Kd.R_below (by (with_reducible repeat (first | apply Kd.R_alloc | apply Kd.R_drewN | apply Kd.R_drew)); exact HO833.out) hb); have n3_ := Aside0.mk (Kd.R_below (by (with_reducible repeat (first | apply Kd.R_alloc | apply Kd.R_drewN | apply Kd.R_drew)); exact HO838.out) hb); have n4_ := Aside0.mk (blk_below (g := gb799) (o := .cells #[.string a2_0, .int .i64 a2_1] 69 (0, 0)) (by (with_reducible repeat (first | refine blk_drewN ?_ _ | refine blk_drew ?_ | refine blk_alloc ?_ _)); exact BK799.out) hb); have n5_ := Aside0.mk (below_step (by repeat (first | (with_reducible first | exact HB.out | apply below_alloc | apply pw_below_drewN | apply below_drew1 | refine below_set ?_ GE799.out) | exact HB.out)) hb); clear HO_8; clear HO_11; clear HO833; clear HO838; clear BK799; clear HB; have HO_8 := n0_; have HO_11 := n1_; have HO833 := n2_; have HO838 := n3_; have BK799 := n4_; have HB := n5_; clear n0_ n1_ n2_ n3_ n4_ n5_; (try clear hb); (try clear hb2); (try clear hk); (try clear hi)))
                            go_meet
                            case rel => exact ⟨_, (true), (by first | rfl | (simp; done) | (simp [*]; done)), H', ⟨by have := HJ19.out; have := HJ47.out; first | omega | exact Nat.le_refl _⟩, ⟨by (with_reducible repeat (first | apply Kd.R_alloc | apply Kd.R_drewN | apply Kd.R_drew)); exact Kd.R_mono HO_11.out (fun _ hk => trivial)⟩, ⟨by (with_reducible repeat (first | refine blk_drewN ?_ _ | refine blk_drew ?_ | refine blk_alloc ?_ _)); exact BK799.out⟩, ⟨by repeat (first | (with_reducible first | exact HB.out | apply below_alloc | apply pw_below_drewN | apply below_drew1 | refine below_set ?_ GE799.out) | exact HB.out)⟩⟩
                        case rest =>
                          clear HC73
                          try clear c1
                          try clear c2
                          try clear p2
                          try clear c3
                          try clear c4
                          try clear c5
                          try clear c5b0
                          try clear c6
                          try clear c8
                          try clear c9
                          try clear c9b0
                          try clear c13
                          try clear c23
                          try clear c25
                          try clear c27
                          try clear c36
                          try clear c43
                          try clear c46
                          try clear c50
                          try clear c51
                          try clear c53
                          try clear c53b0
                          try clear c54
                          try clear c55
                          try clear c56
                          try clear c57
                          try clear c62
                          try clear c65
                          try clear c65b0
                          try clear c69
                          try clear c69b0
                          try clear c69b1
                          try clear c83
                          try clear hcz12_0
                          try clear hcz12_1
                          try clear hcz23_0
                          try clear hcz23_1
                          try clear hcz31_0
                          try clear hcz31_1
                          try clear hfz12_0
                          try clear hfz12_1
                          try clear hfz23_0
                          try clear hfz23_1
                          try clear hfz31_0
                          try clear hfz31_1
                          try clear p2
                          obtain ⟨kq, x105_72, rfl, HA, HJ72, HO_11, BK799, HB⟩ := hcut
                          have hl11_72 := (Kd.R_reads' HO_11.out).1
                          rw [hl11_72] at HO_11
                          (try simp only [hl11_72])
                          (try simp only [hl11_72] at BK799)
                          cases kq with
                          | zero => exact absurd HA.out (by simp [laws_FnExactSetBranch.j2])
                          | succ kj72 =>
                            have H := HA.out
                            clear HA
                            simp only [laws_FnExactSetBranch.j2] at H
                            by_cases c90 : x105_72 = true
                            · subst c90
                              have H1 : (some false) = some r := by rw [if_pos rfl] at H; exact H
                              clear H
                              have H := H1
                              clear H1
                              obtain rfl := Option.some.inj H
                              go_wp2
                              go_ret
                              exact ⟨by first | rfl | (simp [errW_none, errW_some] <;> rfl) | (simp [*, errW_none, errW_some] <;> rfl), by repeat (first | (with_reducible first | exact HB.out | apply below_alloc | apply pw_below_drewN | apply below_drew1 | refine below_set ?_ GE799.out) | exact HB.out)⟩
                            · replace c90 := Bool.eq_false_iff.mpr c90
                              subst c90
                              have H1 : ((laws_heldBranchS.f kj72 t829 1).bind fun t841 => (if t841 < 0 then (some false) else (if t841 = t828 then (some true) else (some false)))) = some r := by rw [if_neg (show ¬ (false = true) by decide)] at H; exact H
                              clear H
                              have H := H1
                              clear H1
                              replace H := Option.bind_eq_some_iff.mp H
                              obtain ⟨t841, A910, H⟩ := H
                              replace H : (if t841 < 0 then (some false) else (if t841 = t828 then (some true) else (some false))) = some r := H
                              have A91 := Aside0.mk A910
                              clear A910
                              by_cases c92 : t841 < 0
                              · rw [if_pos c92] at H
                                have c92b0 : decide (t841 < 0) = true := decide_eq_true c92
                                clear c92
                                obtain rfl := Option.some.inj H
                                go_wp2_with (first | ((with_reducible refine gate_callee (f := 51) rfl ?_); refine goesL_ (some 108) rfl rfl Try.func51 (by kernel_rfl) rfl #[.slice Ao74 t829.length co74, .int .i64 1] rfl (by (try simp only [List.map_toArray, List.map_cons, List.map_nil]); first | done | rfl | (simp only [List.length_drop, List.length_take]; rfl)) ?_; (with_reducible refine (laws_heldBranchS.calls kj72 _ _ t829 1 t841 _ ?side1 ?side2 A91.out).mono ?_); (case side1 => repeat (first | exact (Kd.R_reads' HO_11.out).2.2 | (with_reducible refine Kd.C_alloc ?_ _) | (with_reducible refine Kd.C_drewN ?_ _) | (with_reducible refine Kd.C_drew ?_))); (case side2 => exact (Kd.R_reads' HO_11.out).2.1); rintro e w93 ⟨rfl, hb⟩; refine ⟨_, rfl, ?_⟩; have n0_ := Aside0.mk (Kd.R_below (by (with_reducible repeat (first | apply Kd.R_alloc | apply Kd.R_drewN | apply Kd.R_drew)); exact HO_11.out) hb); have n1_ := Aside0.mk (blk_below (g := gb799) (o := .cells #[.string a2_0, .int .i64 a2_1] 69 (0, 0)) (by (with_reducible repeat (first | refine blk_drewN ?_ _ | refine blk_drew ?_ | refine blk_alloc ?_ _)); exact BK799.out) hb); have n2_ := Aside0.mk (below_step (by repeat (first | (with_reducible first | exact HB.out | apply below_alloc | apply pw_below_drewN | apply below_drew1 | refine below_set ?_ GE799.out) | exact HB.out)) hb); clear HO_11; clear BK799; clear HB; have HO_11 := n0_; have BK799 := n1_; have HB := n2_; clear n0_ n1_ n2_; (try clear hb); (try clear hb2); (try clear hk); (try clear hi)))
                                go_ret
                                exact ⟨by first | rfl | (simp [errW_none, errW_some] <;> rfl) | (simp [*, errW_none, errW_some] <;> rfl), by repeat (first | (with_reducible first | exact HB.out | apply below_alloc | apply pw_below_drewN | apply below_drew1 | refine below_set ?_ GE799.out) | exact HB.out)⟩
                              · rw [if_neg c92] at H
                                have c92b0 : decide (t841 < 0) = false := decide_eq_false c92
                                clear c92
                                by_cases c94 : t841 = t828
                                · rw [if_pos c94] at H
                                  have c94b0 : (t841 == t828) = true := beq_iff_eq.mpr c94
                                  have c94b1 : (t841 != t828) = false := bne_eq_false_iff_eq.mpr c94
                                  clear c94
                                  obtain rfl := Option.some.inj H
                                  go_wp2_with (first | ((with_reducible refine gate_callee (f := 51) rfl ?_); refine goesL_ (some 108) rfl rfl Try.func51 (by kernel_rfl) rfl #[.slice Ao74 t829.length co74, .int .i64 1] rfl (by (try simp only [List.map_toArray, List.map_cons, List.map_nil]); first | done | rfl | (simp only [List.length_drop, List.length_take]; rfl)) ?_; (with_reducible refine (laws_heldBranchS.calls kj72 _ _ t829 1 t841 _ ?side1 ?side2 A91.out).mono ?_); (case side1 => repeat (first | exact (Kd.R_reads' HO_11.out).2.2 | (with_reducible refine Kd.C_alloc ?_ _) | (with_reducible refine Kd.C_drewN ?_ _) | (with_reducible refine Kd.C_drew ?_))); (case side2 => exact (Kd.R_reads' HO_11.out).2.1); rintro e w95 ⟨rfl, hb⟩; refine ⟨_, rfl, ?_⟩; have n0_ := Aside0.mk (Kd.R_below (by (with_reducible repeat (first | apply Kd.R_alloc | apply Kd.R_drewN | apply Kd.R_drew)); exact HO_11.out) hb); have n1_ := Aside0.mk (blk_below (g := gb799) (o := .cells #[.string a2_0, .int .i64 a2_1] 69 (0, 0)) (by (with_reducible repeat (first | refine blk_drewN ?_ _ | refine blk_drew ?_ | refine blk_alloc ?_ _)); exact BK799.out) hb); have n2_ := Aside0.mk (below_step (by repeat (first | (with_reducible first | exact HB.out | apply below_alloc | apply pw_below_drewN | apply below_drew1 | refine below_set ?_ GE799.out) | exact HB.out)) hb); clear HO_11; clear BK799; clear HB; have HO_11 := n0_; have BK799 := n1_; have HB := n2_; clear n0_ n1_ n2_; (try clear hb); (try clear hb2); (try clear hk); (try clear hi)))
                                  go_ret
                                  exact ⟨by first | rfl | (simp [errW_none, errW_some] <;> rfl) | (simp [*, errW_none, errW_some] <;> rfl), by repeat (first | (with_reducible first | exact HB.out | apply below_alloc | apply pw_below_drewN | apply below_drew1 | refine below_set ?_ GE799.out) | exact HB.out)⟩
                                · rw [if_neg c94] at H
                                  have c94b0 : (t841 == t828) = false := beq_eq_false_iff_ne.mpr c94
                                  have c94b1 : (t841 != t828) = true := bne_iff_ne.mpr c94
                                  obtain rfl := Option.some.inj H
                                  go_wp2_with (first | ((with_reducible refine gate_callee (f := 51) rfl ?_); refine goesL_ (some 108) rfl rfl Try.func51 (by kernel_rfl) rfl #[.slice Ao74 t829.length co74, .int .i64 1] rfl (by (try simp only [List.map_toArray, List.map_cons, List.map_nil]); first | done | rfl | (simp only [List.length_drop, List.length_take]; rfl)) ?_; (with_reducible refine (laws_heldBranchS.calls kj72 _ _ t829 1 t841 _ ?side1 ?side2 A91.out).mono ?_); (case side1 => repeat (first | exact (Kd.R_reads' HO_11.out).2.2 | (with_reducible refine Kd.C_alloc ?_ _) | (with_reducible refine Kd.C_drewN ?_ _) | (with_reducible refine Kd.C_drew ?_))); (case side2 => exact (Kd.R_reads' HO_11.out).2.1); rintro e w96 ⟨rfl, hb⟩; refine ⟨_, rfl, ?_⟩; have n0_ := Aside0.mk (Kd.R_below (by (with_reducible repeat (first | apply Kd.R_alloc | apply Kd.R_drewN | apply Kd.R_drew)); exact HO_11.out) hb); have n1_ := Aside0.mk (blk_below (g := gb799) (o := .cells #[.string a2_0, .int .i64 a2_1] 69 (0, 0)) (by (with_reducible repeat (first | refine blk_drewN ?_ _ | refine blk_drew ?_ | refine blk_alloc ?_ _)); exact BK799.out) hb); have n2_ := Aside0.mk (below_step (by repeat (first | (with_reducible first | exact HB.out | apply below_alloc | apply pw_below_drewN | apply below_drew1 | refine below_set ?_ GE799.out) | exact HB.out)) hb); clear HO_11; clear BK799; clear HB; have HO_11 := n0_; have BK799 := n1_; have HB := n2_; clear n0_ n1_ n2_; (try clear hb); (try clear hb2); (try clear hk); (try clear hi)))
                                  go_ret
                                  exact ⟨by first | rfl | (simp [errW_none, errW_some] <;> rfl) | (simp [*, errW_none, errW_some] <;> rfl), by repeat (first | (with_reducible first | exact HB.out | apply below_alloc | apply pw_below_drewN | apply below_drew1 | refine below_set ?_ GE799.out) | exact HB.out)⟩
                      · rw [if_neg c69] at H
                        have c69b0 : (t830 == t828) = false := beq_eq_false_iff_ne.mpr c69
                        have c69b1 : (t830 != t828) = true := bne_iff_ne.mpr c69
                        obtain rfl := Option.some.inj H
                        obtain ⟨Ao97, co97, eo97⟩ := Kd.R_slice HO_11.out
                        subst eo97
                        go_wp2_with (first | ((with_reducible refine gate_callee (f := 50) rfl ?_); refine goesL_ (some 79) rfl rfl Try.func50 (by kernel_rfl) rfl #[.slice Ao97 t816.length co97, .int .i64 1] rfl (by (try simp only [List.map_toArray, List.map_cons, List.map_nil]); first | done | rfl | (simp only [List.length_drop, List.length_take]; rfl)) ?_; (with_reducible refine (laws_markBranchS.calls kj47 (fun k_ => some k_ = (.slice Ao97 t816.length co97 : Value).ownBlock) (.slice Ao97 t816.length co97) t816 1 t828 t829 w _ ?side1 ?side2 A63.out).mono ?_); (case side1 => repeat (first | (with_reducible first | exact HB.out | apply below_alloc | apply pw_below_drewN | apply below_drew1 | refine below_set ?_ GE799.out) | exact HB.out)); (case side2 => exact Kd.R_tight rfl HO_11.out); rintro e w98 ⟨rfl, hy0, hb, hkp⟩; refine ⟨_, rfl, ?_⟩; have n0_ := Aside0.mk (Kd.R_mono (ok' := fun k_ => some k_ ≠ (.slice Ao97 t816.length co97 : Value).ownBlock) (Kd.R_keptB (HO_8.out) hkp (fun k_ hk_ hs_ => (hk_) hs_)) (fun k_ hk_ => hk_.1)); have n1_ := Aside0.mk (Kd.R_reok rfl hy0 (fun k_ e_ => HO_11.out.1 k_ e_)); have n2_ := Aside0.mk (blk_kept (by (with_reducible repeat (first | refine blk_drewN ?_ _ | refine blk_drew ?_ | refine blk_alloc ?_ _)); exact BK799.out) hkp (fun hs_ => (fun e_ => (Kd.R_ne HO_11.out BK799.out (by decide)) e_) hs_)); have n3_ := Aside0.mk (hb); clear HO_8; clear HO_11; clear BK799; clear HB; have HO_8 := n0_; have HO_11 := n1_; have BK799 := n2_; have HB := n3_; clear n0_ n1_ n2_ n3_; (try clear hb); (try clear hkp); (try clear hy0)) | ((with_reducible refine gate_callee (f := 51) rfl ?_); refine goesL_ (some 82) rfl rfl Try.func51 (by kernel_rfl) rfl #[.slice Ao97 t829.length co97, .int .i64 1] rfl (by (try simp only [List.map_toArray, List.map_cons, List.map_nil]); first | done | (rw [show t829.length = t816.length from (Kd.R_reads' HO_11.out).1.symm] <;> rfl) | rfl | (simp only [List.length_drop, List.length_take]; rfl)) ?_; (with_reducible refine (laws_heldBranchS.calls kj47 _ _ t829 1 t830 _ ?side1 ?side2 A64.out).mono ?_); (case side1 => repeat (first | exact (Kd.R_reads' HO_11.out).2.2 | (with_reducible refine Kd.C_alloc ?_ _) | (with_reducible refine Kd.C_drewN ?_ _) | (with_reducible refine Kd.C_drew ?_))); (case side2 => rw [show t829.length = t816.length from (Kd.R_reads' HO_11.out).1.symm]; exact (Kd.R_reads' HO_11.out).2.1); rintro e w99 ⟨rfl, hb⟩; refine ⟨_, rfl, ?_⟩; have n0_ := Aside0.mk (Kd.R_below (by (with_reducible repeat (first | apply Kd.R_alloc | apply Kd.R_drewN | apply Kd.R_drew)); exact HO_8.out) hb); have n1_ := Aside0.mk (Kd.R_below (by (with_reducible repeat (first | apply Kd.R_alloc | apply Kd.R_drewN | apply Kd.R_drew)); exact HO_11.out) hb); have n2_ := Aside0.mk (blk_below (g := gb799) (o := .cells #[.string a2_0, .int .i64 a2_1] 69 (0, 0)) (by (with_reducible repeat (first | refine blk_drewN ?_ _ | refine blk_drew ?_ | refine blk_alloc ?_ _)); exact BK799.out) hb); have n3_ := Aside0.mk (below_step (by repeat (first | (with_reducible first | exact HB.out | apply below_alloc | apply pw_below_drewN | apply below_drew1 | refine below_set ?_ GE799.out) | exact HB.out)) hb); clear HO_8; clear HO_11; clear BK799; clear HB; have HO_8 := n0_; have HO_11 := n1_; have BK799 := n2_; have HB := n3_; clear n0_ n1_ n2_ n3_; (try clear hb); (try clear hb2); (try clear hk); (try clear hi)))
                        go_ret
                        exact ⟨by first | rfl | (simp [errW_none, errW_some] <;> rfl) | (simp [*, errW_none, errW_some] <;> rfl), by repeat (first | (with_reducible first | exact HB.out | apply below_alloc | apply pw_below_drewN | apply below_drew1 | refine below_set ?_ GE799.out) | exact HB.out)⟩
            · replace c46 := Bool.eq_false_iff.mpr c46
              subst c46
              have H1 : (some false) = some r := by rw [if_neg (show ¬ (false = true) by decide)] at H; exact H
              clear H
              have H := H1
              clear H1
              obtain rfl := Option.some.inj H
              go_wp2_with (first | ((with_reducible refine gate_callee (f := 25) rfl ?_); refine goesL_ (some 58) rfl rfl Try.func25 (by kernel_rfl) rfl #[.slice A0 l0.length c0] rfl (by (try simp only [List.map_toArray, List.map_cons, List.map_nil]); first | done | rfl | (simp only [List.length_drop, List.length_take]; rfl)) ?_; (with_reducible refine (laws_toBranchS.calls kj19 _ _ l0 t821 _ ?side1 ?side2 A44.out).mono ?_); (case side1 => repeat (first | exact (Kd.C_below HR0.out HB.out) | (with_reducible refine Kd.C_alloc ?_ _) | (with_reducible refine Kd.C_drewN ?_ _) | (with_reducible refine Kd.C_drew ?_))); (case side2 => exact HC0.out); rintro e w100 ⟨v822, rfl, ho0, hb⟩; refine ⟨_, rfl, ?_⟩; have n0_ := Aside0.mk (Kd.R_elder' (by (with_reducible repeat (first | apply Kd.R_alloc | apply Kd.R_drewN | apply Kd.R_drew)); exact HO_8.out) (Kd.R_base ho0) hb); have n1_ := Aside0.mk (Kd.R_elder' (by (with_reducible repeat (first | apply Kd.R_alloc | apply Kd.R_drewN | apply Kd.R_drew)); exact HO_10.out) (Kd.R_base ho0) hb); have n2_ := Aside0.mk (Kd.R_elder' (by (with_reducible repeat (first | apply Kd.R_alloc | apply Kd.R_drewN | apply Kd.R_drew)); exact HO_11.out) (Kd.R_base ho0) hb); have n3_ := Aside0.mk (Kd.R_lower (Kd.R_new' (Kd.R_new' (Kd.R_new' ho0 (Kd.R_lt (by (with_reducible repeat (first | apply Kd.R_alloc | apply Kd.R_drewN | apply Kd.R_drew)); exact HO_8.out))) (Kd.R_lt (by (with_reducible repeat (first | apply Kd.R_alloc | apply Kd.R_drewN | apply Kd.R_drew)); exact HO_10.out))) (Kd.R_lt (by (with_reducible repeat (first | apply Kd.R_alloc | apply Kd.R_drewN | apply Kd.R_drew)); exact HO_11.out))) (below_size (by repeat (first | (with_reducible first | exact HB.out | apply below_alloc | apply pw_below_drewN | apply below_drew1 | refine below_set ?_ GE799.out) | exact HB.out)))); have n4_ := Aside0.mk (blk_below (g := gb799) (o := .cells #[.string a2_0, .int .i64 a2_1] 69 (0, 0)) (by (with_reducible repeat (first | refine blk_drewN ?_ _ | refine blk_drew ?_ | refine blk_alloc ?_ _)); exact BK799.out) hb); have n5_ := Aside0.mk (below_step (by repeat (first | (with_reducible first | exact HB.out | apply below_alloc | apply pw_below_drewN | apply below_drew1 | refine below_set ?_ GE799.out) | exact HB.out)) hb); clear HO_8; clear HO_10; clear HO_11; clear BK799; clear HB; have HO_8 := n0_; have HO_10 := n1_; have HO_11 := n2_; have HO823 := n3_; have BK799 := n4_; have HB := n5_; clear n0_ n1_ n2_ n3_ n4_ n5_; (try clear hb); (try clear hb2); (try clear hk); (try clear hi); (try clear ho0); obtain ⟨Ao101, co101, eo101⟩ := Kd.R_slice HO823.out; subst eo101) | ((with_reducible refine gate_callee (f := 27) rfl ?_); refine goesL_ (some 59) rfl rfl Try.func27 (by kernel_rfl) rfl #[.slice Ao33 t811.length co33, .slice Ao101 t821.length co101] rfl (by (try simp only [List.map_toArray, List.map_cons, List.map_nil]); first | done | rfl | (simp only [List.length_drop, List.length_take]; rfl)) ?_; (with_reducible refine (laws_eqBranchS.calls kj19 _ _ t811 _ _ t821 false _ ?side1 ?side2 ?side3 ?side4 A45.out).mono ?_); (case side1 => repeat (first | exact (Kd.R_reads' HO_10.out).2.2 | (with_reducible refine Kd.C_alloc ?_ _) | (with_reducible refine Kd.C_drewN ?_ _) | (with_reducible refine Kd.C_drew ?_))); (case side2 => exact (Kd.R_reads' HO_10.out).2.1); (case side3 => repeat (first | exact (Kd.R_reads' HO823.out).2.2 | (with_reducible refine Kd.C_alloc ?_ _) | (with_reducible refine Kd.C_drewN ?_ _) | (with_reducible refine Kd.C_drew ?_))); (case side4 => exact (Kd.R_reads' HO823.out).2.1); rintro e w102 ⟨rfl, hb⟩; refine ⟨_, rfl, ?_⟩; have n0_ := Aside0.mk (Kd.R_below (by (with_reducible repeat (first | apply Kd.R_alloc | apply Kd.R_drewN | apply Kd.R_drew)); exact HO_8.out) hb); have n1_ := Aside0.mk (Kd.R_below (by (with_reducible repeat (first | apply Kd.R_alloc | apply Kd.R_drewN | apply Kd.R_drew)); exact HO_10.out) hb); have n2_ := Aside0.mk (Kd.R_below (by (with_reducible repeat (first | apply Kd.R_alloc | apply Kd.R_drewN | apply Kd.R_drew)); exact HO_11.out) hb); have n3_ := Aside0.mk (Kd.R_below (by (with_reducible repeat (first | apply Kd.R_alloc | apply Kd.R_drewN | apply Kd.R_drew)); exact HO823.out) hb); have n4_ := Aside0.mk (blk_below (g := gb799) (o := .cells #[.string a2_0, .int .i64 a2_1] 69 (0, 0)) (by (with_reducible repeat (first | refine blk_drewN ?_ _ | refine blk_drew ?_ | refine blk_alloc ?_ _)); exact BK799.out) hb); have n5_ := Aside0.mk (below_step (by repeat (first | (with_reducible first | exact HB.out | apply below_alloc | apply pw_below_drewN | apply below_drew1 | refine below_set ?_ GE799.out) | exact HB.out)) hb); clear HO_8; clear HO_10; clear HO_11; clear HO823; clear BK799; clear HB; have HO_8 := n0_; have HO_10 := n1_; have HO_11 := n2_; have HO823 := n3_; have BK799 := n4_; have HB := n5_; clear n0_ n1_ n2_ n3_ n4_ n5_; (try clear hb); (try clear hb2); (try clear hk); (try clear hi)))
              go_ret
              exact ⟨by first | rfl | (simp [errW_none, errW_some] <;> rfl) | (simp [*, errW_none, errW_some] <;> rfl), by repeat (first | (with_reducible first | exact HB.out | apply below_alloc | apply pw_below_drewN | apply below_drew1 | refine below_set ?_ GE799.out) | exact HB.out)⟩

end Go.Proofs.Ytbjfbmoeboagaaa.P
