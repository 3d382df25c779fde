-- The functions of the seat as plain Lean functions, made by the kit's print.py for all laws at once. Not trusted: Lean checks it.
import Derived.Test.YtglfoihpgpdooabPx0
import Derived.Test.YtglfoihpgpdooabPx1
namespace Go.Proofs.Ytglfoihpgpdooab.P
open Go.RowKit Go.Proofs.YtglfoihpgpdooabW.PrintWords Go.Proofs.YtglfoihpgpdooabW.PrintLast Go.Proofs.YtglfoihpgpdooabW.PrintMore
attribute [local go_sem] max2_int min2_int max_two min_two max_three min_three max_four min_four   -- for this text's walks alone
set_option linter.unusedVariables false
set_option linter.unusedSimpArgs false
/-! ### spec_SetBranch: function 62 -/
mutual
def spec_SetBranch.j1 : Nat → List (S35) → Int → Int → ByteArray → Int → Option ((List (S35)) × Bool)
 | 0, _, _, _, _, _ => none
 | k + 1, x0, x1, x8, x263000, x263001 => if 0 ≤ x8 then (if x8 ≤ (x0.length : Int) then ((some (x0.drop (x8 : Int).toNat : List (S35))).bind fun y268 => (if x8 < (x0.length : Int) then (spec_SetBranch.j2 k x0 x1 x8 y268 (((rd_T35 x0 x8).f0).toList == x263000.toList) x263000 x263001) else (spec_SetBranch.j2 k x0 x1 x8 y268 false x263000 x263001))) else (none)) else (none)
def spec_SetBranch.j2 : Nat → List (S35) → Int → Int → List (S35) → Bool → ByteArray → Int → Option ((List (S35)) × Bool)
 | 0, _, _, _, _, _, _, _ => none
 | k + 1, x0, x1, x8, x9, x48, x263000, x263001 => if x48 = true then (if 0 ≤ (wrap64 (x8 + 1)) then (if (wrap64 (x8 + 1)) ≤ (x0.length : Int) then (spec_SetBranch.j3 k x0 x1 x8 (x0.drop ((wrap64 (x8 + 1)) : Int).toNat) x263000 x263001) else (none)) else (none)) else (spec_SetBranch.j3 k x0 x1 x8 x9 x263000 x263001)
def spec_SetBranch.j3 : Nat → List (S35) → Int → Int → List (S35) → ByteArray → Int → Option ((List (S35)) × Bool)
 | 0, _, _, _, _, _, _ => none
 | k + 1, x0, x1, x8, x9, x263000, x263001 => (some (([] : List (S35)) : List (S35))).bind fun y279 => (if 0 ≤ x8 then (if x8 ≤ (x0.length : Int) then ((some (x0.take (x8 : Int).toNat : List (S35))).bind fun y282 => (if y279.length + y282.length < 5864062014805 then ((some (y279 ++ y282 : List (S35))).bind fun y287 => ((some (([(⟨x263000, x263001⟩ : S35)] : List (S35)) : List (S35))).bind fun y290 => (if y287.length + y290.length < 5864062014805 then ((some (y287 ++ y290 : List (S35))).bind fun y293 => (if y293.length + x9.length < 5864062014805 then ((some (y293 ++ x9 : List (S35))).bind fun y296 => ((spec_BranchesValid.f k y296 x1).bind fun t299 => (if t299 = true then (some (y296, true)) else ((some (([] : List (S35)) : List (S35))).bind fun y300 => (if y300.length + x0.length < 5864062014805 then (some ((y300 ++ x0), false)) else (none)))))) else (none))) else (none)))) else (none))) else (none)) else (none))
def spec_SetBranch.l0 : Nat → List (S35) → Int → Int → ByteArray → Int → Option ((List (S35)) × Bool)
 | 0, _, _, _, _, _ => none
 | k + 1, x0, x1, x8, x263000, x263001 => if x8 < (x0.length : Int) then (if 0 ≤ x8 then (if (Op.bytesLess (((rd_T35 x0 x8).f0).toList) x263000.toList) = true then (spec_SetBranch.l0 k x0 x1 (wrap64 (x8 + 1)) x263000 x263001) else (spec_SetBranch.j1 k x0 x1 x8 x263000 x263001)) else (none)) else (spec_SetBranch.j1 k x0 x1 x8 x263000 x263001)
end
def spec_SetBranch.f (k : Nat) (l0 : List (S35)) (a1 : Int) (a2_0 : ByteArray) (a2_1 : Int) : Option ((List (S35)) × Bool) := (spec_BranchesValid.f k l0 a1).bind fun t263 => (if t263 = true then (spec_SetBranch.l0 k l0 a1 0 a2_0 a2_1) else (some ((([] : List (S35))), false)))
theorem spec_SetBranch.mono_l : ∀ k, (∀ y0 y1 y2 y3 y4, LeO (spec_SetBranch.j1 k y0 y1 y2 y3 y4) (spec_SetBranch.j1 (k + 1) y0 y1 y2 y3 y4)) ∧ (∀ y0 y1 y2 y3 y4 y5 y6, LeO (spec_SetBranch.j2 k y0 y1 y2 y3 y4 y5 y6) (spec_SetBranch.j2 (k + 1) y0 y1 y2 y3 y4 y5 y6)) ∧ (∀ y0 y1 y2 y3 y4 y5, LeO (spec_SetBranch.j3 k y0 y1 y2 y3 y4 y5) (spec_SetBranch.j3 (k + 1) y0 y1 y2 y3 y4 y5)) ∧ (∀ y0 y1 y2 y3 y4, LeO (spec_SetBranch.l0 k y0 y1 y2 y3 y4) (spec_SetBranch.l0 (k + 1) y0 y1 y2 y3 y4))
 | 0 => ⟨fun _ _ _ _ _ r h => by simp [spec_SetBranch.j1] at h, fun _ _ _ _ _ _ _ r h => by simp [spec_SetBranch.j2] at h, fun _ _ _ _ _ _ r h => by simp [spec_SetBranch.j3] at h, fun _ _ _ _ _ r h => by simp [spec_SetBranch.l0] at h⟩
 | k + 1 => by
  obtain ⟨ih0, ih1, ih2, ih3⟩ := spec_SetBranch.mono_l k
  refine ⟨?_, ?_, ?_, ?_⟩
  ·intro y0 y1 y2 y3 y4
   unfold spec_SetBranch.j1
   repeat' first
   | (with_reducible exact ih0 _ _ _ _ _)
   | (with_reducible exact ih1 _ _ _ _ _ _ _)
   | (with_reducible exact ih2 _ _ _ _ _ _)
   | (with_reducible exact ih3 _ _ _ _ _)
   | (with_reducible exact spec_BranchesValid.mono _ _ _)
   | (with_reducible exact LeO.refl _)
   | (with_reducible exact LeO.none _)
   | (with_reducible refine LeO.ite ?_ ?_)
   | (with_reducible refine LeO.bind ?_ (fun _ => ?_))
   | exact ih0 _ _ _ _ _
   | exact ih1 _ _ _ _ _ _ _
   | exact ih2 _ _ _ _ _ _
   | exact ih3 _ _ _ _ _
   | exact spec_BranchesValid.mono _ _ _
   | exact LeO.none _
   | refine LeO.ite ?_ ?_
   | refine LeO.bind ?_ (fun _ => ?_)
  ·intro y0 y1 y2 y3 y4 y5 y6
   unfold spec_SetBranch.j2
   repeat' first
   | (with_reducible exact ih0 _ _ _ _ _)
   | (with_reducible exact ih1 _ _ _ _ _ _ _)
   | (with_reducible exact ih2 _ _ _ _ _ _)
   | (with_reducible exact ih3 _ _ _ _ _)
   | (with_reducible exact spec_BranchesValid.mono _ _ _)
   | (with_reducible exact LeO.refl _)
   | (with_reducible exact LeO.none _)
   | (with_reducible refine LeO.ite ?_ ?_)
   | (with_reducible refine LeO.bind ?_ (fun _ => ?_))
   | exact ih0 _ _ _ _ _
   | exact ih1 _ _ _ _ _ _ _
   | exact ih2 _ _ _ _ _ _
   | exact ih3 _ _ _ _ _
   | exact spec_BranchesValid.mono _ _ _
   | exact LeO.none _
   | refine LeO.ite ?_ ?_
   | refine LeO.bind ?_ (fun _ => ?_)
  ·intro y0 y1 y2 y3 y4 y5
   unfold spec_SetBranch.j3
   repeat' first
   | (with_reducible exact ih0 _ _ _ _ _)
   | (with_reducible exact ih1 _ _ _ _ _ _ _)
   | (with_reducible exact ih2 _ _ _ _ _ _)
   | (with_reducible exact ih3 _ _ _ _ _)
   | (with_reducible exact spec_BranchesValid.mono _ _ _)
   | (with_reducible exact LeO.refl _)
   | (with_reducible exact LeO.none _)
   | (with_reducible refine LeO.ite ?_ ?_)
   | (with_reducible refine LeO.bind ?_ (fun _ => ?_))
   | exact ih0 _ _ _ _ _
   | exact ih1 _ _ _ _ _ _ _
   | exact ih2 _ _ _ _ _ _
   | exact ih3 _ _ _ _ _
   | exact spec_BranchesValid.mono _ _ _
   | exact LeO.none _
   | refine LeO.ite ?_ ?_
   | refine LeO.bind ?_ (fun _ => ?_)
  ·intro y0 y1 y2 y3 y4
   unfold spec_SetBranch.l0
   repeat' first
   | (with_reducible exact ih0 _ _ _ _ _)
   | (with_reducible exact ih1 _ _ _ _ _ _ _)
   | (with_reducible exact ih2 _ _ _ _ _ _)
   | (with_reducible exact ih3 _ _ _ _ _)
   | (with_reducible exact spec_BranchesValid.mono _ _ _)
   | (with_reducible exact LeO.refl _)
   | (with_reducible exact LeO.none _)
   | (with_reducible refine LeO.ite ?_ ?_)
   | (with_reducible refine LeO.bind ?_ (fun _ => ?_))
   | exact ih0 _ _ _ _ _
   | exact ih1 _ _ _ _ _ _ _
   | exact ih2 _ _ _ _ _ _
   | exact ih3 _ _ _ _ _
   | exact spec_BranchesValid.mono _ _ _
   | exact LeO.none _
   | refine LeO.ite ?_ ?_
   | refine LeO.bind ?_ (fun _ => ?_)
theorem spec_SetBranch.mono : ∀ a0 a1 a2 a3 k, LeO (spec_SetBranch.f k a0 a1 a2 a3) (spec_SetBranch.f (k + 1) a0 a1 a2 a3) := by
 intro a0 a1 a2 a3 k
 obtain ⟨ih0, ih1, ih2, ih3⟩ := spec_SetBranch.mono_l k
 unfold spec_SetBranch.f
 repeat' first
   | (with_reducible exact ih0 _ _ _ _ _)
   | (with_reducible exact ih1 _ _ _ _ _ _ _)
   | (with_reducible exact ih2 _ _ _ _ _ _)
   | (with_reducible exact ih3 _ _ _ _ _)
   | (with_reducible exact spec_BranchesValid.mono _ _ _)
   | (with_reducible exact LeO.refl _)
   | (with_reducible exact LeO.none _)
   | (with_reducible refine LeO.ite ?_ ?_)
   | (with_reducible refine LeO.bind ?_ (fun _ => ?_))
   | exact ih0 _ _ _ _ _
   | exact ih1 _ _ _ _ _ _ _
   | exact ih2 _ _ _ _ _ _
   | exact ih3 _ _ _ _ _
   | exact spec_BranchesValid.mono _ _ _
   | exact LeO.none _
   | refine LeO.ite ?_ ?_
   | refine LeO.bind ?_ (fun _ => ?_)
def spec_SetBranch.T4 : Bool × List (List Nat × List Nat) := (true, [([], []), ([], []), ([1], [1]), ([0, 2], [0, 2]), ([3], [3]), ([4], [4]), ([4], [4]), ([5, 6, 4], [4, 5, 6]), ([7, 4], [4, 7]), ([8, 4], [4, 8]), ([4], [4]), ([10, 4], [4, 10]), ([9, 11, 4], [4, 9, 11]), ([4, 12], [4, 12])])
def spec_SetBranch.B4 : List Nat := [0, 0, 2, 7, 15, 31, 31, 127, 255, 511, 31, 1055, 4095, 8191]
theorem spec_SetBranch.tab4 : rtab .any (opsOf Try.f62 4) = spec_SetBranch.T4 := by kernel_rfl
theorem spec_SetBranch.bits4 : waitsOk spec_SetBranch.T4.2 spec_SetBranch.B4 = true := by kernel_rfl
def spec_SetBranch.T7 : Bool × List (List Nat × List Nat) := (true, [([], []), ([], []), ([1], [1]), ([0, 2], [0, 2]), ([3], [3]), ([4], [4]), ([4], [4]), ([5, 6, 4], [4, 5, 6]), ([7, 4], [4, 7]), ([8, 4], [4, 8]), ([4], [4]), ([10, 4], [4, 10]), ([9, 11, 4], [4, 9, 11]), ([4, 12], [4, 12])])
def spec_SetBranch.B7 : List Nat := [0, 0, 2, 7, 15, 31, 31, 127, 255, 511, 31, 1055, 4095, 8191]
theorem spec_SetBranch.tab7 : rtab .any (opsOf Try.f62 7) = spec_SetBranch.T7 := by kernel_rfl
theorem spec_SetBranch.bits7 : waitsOk spec_SetBranch.T7.2 spec_SetBranch.B7 = true := by kernel_rfl
def spec_SetBranch.T9 : Bool × List (List Nat × List Nat) := (true, [([], []), ([], []), ([], []), ([1, 2], [1, 2]), ([0, 3], [0, 3]), ([], []), ([5], [5]), ([4, 6, 4], [4, 6]), ([], []), ([7, 8, 7], [7, 8]), ([9, 9, 0, 1, 2, 3, 4, 5, 6, 7, 8, 9], [9])])
def spec_SetBranch.B9 : List Nat := [0, 0, 0, 6, 15, 0, 32, 127, 0, 511, 1023]
theorem spec_SetBranch.tab9 : rtab .any (opsOf Try.f62 9) = spec_SetBranch.T9 := by kernel_rfl
theorem spec_SetBranch.bits9 : waitsOk spec_SetBranch.T9.2 spec_SetBranch.B9 = true := by kernel_rfl
set_option maxHeartbeats 8000000 in
set_option maxRecDepth 100000 in
theorem spec_SetBranch.calls (k : Nat) (P0_ : Nat → Prop) (A0 : Option Addr) (c0 : Nat) (l0 : List (S35)) (a1 : Int) (a2_0 : ByteArray) (a2_1 : Int) (r1 : List (S35)) (r2 : Bool) (w : World) (hs0 : Kd.V k35 35 w w.heap.size (fun k_ => P0_ k_) (.slice A0 l0.length c0) l0) (h : spec_SetBranch.f k l0 a1 a2_0 a2_1 = some (r1, r2)) :
  Calls Try.prog 62 #[.slice A0 l0.length c0, .int .i64 a1, .agg #[.string a2_0, .int .i64 a2_1]] w fun e w' => ∃ v0_ : Value, e = .returned (.tuple #[v0_, .bool r2]) ∧ Kd.R k35 35 w' w.heap.size (fun k_ => (w.heap.size ≤ k_)) v0_ r1 ∧ Below w.heap.size w w' := by
 have hu35 := Try.underlying35
 have HO0 := Aside0.mk (show Kd.V k35 35 w w.heap.size (fun k_ => (P0_ k_ ∨ w.heap.size ≤ k_)) (.slice A0 l0.length c0) l0 from Kd.V_mono hs0 (fun k_ hk => .inl hk))
 have HB := Aside0.mk (Below.refl w.heap.size w)
 have H : ((spec_BranchesValid.f k l0 a1).bind fun t263 => (if t263 = true then (spec_SetBranch.l0 k l0 a1 0 a2_0 a2_1) else (some ((([] : List (S35))), false)))) = some (r1, r2) := h
 clear h
 replace H := Option.bind_eq_some_iff.mp H
 obtain ⟨t263, A40, H⟩ := H
 replace H : (if t263 = true then (spec_SetBranch.l0 k l0 a1 0 a2_0 a2_1) else (some ((([] : List (S35))), false))) = some (r1, r2) := H
 have A4 := Aside0.mk A40
 clear A40
 by_cases c5 : t263 = true
 ·subst c5
  have H1 : (spec_SetBranch.l0 k l0 a1 0 a2_0 a2_1) = some (r1, r2) := by rw [if_pos rfl] at H; exact H
  clear H
  have H := H1
  clear H1
  have HC6 := Aside0.mk H
  clear H
  go_enter Try.func62, Try.ntmps62
  go_upto_block 0 with (first | ((with_reducible refine gate_dst (N := 5) rfl ?_); refine box_event ?hg (N := 5) ?hd (cs := #[.string a2_0, .int .i64 a2_1]) (t := 35) ?hr ?_; (case hd => rfl); (case hg => rfl); (case hr => first | (go_simp; done) | (go_simp; rfl)); intro gb262 hg w7 hbox hb; have n0_ := Aside0.mk (Kd.V_below (Kd.V_elderB (by (with_reducible repeat (first | apply Kd.V_alloc | apply Kd.V_drewN | apply Kd.V_drew)); exact HO0.out) gb262 (Nat.le_of_eq hg.symm)) hb); have n1_ := Aside0.mk (below_step hb_ hb); have n2_ := Aside0.mk (hbox); have n3_ := Aside0.mk ((by rw [hg]; exact (below_size hb_) : w.heap.size ≤ gb262)); have n4_ := Aside0.mk ((by rw [hg]; exact (below_size hb_) : w.heap.size ≤ gb262)); clear HO0; clear HB; have HO0 := n0_; have HB := n1_; have BK262 := n2_; have GW262 := n3_; have GE262 := n4_; clear n0_ n1_ n2_ n3_ n4_; clear hb hbox hg) | ((with_reducible refine gate_callee (f := 15) rfl ?_); refine goesL_ (some 13) rfl rfl Try.func15 (by kernel_rfl) rfl #[.slice A0 l0.length c0, .int .i64 a1] rfl sl_ ?_; (with_reducible refine (spec_BranchesValid.calls k _ _ l0 a1 true _ ?side1 ?side2 A4.out).mono ?_); (case side1 => exact kC_ ((Kd.V_reads' HO0.out).2.2)); (case side2 => exact (Kd.V_reads' HO0.out).2.1); rintro e w8 ⟨rfl, hb⟩; refine ⟨_, rfl, ?_⟩; have n0_ := Aside0.mk (Kd.V_below (by (with_reducible repeat (first | apply Kd.V_alloc | apply Kd.V_drewN | apply Kd.V_drew)); exact HO0.out) hb); have n1_ := Aside0.mk (blk_below (g := gb262) (o := .cells #[.string a2_0, .int .i64 a2_1] 35 (0, 0)) (kB_ BK262.out) hb); have n2_ := Aside0.mk (below_step (by repeat (first | (with_reducible first | exact HB.out | apply below_alloc | apply pw_below_drewN | apply below_drew1 | refine below_set ?_ GE262.out) | exact HB.out)) hb); clear HO0; clear BK262; clear HB; have HO0 := n0_; have BK262 := n1_; have HB := n2_; clear n0_ n1_ n2_; (try clear hb)))
  (try simp only [Act.put, List.setIfInBounds_toArray, List.set_cons_zero, List.set_cons_succ])
  go_cut [8] (fun v8 wc => ∃ (kq : Nat) (x8_5 : Int), v8 = .int .i64 x8_5 ∧ Aside0 (spec_SetBranch.j1 kq l0 a1 x8_5 a2_0 a2_1 = some (r1, r2)) ∧ Aside0 (kq ≤ k) ∧ Aside0 (Kd.V k35 35 wc w.heap.size (fun k_ => (P0_ k_ ∨ w.heap.size ≤ k_) ∧ k_ ≠ gb262) (.slice A0 l0.length c0) l0) ∧ Aside0 (wc.heap[gb262]? = some (.cells #[.string a2_0, .int .i64 a2_1] 35 (0, 0))) ∧ Aside0 (Below w.heap.size w wc))
  case first =>
   have H := HC6.out
   clear HC6
   have H' := Aside0.mk H
   clear H
   go_wp2
   go_loopg [8] k (fun kq v8 w' => ∃ (x8_1 : Int), v8 = .int .i64 x8_1 ∧ Aside0 (spec_SetBranch.l0 kq l0 a1 x8_1 a2_0 a2_1 = some (r1, r2)) ∧ Aside0 (kq ≤ k) ∧ Aside0 (Kd.V k35 35 w' w.heap.size (fun k_ => (P0_ k_ ∨ w.heap.size ≤ k_) ∧ k_ ≠ gb262) (.slice A0 l0.length c0) l0) ∧ Aside0 (w'.heap[gb262]? = some (.cells #[.string a2_0, .int .i64 a2_1] 35 (0, 0))) ∧ Aside0 (Below w.heap.size w w'))
   case atStart => exact ⟨(0), (by first | rfl | (simp; done) | (simp [*]; done)), H', ⟨Nat.le_refl _⟩, ⟨by (with_reducible repeat (first | apply Kd.V_alloc | apply Kd.V_drewN | apply Kd.V_drew)); exact HO0.out⟩, ⟨by (with_reducible repeat (first | refine blk_drewN ?_ _ | refine blk_drew ?_ | refine blk_alloc ?_ _)); exact BK262.out⟩, ⟨by repeat (first | (with_reducible first | exact HB.out | apply below_alloc | apply pw_below_drewN | apply below_drew1 | refine below_set ?_ GE262.out) | exact HB.out)⟩⟩
   case round =>
    clear H'
    try clear c1
    try clear p2
    try clear c5
    try clear c6
    obtain ⟨x8_1, rfl, HA, HK1, HO_0, BK262, HB⟩ := hrel
    cases gk with
    | zero => exact absurd HA.out (by simp [spec_SetBranch.l0])
    | succ k1 =>
     have H := HA.out
     clear HA
     simp only [spec_SetBranch.l0] at H
     by_cases c9 : x8_1 < (l0.length : Int)
     ·rw [if_pos c9] at H
      have c9b0 : decide (x8_1 < (l0.length : Int)) = true := decide_eq_true c9
      clear c9
      (first | rw [c9b0] | (simp only [i64_w, i32_w]; rw [c9b0]) | skip)
      by_cases c10 : 0 ≤ x8_1
      ·rw [if_pos c10] at H
       have c10b0 : decide (0 ≤ x8_1) = true := decide_eq_true c10
       clear c10
       by_cases c11 : (Op.bytesLess (((rd_T35 l0 x8_1).f0).toList) a2_0.toList) = true
       ·rw [if_pos c11] at H
        have c11b0 : (Op.bytesLess (((rd_T35 l0 x8_1).f0).toList) a2_0.toList) = true := c11
        clear c11
        have H' := Aside0.mk H
        clear H
        try go_wp2
        have n0_ := Aside0.mk (Kd.V_drew HO_0.out)
        have n1_ := Aside0.mk (blk_drew BK262.out)
        have n2_ := Aside0.mk (below_drew1 HB.out)
        clear HO_0
        clear BK262
        clear HB
        have HO_0 := n0_
        have BK262 := n1_
        have HB := n2_
        clear n0_ n1_ n2_
        have p267 : 0 ≤ (x8_1 : Int) := of_decide_eq_true ma_
        have q267 : x8_1 < (l0.length : Int) := of_decide_eq_true ma_
        obtain ⟨ad267, e267, hx267_0, hx267_1⟩ := at_T35 (Kd.V_reads' HO_0.out).2.2 x8_1 p267 q267
        cases e267
        replace p267 := eq_true p267
        replace q267 := eq_true q267
        refine start_ (n := 14) (S := fun w' => w'.cell? ⟨gb262, 0, none⟩ = some (.string a2_0) ∧ w'.cell? ⟨gb262, 1, none⟩ = some (.int .i64 a2_1) ∧ w'.cell? (ad267.add ((x8_1).toNat * 2)) = some (.string ((rd_T35 l0 x8_1).f0)) ∧ w'.cell? ⟨(ad267.add ((x8_1).toNat * 2)).block, (ad267.add ((x8_1).toNat * 2)).off + 1, none⟩ = some (.int .i64 ((rd_T35 l0 x8_1).f1))) (ds := []) (tf_ 0 14) (by kernel_rfl) rfl rfl ⟨(blk_cell BK262.out 0).trans rfl, (blk_cell BK262.out 1).trans rfl, hx267_0, hx267_1⟩ (fun hHeld => ?_); refine with_tabW spec_SetBranch.tab4 spec_SetBranch.bits4 (fun HT_ HW_ => ?_)
        generalize wr.drew = w12 at HO_0 BK262 HB hx267_0 hx267_1 hHeld ⊢
        refine pa_ (i := 0) (N := some 16) (tf_ 1 13) ?_
        refine pa_ (i := 1) (N := some 17) (tf_ 2 12) ?_
        refine pa_ (i := 2) (N := some 18) (tf_ 3 11) ?_
        refine pa_ (i := 3) (N := some 19) (tf_ 4 10) ?_
        refine pa_ (i := 4) (N := some 20) (tf_ 5 9) ?_
        refine pa_ (i := 5) (N := some 21) (tf_ 6 8) ?_
        refine pa_ (i := 6) (N := some 22) (tf_ 7 7) ?_
        refine pa_ (i := 7) (N := some 23) (tf_ 8 6) ?_
        refine pa_ (i := 8) (N := some 24) (tf_ 9 5) ?_
        refine pure_ (i := 10) (N := some 26) (v := ?_) (a' := ?_) #[true, true, true, true, true, true, true, true, true, false, true, false, false, false] rfl rfl (any_of HT_.out (by kernel_rfl)) (fun _ _ _ h => h) (Or.inl ⟨by rfl, ?_⟩) ?_ ?_; rotate_left; (intro w'; go_simp; with_reducible rfl); rotate_left; (simp only [Act.put, List.setIfInBounds_toArray, List.set_cons_zero, List.set_cons_succ, i64_w, i32_w]; rfl)
        refine take_ (i := 9) (N := some 25) (v := ?_) (a' := ?_) (tf_ 11 3) rfl rfl (take_ofW HT_.out HW_.out (by kernel_rfl)) (fun _ _ _ h => h) (Or.inl ⟨by rfl, ?_⟩) hHeld ?_ ?_
        rotate_left
        ·rintro w' ⟨s0, s1, s2, s3⟩
         go_simp
         with_reducible rfl
        rotate_left
        ·simp only [Act.put, List.setIfInBounds_toArray, List.set_cons_zero, List.set_cons_succ, i64_w, i32_w]
         rfl
        refine take_ (i := 11) (N := some 27) (v := ?_) (a' := ?_) (tf_ 12 2) rfl rfl (take_ofW HT_.out HW_.out (by kernel_rfl)) (fun _ _ _ h => h) (Or.inl ⟨by rfl, ?_⟩) hHeld ?_ ?_
        rotate_left
        ·rintro w' ⟨s0, s1, s2, s3⟩
         go_simp
         with_reducible rfl
        rotate_left
        ·simp only [Act.put, List.setIfInBounds_toArray, List.set_cons_zero, List.set_cons_succ, i64_w, i32_w]
         rfl
        refine pa_ (i := 12) (N := some 28) (tf_ 13 1) ?_
        refine pa_ (i := 13) (N := some 29) (tf_ 14 0) ?_
        refine done_ (done_of HT_.out (by kernel_rfl)) ?_
        try go_wp2
        go_roundg k1
        case measure => have := HK1.out; omega
        case rel => exact ⟨(wrap64 (x8_1 + 1)), (by first | rfl | (simp; done) | (simp [*]; done)), H', ⟨by have := HK1.out; omega⟩, ⟨by (with_reducible repeat (first | apply Kd.V_alloc | apply Kd.V_drewN | apply Kd.V_drew)); exact HO_0.out⟩, ⟨by (with_reducible repeat (first | refine blk_drewN ?_ _ | refine blk_drew ?_ | refine blk_alloc ?_ _)); exact BK262.out⟩, ⟨by repeat (first | (with_reducible first | exact HB.out | apply below_alloc | apply pw_below_drewN | apply below_drew1 | refine below_set ?_ GE262.out) | exact HB.out)⟩⟩
       ·rw [if_neg c11] at H
        have c11b0 : (Op.bytesLess (((rd_T35 l0 x8_1).f0).toList) a2_0.toList) = false := by simpa using c11
        clear c11
        have H' := Aside0.mk H
        clear H
        try go_wp2
        have n0_ := Aside0.mk (Kd.V_drew HO_0.out)
        have n1_ := Aside0.mk (blk_drew BK262.out)
        have n2_ := Aside0.mk (below_drew1 HB.out)
        clear HO_0
        clear BK262
        clear HB
        have HO_0 := n0_
        have BK262 := n1_
        have HB := n2_
        clear n0_ n1_ n2_
        have p267 : 0 ≤ (x8_1 : Int) := of_decide_eq_true ma_
        have q267 : x8_1 < (l0.length : Int) := of_decide_eq_true ma_
        obtain ⟨ad267, e267, hx267_0, hx267_1⟩ := at_T35 (Kd.V_reads' HO_0.out).2.2 x8_1 p267 q267
        cases e267
        replace p267 := eq_true p267
        replace q267 := eq_true q267
        refine start_ (n := 14) (S := fun w' => w'.cell? ⟨gb262, 0, none⟩ = some (.string a2_0) ∧ w'.cell? ⟨gb262, 1, none⟩ = some (.int .i64 a2_1) ∧ w'.cell? (ad267.add ((x8_1).toNat * 2)) = some (.string ((rd_T35 l0 x8_1).f0)) ∧ w'.cell? ⟨(ad267.add ((x8_1).toNat * 2)).block, (ad267.add ((x8_1).toNat * 2)).off + 1, none⟩ = some (.int .i64 ((rd_T35 l0 x8_1).f1))) (ds := []) (tf_ 0 14) (by kernel_rfl) rfl rfl ⟨(blk_cell BK262.out 0).trans rfl, (blk_cell BK262.out 1).trans rfl, hx267_0, hx267_1⟩ (fun hHeld => ?_); refine with_tabW spec_SetBranch.tab4 spec_SetBranch.bits4 (fun HT_ HW_ => ?_)
        generalize wr.drew = w13 at HO_0 BK262 HB hx267_0 hx267_1 hHeld ⊢
        refine pa_ (i := 0) (N := some 16) (tf_ 1 13) ?_
        refine pa_ (i := 1) (N := some 17) (tf_ 2 12) ?_
        refine pa_ (i := 2) (N := some 18) (tf_ 3 11) ?_
        refine pa_ (i := 3) (N := some 19) (tf_ 4 10) ?_
        refine pa_ (i := 4) (N := some 20) (tf_ 5 9) ?_
        refine pa_ (i := 5) (N := some 21) (tf_ 6 8) ?_
        refine pa_ (i := 6) (N := some 22) (tf_ 7 7) ?_
        refine pa_ (i := 7) (N := some 23) (tf_ 8 6) ?_
        refine pa_ (i := 8) (N := some 24) (tf_ 9 5) ?_
        refine pure_ (i := 10) (N := some 26) (v := ?_) (a' := ?_) #[true, true, true, true, true, true, true, true, true, false, true, false, false, false] rfl rfl (any_of HT_.out (by kernel_rfl)) (fun _ _ _ h => h) (Or.inl ⟨by rfl, ?_⟩) ?_ ?_; rotate_left; (intro w'; go_simp; with_reducible rfl); rotate_left; (simp only [Act.put, List.setIfInBounds_toArray, List.set_cons_zero, List.set_cons_succ, i64_w, i32_w]; rfl)
        refine take_ (i := 9) (N := some 25) (v := ?_) (a' := ?_) (tf_ 11 3) rfl rfl (take_ofW HT_.out HW_.out (by kernel_rfl)) (fun _ _ _ h => h) (Or.inl ⟨by rfl, ?_⟩) hHeld ?_ ?_
        rotate_left
        ·rintro w' ⟨s0, s1, s2, s3⟩
         go_simp
         with_reducible rfl
        rotate_left
        ·simp only [Act.put, List.setIfInBounds_toArray, List.set_cons_zero, List.set_cons_succ, i64_w, i32_w]
         rfl
        refine take_ (i := 11) (N := some 27) (v := ?_) (a' := ?_) (tf_ 12 2) rfl rfl (take_ofW HT_.out HW_.out (by kernel_rfl)) (fun _ _ _ h => h) (Or.inl ⟨by rfl, ?_⟩) hHeld ?_ ?_
        rotate_left
        ·rintro w' ⟨s0, s1, s2, s3⟩
         go_simp
         with_reducible rfl
        rotate_left
        ·simp only [Act.put, List.setIfInBounds_toArray, List.set_cons_zero, List.set_cons_succ, i64_w, i32_w]
         rfl
        refine pa_ (i := 12) (N := some 28) (tf_ 13 1) ?_
        refine pa_ (i := 13) (N := some 29) (tf_ 14 0) ?_
        refine done_ (done_of HT_.out (by kernel_rfl)) ?_
        try go_wp2
        go_meet
        case rel => exact ⟨_, (x8_1), (by first | rfl | (simp; done) | (simp [*]; done)), H', ⟨by have := HK1.out; first | omega | exact Nat.le_refl _⟩, ⟨by (with_reducible repeat (first | apply Kd.V_alloc | apply Kd.V_drewN | apply Kd.V_drew)); exact HO_0.out⟩, ⟨by (with_reducible repeat (first | refine blk_drewN ?_ _ | refine blk_drew ?_ | refine blk_alloc ?_ _)); exact BK262.out⟩, ⟨by repeat (first | (with_reducible first | exact HB.out | apply below_alloc | apply pw_below_drewN | apply below_drew1 | refine below_set ?_ GE262.out) | exact HB.out)⟩⟩
      ·rw [if_neg c10] at H
       exact absurd H (by simp)
     ·rw [if_neg c9] at H
      have c9b0 : decide (x8_1 < (l0.length : Int)) = false := decide_eq_false c9
      clear c9
      (first | rw [c9b0] | (simp only [i64_w, i32_w]; rw [c9b0]) | skip)
      have H' := Aside0.mk H
      clear H
      try go_wp2
      have n0_ := Aside0.mk (Kd.V_drew HO_0.out)
      have n1_ := Aside0.mk (blk_drew BK262.out)
      have n2_ := Aside0.mk (below_drew1 HB.out)
      clear HO_0
      clear BK262
      clear HB
      have HO_0 := n0_
      have BK262 := n1_
      have HB := n2_
      clear n0_ n1_ n2_
      refine start_ (n := 14) (S := fun w' => True) (ds := []) (tf_ 0 14) (by kernel_rfl) rfl rfl trivial (fun hHeld => ?_); refine with_tabW spec_SetBranch.tab4 spec_SetBranch.bits4 (fun HT_ HW_ => ?_)
      generalize wr.drew = w14 at HO_0 BK262 HB hHeld ⊢
      refine pa_ (i := 0) (N := some 16) (tf_ 1 13) ?_
      refine pa_ (i := 1) (N := some 17) (tf_ 2 12) ?_
      refine pa_ (i := 2) (N := some 18) (tf_ 3 11) ?_
      refine pa_ (i := 3) (N := some 19) (tf_ 4 10) ?_
      refine pa_ (i := 4) (N := some 20) (tf_ 5 9) ?_
      refine pn_ (i := 5) (N := some 21) (tf_ 6 8) ?_
      refine pn_ (i := 6) (N := some 22) (tf_ 7 7) ?_
      refine pn_ (i := 7) (N := some 23) (tf_ 8 6) ?_
      refine pn_ (i := 8) (N := some 24) (tf_ 9 5) ?_
      refine pn_ (i := 9) (N := some 25) (tf_ 10 4) ?_
      refine pn_ (i := 10) (N := some 26) (tf_ 11 3) ?_
      refine pn_ (i := 11) (N := some 27) (tf_ 12 2) ?_
      refine pn_ (i := 12) (N := some 28) (tf_ 13 1) ?_
      refine pa_ (i := 13) (N := some 29) (tf_ 14 0) ?_
      refine done_ (done_of HT_.out (by kernel_rfl)) ?_
      try go_wp2
      go_meet
      case rel => exact ⟨_, (x8_1), (by first | rfl | (simp; done) | (simp [*]; done)), H', ⟨by have := HK1.out; first | omega | exact Nat.le_refl _⟩, ⟨by (with_reducible repeat (first | apply Kd.V_alloc | apply Kd.V_drewN | apply Kd.V_drew)); exact HO_0.out⟩, ⟨by (with_reducible repeat (first | refine blk_drewN ?_ _ | refine blk_drew ?_ | refine blk_alloc ?_ _)); exact BK262.out⟩, ⟨by repeat (first | (with_reducible first | exact HB.out | apply below_alloc | apply pw_below_drewN | apply below_drew1 | refine below_set ?_ GE262.out) | exact HB.out)⟩⟩
  case rest =>
   clear HC6
   try clear c1
   try clear p2
   try clear q2
   try clear hx2
   try clear c5
   try clear c6
   try clear p6
   try clear c9
   try clear c9b0
   try clear c10
   try clear c10b0
   try clear c11
   try clear c11b0
   try clear hx267_0
   try clear hx267_1
   try clear p2
   try clear p267
   try clear q267
   obtain ⟨kq, x8_5, rfl, HA, HJ5, HO_0, BK262, HB⟩ := hcut
   cases kq with
   | zero => exact absurd HA.out (by simp [spec_SetBranch.j1])
   | succ kj5 =>
    have H := HA.out
    clear HA
    simp only [spec_SetBranch.j1] at H
    by_cases c15 : 0 ≤ x8_5
    ·rw [if_pos c15] at H
     have c15b0 := eq_true c15
     have c15b1 : decide (0 ≤ x8_5) = true := decide_eq_true c15
     clear c15
     by_cases c16 : x8_5 ≤ (l0.length : Int)
     ·rw [if_pos c16] at H
      have c16b0 := eq_true c16
      have c16b1 : decide (x8_5 ≤ (l0.length : Int)) = true := decide_eq_true c16
      clear c16
      obtain ⟨y268, hy268⟩ : ∃ y_ : List (S35), y_ = (l0.drop (x8_5 : Int).toNat) := ⟨_, rfl⟩
      replace H : (if x8_5 < (l0.length : Int) then (spec_SetBranch.j2 kj5 l0 a1 x8_5 y268 (((rd_T35 l0 x8_5).f0).toList == a2_0.toList) a2_0 a2_1) else (spec_SetBranch.j2 kj5 l0 a1 x8_5 y268 false a2_0 a2_1)) = some (r1, r2) := by first | (rw [hy268]; with_reducible exact H) | (have H2_ := (Option.bind_some _ _).symm.trans H; rw [hy268]; with_reducible exact H2_) | (have H2_ := (Option.bind_some _ _).symm.trans H; with_reducible exact H2_) | with_reducible exact H | (rw [hy268]; exact H) | exact H
      have Ny268 := Aside0.mk hy268
      clear hy268
      have HC17 := Aside0.mk H
      clear H
      have q18 : (x8_5 : Int) ≤ ((l0.length : Int) : Int) := of_decide_eq_true ma_
      obtain ⟨i018, hi018, _, hsz18, _⟩ := info_parts info35
      have hroom18 : l0.length ≤ c0 := (Kd.V_reads' HO_0.out).2.1
      have hC18 : Kd.F k35 _ _ A0 l0.length l0 := (Kd.V_at (base := w.heap.size) HO_0.out).2.2
      have q018 : (0 : Int) ≤ (x8_5 : Int) := of_decide_eq_true ma_
      have hcut18 := cut_from (P := Try.prog) 30 35 .i64 Try.underlying30 hi018 2 hsz18 A0 l0.length c0 x8_5 q018 q18
      have hr18 := Kd.F_cut (m := (x8_5 : Int).toNat) (c := c0) hC18 (by omega) hroom18
      obtain ⟨A18, hA18⟩ : ∃ A1, A1 = (if c0 = (x8_5 : Int).toNat then A0 else (A0 : Option Addr).map (·.add ((x8_5 : Int).toNat * 2))) := ⟨_, rfl⟩
      obtain ⟨c18, hc18⟩ : ∃ c1, c1 = c0 - (x8_5 : Int).toNat := ⟨_, rfl⟩
      have hy18 : y268.length = l0.length - (x8_5 : Int).toNat := (by rw [Ny268.out, List.length_drop] <;> omega)
      rw [show (l0).drop (x8_5 : Int).toNat = y268 from Ny268.out.symm] at hr18
      replace hr18 : Kd.F k35 _ _ A18 y268.length y268 := (by rw [hA18]; exact hr18)
      rw [← hy18, ← hA18, ← hc18] at hcut18
      have HO272 := Aside0.mk (show Kd.V k35 35 _ w.heap.size _ (.slice A18 y268.length c18) y268 from Kd.V_mk (by rw [hy18, hc18]; exact Nat.sub_le_sub_right hroom18 _) hr18)
      have HC272 := Aside0.mk (show y268.length ≤ c18 from by rw [hy18, hc18]; exact Nat.sub_le_sub_right hroom18 _)
      clear hr18 hC18 hroom18 hi018 hsz18 hc18
      have KY18 := Aside0.mk hy18
      have KA18 := Aside0.mk hA18
      clear hy18 hA18
      replace q18 := eq_true q18
      go_upto_region 7 with (fail)
      go_cut [48] (fun v48 wc => ∃ (kq : Nat) (x48_16 : Bool), v48 = .bool x48_16 ∧ Aside0 (spec_SetBranch.j2 kq l0 a1 x8_5 y268 x48_16 a2_0 a2_1 = some (r1, r2)) ∧ Aside0 (kq ≤ kj5) ∧ Aside0 (Kd.V k35 35 wc w.heap.size (fun k_ => (P0_ k_ ∨ w.heap.size ≤ k_) ∧ k_ ≠ gb262) (.slice A0 l0.length c0) l0) ∧ Aside0 (Kd.V k35 35 wc w.heap.size (fun k_ => (P0_ k_ ∨ w.heap.size ≤ k_) ∧ k_ ≠ gb262) (.slice A18 y268.length c18) y268) ∧ Aside0 (wc.heap[gb262]? = some (.cells #[.string a2_0, .int .i64 a2_1] 35 (0, 0))) ∧ Aside0 (Below w.heap.size w wc))
      case first =>
       have H := HC17.out
       clear HC17
       by_cases c19 : x8_5 < (l0.length : Int)
       ·rw [if_pos c19] at H
        have c19b0 : decide (x8_5 < (l0.length : Int)) = true := decide_eq_true c19
        clear c19
        (first | rw [c19b0] | (simp only [i64_w, i32_w]; rw [c19b0]) | skip)
        have H' := Aside0.mk H
        clear H
        try go_wp2
        have n0_ := Aside0.mk (Kd.V_drew HO_0.out)
        have n1_ := Aside0.mk (Kd.V_drew HO272.out)
        have n2_ := Aside0.mk (blk_drew BK262.out)
        have n3_ := Aside0.mk (below_drew1 HB.out)
        clear HO_0
        clear HO272
        clear BK262
        clear HB
        have HO_0 := n0_
        have HO272 := n1_
        have BK262 := n2_
        have HB := n3_
        clear n0_ n1_ n2_ n3_
        have p273 : 0 ≤ (x8_5 : Int) := of_decide_eq_true ma_
        have q273 : x8_5 < (l0.length : Int) := of_decide_eq_true ma_
        obtain ⟨ad273, e273, hx273_0, hx273_1⟩ := at_T35 (Kd.V_reads' HO_0.out).2.2 x8_5 p273 q273
        cases e273
        replace p273 := eq_true p273
        replace q273 := eq_true q273
        refine start_ (n := 14) (S := fun w' => w'.cell? ⟨gb262, 0, none⟩ = some (.string a2_0) ∧ w'.cell? ⟨gb262, 1, none⟩ = some (.int .i64 a2_1) ∧ w'.cell? (ad273.add ((x8_5).toNat * 2)) = some (.string ((rd_T35 l0 x8_5).f0)) ∧ w'.cell? ⟨(ad273.add ((x8_5).toNat * 2)).block, (ad273.add ((x8_5).toNat * 2)).off + 1, none⟩ = some (.int .i64 ((rd_T35 l0 x8_5).f1))) (ds := []) (tf_ 0 14) (by kernel_rfl) rfl rfl ⟨(blk_cell BK262.out 0).trans rfl, (blk_cell BK262.out 1).trans rfl, hx273_0, hx273_1⟩ (fun hHeld => ?_); refine with_tabW spec_SetBranch.tab7 spec_SetBranch.bits7 (fun HT_ HW_ => ?_)
        generalize wc.drew = w20 at HO_0 HO272 BK262 HB hx273_0 hx273_1 hHeld ⊢
        refine pa_ (i := 0) (N := some 35) (tf_ 1 13) ?_
        refine pa_ (i := 1) (N := some 36) (tf_ 2 12) ?_
        refine pa_ (i := 2) (N := some 37) (tf_ 3 11) ?_
        refine pa_ (i := 3) (N := some 38) (tf_ 4 10) ?_
        refine pa_ (i := 4) (N := some 39) (tf_ 5 9) ?_
        refine pa_ (i := 5) (N := some 40) (tf_ 6 8) ?_
        refine pa_ (i := 6) (N := some 41) (tf_ 7 7) ?_
        refine pa_ (i := 7) (N := some 42) (tf_ 8 6) ?_
        refine pa_ (i := 8) (N := some 43) (tf_ 9 5) ?_
        refine pure_ (i := 10) (N := some 45) (v := ?_) (a' := ?_) #[true, true, true, true, true, true, true, true, true, false, true, false, false, false] rfl rfl (any_of HT_.out (by kernel_rfl)) (fun _ _ _ h => h) (Or.inl ⟨by rfl, ?_⟩) ?_ ?_; rotate_left; (intro w'; go_simp; with_reducible rfl); rotate_left; (simp only [Act.put, List.setIfInBounds_toArray, List.set_cons_zero, List.set_cons_succ, i64_w, i32_w]; rfl)
        refine take_ (i := 9) (N := some 44) (v := ?_) (a' := ?_) (tf_ 11 3) rfl rfl (take_ofW HT_.out HW_.out (by kernel_rfl)) (fun _ _ _ h => h) (Or.inl ⟨by rfl, ?_⟩) hHeld ?_ ?_
        rotate_left
        ·rintro w' ⟨s0, s1, s2, s3⟩
         go_simp
         with_reducible rfl
        rotate_left
        ·simp only [Act.put, List.setIfInBounds_toArray, List.set_cons_zero, List.set_cons_succ, i64_w, i32_w]
         rfl
        refine take_ (i := 11) (N := some 46) (v := ?_) (a' := ?_) (tf_ 12 2) rfl rfl (take_ofW HT_.out HW_.out (by kernel_rfl)) (fun _ _ _ h => h) (Or.inl ⟨by rfl, ?_⟩) hHeld ?_ ?_
        rotate_left
        ·rintro w' ⟨s0, s1, s2, s3⟩
         go_simp
         with_reducible rfl
        rotate_left
        ·simp only [Act.put, List.setIfInBounds_toArray, List.set_cons_zero, List.set_cons_succ, i64_w, i32_w]
         rfl
        refine pa_ (i := 12) (N := some 47) (tf_ 13 1) ?_
        refine pa_ (i := 13) (N := some 48) (tf_ 14 0) ?_
        refine done_ (done_of HT_.out (by kernel_rfl)) ?_
        try go_wp2
        go_meet
        case rel => exact ⟨_, ((((rd_T35 l0 x8_5).f0).toList == a2_0.toList)), (by first | rfl | (simp; done) | (simp [*]; done)), H', ⟨by have := HJ5.out; first | omega | exact Nat.le_refl _⟩, ⟨by (with_reducible repeat (first | apply Kd.V_alloc | apply Kd.V_drewN | apply Kd.V_drew)); exact HO_0.out⟩, ⟨by (with_reducible repeat (first | apply Kd.V_alloc | apply Kd.V_drewN | apply Kd.V_drew)); exact HO272.out⟩, ⟨by (with_reducible repeat (first | refine blk_drewN ?_ _ | refine blk_drew ?_ | refine blk_alloc ?_ _)); exact BK262.out⟩, ⟨by repeat (first | (with_reducible first | exact HB.out | apply below_alloc | apply pw_below_drewN | apply below_drew1 | refine below_set ?_ GE262.out) | exact HB.out)⟩⟩
       ·rw [if_neg c19] at H
        have c19b0 : decide (x8_5 < (l0.length : Int)) = false := decide_eq_false c19
        clear c19
        (first | rw [c19b0] | (simp only [i64_w, i32_w]; rw [c19b0]) | skip)
        have H' := Aside0.mk H
        clear H
        try go_wp2
        have n0_ := Aside0.mk (Kd.V_drew HO_0.out)
        have n1_ := Aside0.mk (Kd.V_drew HO272.out)
        have n2_ := Aside0.mk (blk_drew BK262.out)
        have n3_ := Aside0.mk (below_drew1 HB.out)
        clear HO_0
        clear HO272
        clear BK262
        clear HB
        have HO_0 := n0_
        have HO272 := n1_
        have BK262 := n2_
        have HB := n3_
        clear n0_ n1_ n2_ n3_
        refine start_ (n := 14) (S := fun w' => True) (ds := []) (tf_ 0 14) (by kernel_rfl) rfl rfl trivial (fun hHeld => ?_); refine with_tabW spec_SetBranch.tab7 spec_SetBranch.bits7 (fun HT_ HW_ => ?_)
        generalize wc.drew = w21 at HO_0 HO272 BK262 HB hHeld ⊢
        refine pa_ (i := 0) (N := some 35) (tf_ 1 13) ?_
        refine pa_ (i := 1) (N := some 36) (tf_ 2 12) ?_
        refine pa_ (i := 2) (N := some 37) (tf_ 3 11) ?_
        refine pa_ (i := 3) (N := some 38) (tf_ 4 10) ?_
        refine pa_ (i := 4) (N := some 39) (tf_ 5 9) ?_
        refine pn_ (i := 5) (N := some 40) (tf_ 6 8) ?_
        refine pn_ (i := 6) (N := some 41) (tf_ 7 7) ?_
        refine pn_ (i := 7) (N := some 42) (tf_ 8 6) ?_
        refine pn_ (i := 8) (N := some 43) (tf_ 9 5) ?_
        refine pn_ (i := 9) (N := some 44) (tf_ 10 4) ?_
        refine pn_ (i := 10) (N := some 45) (tf_ 11 3) ?_
        refine pn_ (i := 11) (N := some 46) (tf_ 12 2) ?_
        refine pn_ (i := 12) (N := some 47) (tf_ 13 1) ?_
        refine pa_ (i := 13) (N := some 48) (tf_ 14 0) ?_
        refine done_ (done_of HT_.out (by kernel_rfl)) ?_
        try go_wp2
        go_meet
        case rel => exact ⟨_, (false), (by first | rfl | (simp; done) | (simp [*]; done)), H', ⟨by have := HJ5.out; first | omega | exact Nat.le_refl _⟩, ⟨by (with_reducible repeat (first | apply Kd.V_alloc | apply Kd.V_drewN | apply Kd.V_drew)); exact HO_0.out⟩, ⟨by (with_reducible repeat (first | apply Kd.V_alloc | apply Kd.V_drewN | apply Kd.V_drew)); exact HO272.out⟩, ⟨by (with_reducible repeat (first | refine blk_drewN ?_ _ | refine blk_drew ?_ | refine blk_alloc ?_ _)); exact BK262.out⟩, ⟨by repeat (first | (with_reducible first | exact HB.out | apply below_alloc | apply pw_below_drewN | apply below_drew1 | refine below_set ?_ GE262.out) | exact HB.out)⟩⟩
      case rest =>
       clear HC17
       try clear c1
       try clear q1
       try clear p2
       try clear q2
       try clear hx2
       try clear c5
       try clear c6
       try clear p6
       try clear c9
       try clear c9b0
       try clear c10
       try clear c10b0
       try clear c11
       try clear c11b0
       try clear c15
       try clear c15b0
       try clear c15b1
       try clear c16
       try clear c16b0
       try clear c16b1
       try clear c18
       try clear q18
       try clear c19
       try clear c19b0
       try clear hx267_0
       try clear hx267_1
       try clear hx273_0
       try clear hx273_1
       try clear p2
       try clear p267
       try clear p273
       try clear p6
       try clear q018
       try clear q18
       try clear q2
       try clear q267
       try clear q273
       obtain ⟨kq, x48_16, rfl, HA, HJ16, HO_0, HO_9, BK262, HB⟩ := hcut
       cases kq with
       | zero => exact absurd HA.out (by simp [spec_SetBranch.j2])
       | succ kj16 =>
        have H := HA.out
        clear HA
        simp only [spec_SetBranch.j2] at H
        have HC22 := Aside0.mk H
        clear H
        go_upto_if 48 with (fail)
        go_cut [9] (fun v9 wc => ∃ (kq : Nat) (x9_21 : List (S35)), Aside0 (spec_SetBranch.j3 kq l0 a1 x8_5 x9_21 a2_0 a2_1 = some (r1, r2)) ∧ Aside0 (kq ≤ kj16) ∧ Aside0 (Kd.V k35 35 wc w.heap.size (fun k_ => (P0_ k_ ∨ w.heap.size ≤ k_) ∧ k_ ≠ gb262) (.slice A0 l0.length c0) l0) ∧ Aside0 (Kd.V k35 35 wc w.heap.size (fun k_ => (P0_ k_ ∨ w.heap.size ≤ k_) ∧ k_ ≠ gb262) v9 x9_21) ∧ Aside0 (wc.heap[gb262]? = some (.cells #[.string a2_0, .int .i64 a2_1] 35 (0, 0))) ∧ Aside0 (Below w.heap.size w wc))
        case first =>
         have H := HC22.out
         clear HC22
         by_cases c23 : x48_16 = true
         ·subst c23
          have H1 : (if 0 ≤ (wrap64 (x8_5 + 1)) then (if (wrap64 (x8_5 + 1)) ≤ (l0.length : Int) then (spec_SetBranch.j3 kj16 l0 a1 x8_5 (l0.drop ((wrap64 (x8_5 + 1)) : Int).toNat) a2_0 a2_1) else (none)) else (none)) = some (r1, r2) := by rw [if_pos rfl] at H; exact H
          clear H
          have H := H1
          clear H1
          obtain ⟨ji24, hji24⟩ : ∃ j_ : Int, (wrap64 (x8_5 + 1)) = j_ := ⟨_, rfl⟩
          replace H : (if 0 ≤ (ji24) then (if (ji24) ≤ (l0.length : Int) then (spec_SetBranch.j3 kj16 l0 a1 x8_5 (l0.drop ((ji24) : Int).toNat) a2_0 a2_1) else (none)) else (none)) = some (r1, r2) := by first | (rw [hji24] at H; exact H) | (simp only [hji24] at H ⊢; exact H)
          have hji24w : (IntKind.i64.wrap (x8_5 + 1)) = ji24 := (i64_w _).trans hji24
          by_cases c25 : 0 ≤ (ji24)
          ·rw [if_pos c25] at H
           have c25b0 := eq_true c25
           have c25b1 : decide (0 ≤ (ji24)) = true := decide_eq_true c25
           clear c25
           by_cases c26 : (ji24) ≤ (l0.length : Int)
           ·rw [if_pos c26] at H
            have c26b0 := eq_true c26
            have c26b1 : decide ((ji24) ≤ (l0.length : Int)) = true := decide_eq_true c26
            clear c26
            obtain ⟨y274, hy274⟩ : ∃ y_ : List (S35), y_ = (l0.drop ((ji24) : Int).toNat) := ⟨_, rfl⟩
            replace H : (spec_SetBranch.j3 kj16 l0 a1 x8_5 y274 a2_0 a2_1) = some (r1, r2) := by first | (rw [hy274]; with_reducible exact H) | (have H2_ := (Option.bind_some _ _).symm.trans H; rw [hy274]; with_reducible exact H2_) | (have H2_ := (Option.bind_some _ _).symm.trans H; with_reducible exact H2_) | with_reducible exact H | (rw [hy274]; exact H) | exact H
            have Ny274 := Aside0.mk hy274
            clear hy274
            have H' := Aside0.mk H
            clear H
            have q27 : ((ji24) : Int) ≤ ((l0.length : Int) : Int) := of_decide_eq_true ma_
            obtain ⟨i027, hi027, _, hsz27, _⟩ := info_parts info35
            have hroom27 : l0.length ≤ c0 := (Kd.V_reads' HO_0.out).2.1
            have hC27 : Kd.F k35 _ _ A0 l0.length l0 := (Kd.V_at (base := w.heap.size) HO_0.out).2.2
            have q027 : (0 : Int) ≤ ((ji24) : Int) := of_decide_eq_true ma_
            have hcut27 := cut_from (P := Try.prog) 30 35 .i64 Try.underlying30 hi027 2 hsz27 A0 l0.length c0 (ji24) q027 q27
            have hr27 := Kd.F_cut (m := ((ji24) : Int).toNat) (c := c0) hC27 (by omega) hroom27
            obtain ⟨A27, hA27⟩ : ∃ A1, A1 = (if c0 = ((ji24) : Int).toNat then A0 else (A0 : Option Addr).map (·.add (((ji24) : Int).toNat * 2))) := ⟨_, rfl⟩
            obtain ⟨c27, hc27⟩ : ∃ c1, c1 = c0 - ((ji24) : Int).toNat := ⟨_, rfl⟩
            have hy27 : y274.length = l0.length - ((ji24) : Int).toNat := (by rw [Ny274.out, List.length_drop] <;> omega)
            rw [show (l0).drop ((ji24) : Int).toNat = y274 from Ny274.out.symm] at hr27
            replace hr27 : Kd.F k35 _ _ A27 y274.length y274 := (by rw [hA27]; exact hr27)
            rw [← hy27, ← hA27, ← hc27] at hcut27
            have HO278 := Aside0.mk (show Kd.V k35 35 _ w.heap.size _ (.slice A27 y274.length c27) y274 from Kd.V_mk (by rw [hy27, hc27]; exact Nat.sub_le_sub_right hroom27 _) hr27)
            have HC278 := Aside0.mk (show y274.length ≤ c27 from by rw [hy27, hc27]; exact Nat.sub_le_sub_right hroom27 _)
            clear hr27 hC27 hroom27 hi027 hsz27 hc27
            have KY27 := Aside0.mk hy27
            have KA27 := Aside0.mk hA27
            clear hy27 hA27
            replace q27 := eq_true q27
            go_wp2
            go_meet
            case rel => exact ⟨_, (y274), H', ⟨by have := HJ5.out; have := HJ16.out; first | omega | exact Nat.le_refl _⟩, ⟨by (with_reducible repeat (first | apply Kd.V_alloc | apply Kd.V_drewN | apply Kd.V_drew)); exact HO_0.out⟩, ⟨by (with_reducible repeat (first | apply Kd.V_alloc | apply Kd.V_drewN | apply Kd.V_drew)); exact HO278.out⟩, ⟨by (with_reducible repeat (first | refine blk_drewN ?_ _ | refine blk_drew ?_ | refine blk_alloc ?_ _)); exact BK262.out⟩, ⟨by repeat (first | (with_reducible first | exact HB.out | apply below_alloc | apply pw_below_drewN | apply below_drew1 | refine below_set ?_ GE262.out) | exact HB.out)⟩⟩
           ·rw [if_neg c26] at H
            exact absurd H (by simp)
          ·rw [if_neg c25] at H
           exact absurd H (by simp)
         ·replace c23 := Bool.eq_false_iff.mpr c23
          subst c23
          have H1 : (spec_SetBranch.j3 kj16 l0 a1 x8_5 y268 a2_0 a2_1) = some (r1, r2) := by rw [if_neg (show ¬ (false = true) by decide)] at H; exact H
          clear H
          have H := H1
          clear H1
          have H' := Aside0.mk H
          clear H
          go_wp2
          go_meet
          case rel => exact ⟨_, (y268), H', ⟨by have := HJ5.out; have := HJ16.out; first | omega | exact Nat.le_refl _⟩, ⟨by (with_reducible repeat (first | apply Kd.V_alloc | apply Kd.V_drewN | apply Kd.V_drew)); exact HO_0.out⟩, ⟨by (with_reducible repeat (first | apply Kd.V_alloc | apply Kd.V_drewN | apply Kd.V_drew)); exact HO_9.out⟩, ⟨by (with_reducible repeat (first | refine blk_drewN ?_ _ | refine blk_drew ?_ | refine blk_alloc ?_ _)); exact BK262.out⟩, ⟨by repeat (first | (with_reducible first | exact HB.out | apply below_alloc | apply pw_below_drewN | apply below_drew1 | refine below_set ?_ GE262.out) | exact HB.out)⟩⟩
        case rest =>
         clear HC22
         try clear c1
         try clear q1
         try clear c2
         try clear p2
         try clear q2
         try clear hx2
         try clear c5
         try clear c6
         try clear p6
         try clear c9
         try clear c9b0
         try clear c10
         try clear c10b0
         try clear c11
         try clear c11b0
         try clear c15
         try clear c15b0
         try clear c15b1
         try clear c16
         try clear c16b0
         try clear c16b1
         try clear c18
         try clear q18
         try clear c19
         try clear c19b0
         try clear c23
         try clear c25
         try clear c25b0
         try clear c25b1
         try clear c26
         try clear c26b0
         try clear c26b1
         try clear p26
         try clear q26
         try clear hx26
         try clear c27
         try clear p27
         try clear q27
         try clear hx27
         try clear hx267_0
         try clear hx267_1
         try clear hx273_0
         try clear hx273_1
         try clear p2
         try clear p267
         try clear p273
         try clear p6
         try clear q018
         try clear q027
         try clear q1
         try clear q18
         try clear q2
         try clear q267
         try clear q27
         try clear q273
         obtain ⟨kq, x9_21, HA, HJ21, HO_0, HO_9, BK262, HB⟩ := hcut
         cases kq with
         | zero => exact absurd HA.out (by simp [spec_SetBranch.j3])
         | succ kj21 =>
          have H := HA.out
          clear HA
          simp only [spec_SetBranch.j3] at H
          obtain ⟨y279, hy279⟩ : ∃ y_ : List (S35), y_ = (([] : List (S35))) := ⟨_, rfl⟩
          replace H : (if 0 ≤ x8_5 then (if x8_5 ≤ (l0.length : Int) then ((some (l0.take (x8_5 : Int).toNat : List (S35))).bind fun y282 => (if y279.length + y282.length < 5864062014805 then ((some (y279 ++ y282 : List (S35))).bind fun y287 => ((some (([(⟨a2_0, a2_1⟩ : S35)] : List (S35)) : List (S35))).bind fun y290 => (if y287.length + y290.length < 5864062014805 then ((some (y287 ++ y290 : List (S35))).bind fun y293 => (if y293.length + x9_21.length < 5864062014805 then ((some (y293 ++ x9_21 : List (S35))).bind fun y296 => ((spec_BranchesValid.f kj21 y296 a1).bind fun t299 => (if t299 = true then (some (y296, true)) else ((some (([] : List (S35)) : List (S35))).bind fun y300 => (if y300.length + l0.length < 5864062014805 then (some ((y300 ++ l0), false)) else (none)))))) else (none))) else (none)))) else (none))) else (none)) else (none)) = some (r1, r2) := by first | (rw [hy279]; with_reducible exact H) | (have H2_ := (Option.bind_some _ _).symm.trans H; rw [hy279]; with_reducible exact H2_) | (have H2_ := (Option.bind_some _ _).symm.trans H; with_reducible exact H2_) | with_reducible exact H | (rw [hy279]; exact H) | exact H
          have Ny279 := Aside0.mk hy279
          clear hy279
          by_cases c28 : 0 ≤ x8_5
          ·rw [if_pos c28] at H
           have c28b0 := eq_true c28
           have c28b1 : decide (0 ≤ x8_5) = true := decide_eq_true c28
           clear c28
           by_cases c29 : x8_5 ≤ (l0.length : Int)
           ·rw [if_pos c29] at H
            have c29b0 := eq_true c29
            have c29b1 : decide (x8_5 ≤ (l0.length : Int)) = true := decide_eq_true c29
            clear c29
            obtain ⟨y282, hy282⟩ : ∃ y_ : List (S35), y_ = (l0.take (x8_5 : Int).toNat) := ⟨_, rfl⟩
            replace H : (if y279.length + y282.length < 5864062014805 then ((some (y279 ++ y282 : List (S35))).bind fun y287 => ((some (([(⟨a2_0, a2_1⟩ : S35)] : List (S35)) : List (S35))).bind fun y290 => (if y287.length + y290.length < 5864062014805 then ((some (y287 ++ y290 : List (S35))).bind fun y293 => (if y293.length + x9_21.length < 5864062014805 then ((some (y293 ++ x9_21 : List (S35))).bind fun y296 => ((spec_BranchesValid.f kj21 y296 a1).bind fun t299 => (if t299 = true then (some (y296, true)) else ((some (([] : List (S35)) : List (S35))).bind fun y300 => (if y300.length + l0.length < 5864062014805 then (some ((y300 ++ l0), false)) else (none)))))) else (none))) else (none)))) else (none)) = some (r1, r2) := by first | (rw [hy282]; with_reducible exact H) | (have H2_ := (Option.bind_some _ _).symm.trans H; rw [hy282]; with_reducible exact H2_) | (have H2_ := (Option.bind_some _ _).symm.trans H; with_reducible exact H2_) | with_reducible exact H | (rw [hy282]; exact H) | exact H
            have Ny282 := Aside0.mk hy282
            clear hy282
            by_cases c30 : y279.length + y282.length < 5864062014805
            ·rw [if_pos c30] at H
             have LMc30 := Aside0.mk c30
             clear c30
             obtain ⟨y287, hy287⟩ : ∃ y_ : List (S35), y_ = (y279 ++ y282) := ⟨_, rfl⟩
             replace H : ((some (([(⟨a2_0, a2_1⟩ : S35)] : List (S35)) : List (S35))).bind fun y290 => (if y287.length + y290.length < 5864062014805 then ((some (y287 ++ y290 : List (S35))).bind fun y293 => (if y293.length + x9_21.length < 5864062014805 then ((some (y293 ++ x9_21 : List (S35))).bind fun y296 => ((spec_BranchesValid.f kj21 y296 a1).bind fun t299 => (if t299 = true then (some (y296, true)) else ((some (([] : List (S35)) : List (S35))).bind fun y300 => (if y300.length + l0.length < 5864062014805 then (some ((y300 ++ l0), false)) else (none)))))) else (none))) else (none))) = some (r1, r2) := by first | (rw [hy287]; with_reducible exact H) | (have H2_ := (Option.bind_some _ _).symm.trans H; rw [hy287]; with_reducible exact H2_) | (have H2_ := (Option.bind_some _ _).symm.trans H; with_reducible exact H2_) | with_reducible exact H | (rw [hy287]; exact H) | exact H
             have Ny287 := Aside0.mk hy287
             clear hy287
             obtain ⟨y290, hy290⟩ : ∃ y_ : List (S35), y_ = (([(⟨a2_0, a2_1⟩ : S35)] : List (S35))) := ⟨_, rfl⟩
             replace H : (if y287.length + y290.length < 5864062014805 then ((some (y287 ++ y290 : List (S35))).bind fun y293 => (if y293.length + x9_21.length < 5864062014805 then ((some (y293 ++ x9_21 : List (S35))).bind fun y296 => ((spec_BranchesValid.f kj21 y296 a1).bind fun t299 => (if t299 = true then (some (y296, true)) else ((some (([] : List (S35)) : List (S35))).bind fun y300 => (if y300.length + l0.length < 5864062014805 then (some ((y300 ++ l0), false)) else (none)))))) else (none))) else (none)) = some (r1, r2) := by first | (rw [hy290]; with_reducible exact H) | (have H2_ := (Option.bind_some _ _).symm.trans H; rw [hy290]; with_reducible exact H2_) | (have H2_ := (Option.bind_some _ _).symm.trans H; with_reducible exact H2_) | with_reducible exact H | (rw [hy290]; exact H) | exact H
             have Ny290 := Aside0.mk hy290
             clear hy290
             by_cases c31 : y287.length + y290.length < 5864062014805
             ·rw [if_pos c31] at H
              have LMc31 := Aside0.mk c31
              clear c31
              obtain ⟨y293, hy293⟩ : ∃ y_ : List (S35), y_ = (y287 ++ y290) := ⟨_, rfl⟩
              replace H : (if y293.length + x9_21.length < 5864062014805 then ((some (y293 ++ x9_21 : List (S35))).bind fun y296 => ((spec_BranchesValid.f kj21 y296 a1).bind fun t299 => (if t299 = true then (some (y296, true)) else ((some (([] : List (S35)) : List (S35))).bind fun y300 => (if y300.length + l0.length < 5864062014805 then (some ((y300 ++ l0), false)) else (none)))))) else (none)) = some (r1, r2) := by first | (rw [hy293]; with_reducible exact H) | (have H2_ := (Option.bind_some _ _).symm.trans H; rw [hy293]; with_reducible exact H2_) | (have H2_ := (Option.bind_some _ _).symm.trans H; with_reducible exact H2_) | with_reducible exact H | (rw [hy293]; exact H) | exact H
              have Ny293 := Aside0.mk hy293
              clear hy293
              by_cases c32 : y293.length + x9_21.length < 5864062014805
              ·rw [if_pos c32] at H
               have LMc32 := Aside0.mk c32
               clear c32
               obtain ⟨y296, hy296⟩ : ∃ y_ : List (S35), y_ = (y293 ++ x9_21) := ⟨_, rfl⟩
               replace H : ((spec_BranchesValid.f kj21 y296 a1).bind fun t299 => (if t299 = true then (some (y296, true)) else ((some (([] : List (S35)) : List (S35))).bind fun y300 => (if y300.length + l0.length < 5864062014805 then (some ((y300 ++ l0), false)) else (none))))) = some (r1, r2) := by first | (rw [hy296]; with_reducible exact H) | (have H2_ := (Option.bind_some _ _).symm.trans H; rw [hy296]; with_reducible exact H2_) | (have H2_ := (Option.bind_some _ _).symm.trans H; with_reducible exact H2_) | with_reducible exact H | (rw [hy296]; exact H) | exact H
               have Ny296 := Aside0.mk hy296
               clear hy296
               replace H := Option.bind_eq_some_iff.mp H
               obtain ⟨t299, A330, H⟩ := H
               replace H : (if t299 = true then (some (y296, true)) else ((some (([] : List (S35)) : List (S35))).bind fun y300 => (if y300.length + l0.length < 5864062014805 then (some ((y300 ++ l0), false)) else (none)))) = some (r1, r2) := H
               have A33 := Aside0.mk A330
               clear A330
               by_cases c34 : t299 = true
               ·subst c34
                have H1 : (some (y296, true)) = some (r1, r2) := by rw [if_pos rfl] at H; exact H
                clear H
                have H := H1
                clear H1
                simp only [Option.some.injEq, Prod.mk.injEq] at H
                obtain ⟨rfl, rfl⟩ := H
                obtain ⟨Ao35, co35, eo35⟩ := Kd.V_slice HO_9.out
                subst eo35
                try go_wp2
                have n0_ := Aside0.mk (Kd.V_drew HO_0.out)
                have n1_ := Aside0.mk (Kd.V_drew HO_9.out)
                have n2_ := Aside0.mk (blk_drew BK262.out)
                have n3_ := Aside0.mk (below_drew1 HB.out)
                clear HO_0
                clear HO_9
                clear BK262
                clear HB
                have HO_0 := n0_
                have HO_9 := n1_
                have BK262 := n2_
                have HB := n3_
                clear n0_ n1_ n2_ n3_
                have q37 : (x8_5 : Int) ≤ ((l0.length : Int) : Int) := of_decide_eq_true ma_
                obtain ⟨i037, hi037, _, hsz37, _⟩ := info_parts info35
                have hroom37 : l0.length ≤ c0 := (Kd.V_reads' HO_0.out).2.1
                have hC37 : Kd.F k35 _ _ A0 l0.length l0 := (Kd.V_at (base := w.heap.size) HO_0.out).2.2
                have hcut37 := cut_to (P := Try.prog) 30 35 .i64 Try.underlying30 hi037 A0 l0.length c0 x8_5 (of_decide_eq_true ma_) q37 hroom37
                have hr37 := Kd.F_take (m := (x8_5 : Int).toNat) hC37 (by omega)
                have hy37 : y282.length = (x8_5 : Int).toNat := (by rw [Ny282.out, List.length_take]; omega)
                rw [← Ny282.out] at hr37
                rw [← hy37] at hcut37
                have HO286 := Aside0.mk (show Kd.V k35 35 _ w.heap.size _ (.slice A0 y282.length c0) y282 from Kd.V_mk (by omega) hr37)
                have HC286 := Aside0.mk (show y282.length ≤ c0 from by omega)
                clear hr37 hC37 hroom37 hi037 hsz37
                have KY37 := Aside0.mk hy37
                clear hy37
                replace q37 := eq_true q37
                refine start_ (n := 11) (S := fun w' => w'.cell? ⟨gb262, 0, none⟩ = some (.string a2_0) ∧ w'.cell? ⟨gb262, 1, none⟩ = some (.int .i64 a2_1)) (ds := []) (tf_ 0 11) (by kernel_rfl) rfl rfl ⟨(blk_cell BK262.out 0).trans rfl, (blk_cell BK262.out 1).trans rfl⟩ (fun hHeld => ?_); refine with_tabW spec_SetBranch.tab9 spec_SetBranch.bits9 (fun HT_ HW_ => ?_)
                generalize wc.drew = w36 at HO_0 HO_9 BK262 HB HO286 hHeld ⊢
                refine pure_ (i := 1) (N := some 54) (v := ?_) (a' := ?_) #[false, true, false, false, false, false, false, false, false, false, false] rfl rfl (any_of HT_.out (by kernel_rfl)) (fun _ _ _ h => h) (Or.inl ⟨by rfl, ?_⟩) ?_ ?_; rotate_left; (intro w'; go_simp; with_reducible rfl); rotate_left; (simp only [Act.put, List.setIfInBounds_toArray, List.set_cons_zero, List.set_cons_succ, i64_w, i32_w]; rfl)
                refine pure_ (i := 2) (N := some 55) (v := ?_) (a' := ?_) #[false, true, true, false, false, false, false, false, false, false, false] rfl rfl (any_of HT_.out (by kernel_rfl)) (fun _ _ _ h => h) (Or.inl ⟨by rfl, ?_⟩) ?_ ?_; rotate_left; (intro w'; go_simp; with_reducible rfl); rotate_left; (simp only [Act.put, List.setIfInBounds_toArray, List.set_cons_zero, List.set_cons_succ, i64_w, i32_w]; rfl)
                refine pure_ (i := 3) (N := some 56) (v := ?_) (a' := ?_) #[false, true, true, true, false, false, false, false, false, false, false] rfl rfl (any_of HT_.out (by kernel_rfl)) (fun _ _ _ h => h) (Or.inl ⟨by rfl, ?_⟩) ?_ ?_; rotate_left; (intro w'; go_simp; with_reducible rfl); rotate_left; (simp only [Act.put, List.setIfInBounds_toArray, List.set_cons_zero, List.set_cons_succ, i64_w, i32_w]; rfl)
                refine pure_ (i := 8) (N := some 61) (v := ?_) (a' := ?_) #[false, true, true, true, false, false, false, false, true, false, false] rfl rfl (any_of HT_.out (by kernel_rfl)) (fun _ _ _ h => h) (Or.inl ⟨by rfl, ?_⟩) ?_ ?_; rotate_left; (intro w'; go_simp; with_reducible rfl); rotate_left; (simp only [Act.put, List.setIfInBounds_toArray, List.set_cons_zero, List.set_cons_succ, i64_w, i32_w]; rfl)
                refine take_ (i := 5) (N := some 58) (v := ?_) (a' := ?_) #[false, true, true, true, false, true, false, false, true, false, false] rfl rfl (take_ofW HT_.out HW_.out (by kernel_rfl)) (fun _ _ _ h => h) (Or.inl ⟨by rfl, ?_⟩) hHeld ?_ ?_
                rotate_left
                ·rintro w' ⟨s0, s1⟩
                 go_simp
                 with_reducible rfl
                rotate_left
                ·simp only [Act.put, List.setIfInBounds_toArray, List.set_cons_zero, List.set_cons_succ, i64_w, i32_w]
                 rfl
                refine join_ (σ := Value × Value × Value) 3 #[true, true, true, true, true, true, true, false, true, false, false] (fun s_ => [(53, s_.1), (57, s_.2.1), (59, s_.2.2)]) (fun s_ w' => (w'.cell? ⟨gb262, 0, none⟩ = some (.string a2_0) ∧ w'.cell? ⟨gb262, 1, none⟩ = some (.int .i64 a2_1)) ∧ (Kd.V k35 35 w' w.heap.size (fun k_ => (P0_ k_ ∨ w.heap.size ≤ k_) ∧ some k_ ≠ (s_.2.1 : Value).ownBlock ∧ some k_ ≠ (s_.2.2 : Value).ownBlock ∧ k_ ≠ gb262) (.slice A0 y282.length c0) y282) ∧ (Kd.R k35 35 w' w.heap.size (fun k_ => (w.heap.size ≤ k_) ∧ some k_ ≠ (s_.2.2 : Value).ownBlock ∧ k_ ≠ gb262) s_.2.1 y287) ∧ (Kd.R k35 35 w' w.heap.size (fun k_ => (w.heap.size ≤ k_) ∧ some k_ ≠ (s_.2.1 : Value).ownBlock ∧ k_ ≠ gb262) s_.2.2 y290) ∧ (Kd.V k35 35 w' w.heap.size (fun k_ => (P0_ k_ ∨ w.heap.size ≤ k_) ∧ some k_ ≠ (s_.2.1 : Value).ownBlock ∧ some k_ ≠ (s_.2.2 : Value).ownBlock ∧ k_ ≠ gb262) (.slice A0 l0.length c0) l0) ∧ (Kd.V k35 35 w' w.heap.size (fun k_ => (P0_ k_ ∨ w.heap.size ≤ k_) ∧ some k_ ≠ (s_.2.1 : Value).ownBlock ∧ some k_ ≠ (s_.2.2 : Value).ownBlock ∧ k_ ≠ gb262) (.slice Ao35 x9_21.length co35) x9_21) ∧ (w'.heap[gb262]? = some (.cells #[.string a2_0, .int .i64 a2_1] 35 (0, 0))) ∧ (Below w.heap.size w w')) ?_ ?_
                rotate_left
                ·intro hCont
                 refine two_ (i := 0) (j := 6) (Ni := some 53) (Nj := some 59) #[true, true, true, true, false, true, false, false, true, false, false] #[false, true, true, true, false, true, true, false, true, false, false] rfl rfl rfl rfl (two_of HT_.out (by kernel_rfl)) (by decide) (by decide) (fun K hK => ?_) (fun K hK => ?_)
                 ·skip
                  refine Kd.R_lit_step k35 _ 35 ?hg (N := 53) ?hd (xs := ([] : List (S35))) (inner := []) (ok := fun _ => True) (okp := fun _ => True) ?hr ?hp (fun _ hk => hk) trivial (Below.refl _ _) (Nat.le_refl _) (by simp) ?_; (case hd => rfl); (case hg => rfl); (case hr => first | (go_simp; done) | (go_simp; rfl)); (case hp => exact (Reps.none _ _))
                  intro v280 w38 ho39 hb hg_ hnew_
                  clear hg_ hnew_
                  (first | rw [← Ny279.out] at ho39 | (simp only [Int.reduceToNat] at ho39; rw [← Ny279.out] at ho39))
                  have n0_ := Aside0.mk (Kd.V_elder' (by (with_reducible repeat (first | apply Kd.V_alloc | apply Kd.V_drewN | apply Kd.V_drew)); exact HO_0.out) (Kd.R_base ho39) hb)
                  have n1_ := Aside0.mk (Kd.V_elder' (by (with_reducible repeat (first | apply Kd.V_alloc | apply Kd.V_drewN | apply Kd.V_drew)); exact HO_9.out) (Kd.R_base ho39) hb)
                  have n2_ := Aside0.mk (Kd.V_elder' (by (with_reducible repeat (first | apply Kd.V_alloc | apply Kd.V_drewN | apply Kd.V_drew)); exact HO286.out) (Kd.R_base ho39) hb)
                  have n3_ := Aside0.mk (Kd.R_lower (Kd.R_newB (Kd.R_newM (M := fun k_ => (w.heap.size ≤ k_)) ho39 (below_size (by repeat (first | (with_reducible first | exact HB.out | apply below_alloc | apply pw_below_drewN | apply below_drew1 | refine below_set ?_ GE262.out) | exact HB.out))) (fun k_ h_ => h_)) (g := gb262) (o := .cells #[.string a2_0, .int .i64 a2_1] 35 (0, 0)) (kB_ BK262.out)) (below_size (by repeat (first | (with_reducible first | exact HB.out | apply below_alloc | apply pw_below_drewN | apply below_drew1 | refine below_set ?_ GE262.out) | exact HB.out))))
                  have n4_ := Aside0.mk (blk_below (g := gb262) (o := .cells #[.string a2_0, .int .i64 a2_1] 35 (0, 0)) (kB_ BK262.out) hb)
                  have n5_ := Aside0.mk (below_step (by repeat (first | (with_reducible first | exact HB.out | apply below_alloc | apply pw_below_drewN | apply below_drew1 | refine below_set ?_ GE262.out) | exact HB.out)) hb)
                  clear HO_0
                  clear HO_9
                  clear HO286
                  clear BK262
                  clear HB
                  have HO_0 := n0_
                  have HO_9 := n1_
                  have HO286 := n2_
                  have HO281 := n3_
                  have BK262 := n4_
                  have HB := n5_
                  clear n0_ n1_ n2_ n3_ n4_ n5_
                  clear hb ho39
                  refine hK.out _ _ ⟨(blk_cell BK262.out 0).trans rfl, (blk_cell BK262.out 1).trans rfl⟩ (fun hHeld => ?_)
                  clear hK K
                  refine norm_ (a' := ?_) ?_ ?_
                  rotate_left
                  ·show Act.put _ (some 53) _ = _
                   simp only [Act.put, List.setIfInBounds_toArray, List.set_cons_zero, List.set_cons_succ, i64_w, i32_w]
                   rfl
                  refine two_ (i := 4) (j := 6) (Ni := some 57) (Nj := some 59) #[true, true, true, true, true, true, false, false, true, false, false] #[true, true, true, true, false, true, true, false, true, false, false] rfl rfl rfl rfl (two_of HT_.out (by kernel_rfl)) (by decide) (by decide) (fun K hK => ?_) (fun K hK => ?_)
                  ·skip
                   refine Kd.R_append_rows_step k35 (w0 := w) w.heap.size (by rfl) (.tmp 53) (.tmp 56) 30 35 (.agg #[(.string ⟨#[]⟩), (.int .i64 0)]) 24 rfl Try.underlying30 info35 rfl (by decide) (by omega) v280 y279 y282 _ _ _ (fun k_ => (w.heap.size ≤ k_) ∧ k_ ≠ gb262) (fun _ => False) rfl rfl ?aO ?aR (fun _ _ h => h) (fun _ h => h.elim) ?aF ?aB ?aS ?aL ?_
                   (case aR => repeat (first | exact (Kd.V_reads' HO286.out).2.2 | (with_reducible refine Kd.C_alloc ?_ _) | (with_reducible refine Kd.C_drewN ?_ _) | (with_reducible refine Kd.C_drew ?_)))
                   (case aB => exact (by repeat (first | (with_reducible first | exact HB.out | apply below_alloc | apply pw_below_drewN | apply below_drew1 | refine below_set ?_ GE262.out) | exact HB.out)))
                   (case aF => exact (fun k_ hk => ⟨(Nat.le_trans (below_size (by repeat (first | (with_reducible first | exact HB.out | apply below_alloc | apply pw_below_drewN | apply below_drew1 | refine below_set ?_ GE262.out) | exact HB.out))) hk), Kd.freshB (g := gb262) (o := .cells #[.string a2_0, .int .i64 a2_1] 35 (0, 0)) (kB_ BK262.out) k_ hk⟩))
                   (case aO => exact (by (with_reducible repeat (first | apply Kd.R_alloc | apply Kd.R_drewN | apply Kd.R_drew)); exact Kd.R_mono HO281.out (fun _ hk => ⟨hk.1.1, hk.2⟩)))
                   (case aS => exact (below_size (by repeat (first | (with_reducible first | exact HB.out | apply below_alloc | apply pw_below_drewN | apply below_drew1 | refine below_set ?_ GE262.out) | exact HB.out))))
                   (case aL => have := LMc30.out; omega)
                   intro v288 w40 ho hb hg hat
                   rw [← Ny287.out] at ho
                   have n0_ := Aside0.mk (Kd.V_afterv (ok := (fun k_ => (P0_ k_ ∨ w.heap.size ≤ k_) ∧ k_ ≠ gb262)) (by (with_reducible repeat (first | apply Kd.V_alloc | apply Kd.V_drewN | apply Kd.V_drew)); exact HO_0.out) hg hat)
                   have n1_ := Aside0.mk (Kd.V_afterv (ok := (fun k_ => (P0_ k_ ∨ w.heap.size ≤ k_) ∧ k_ ≠ gb262)) (by (with_reducible repeat (first | apply Kd.V_alloc | apply Kd.V_drewN | apply Kd.V_drew)); exact HO_9.out) hg hat)
                   have n2_ := Aside0.mk (blk_grown (g := gb262) (o := .cells #[.string a2_0, .int .i64 a2_1] 35 (0, 0)) (kB_ BK262.out) hg (Kd.R_away HO281.out (fun _ hk => hk.2)))
                   have n3_ := Aside0.mk (Kd.V_afterv (ok := (fun k_ => (P0_ k_ ∨ w.heap.size ≤ k_) ∧ k_ ≠ gb262)) (by (with_reducible repeat (first | apply Kd.V_alloc | apply Kd.V_drewN | apply Kd.V_drew)); exact HO286.out) hg hat)
                   have n4_ := Aside0.mk (hb)
                   have n5_ := Aside0.mk (ho)
                   clear HO_0
                   clear HO_9
                   clear BK262
                   clear HO286
                   clear HB
                   clear HO281
                   have HO_0 := n0_
                   have HO_9 := n1_
                   have BK262 := n2_
                   have HO286 := n3_
                   have HB := n4_
                   have HO289 := n5_
                   clear n0_ n1_ n2_ n3_ n4_ n5_
                   clear ho hb hg hat
                   refine hK.out _ _ ⟨(blk_cell BK262.out 0).trans rfl, (blk_cell BK262.out 1).trans rfl⟩ (fun hHeld => ?_)
                   clear hK K
                   refine norm_ (a' := ?_) ?_ ?_
                   rotate_left
                   ·show Act.put _ (some 57) _ = _
                    simp only [Act.put, List.setIfInBounds_toArray, List.set_cons_zero, List.set_cons_succ, i64_w, i32_w]
                    rfl
                   refine one_ (i := 6) (N := some 59) #[true, true, true, true, true, true, true, false, true, false, false] rfl rfl (one_of HT_.out (by kernel_rfl)) (by decide) (fun K hK => ?_)
                   refine Kd.R_lit_step k35 _ 35 ?hg (N := 59) ?hd (xs := ([(⟨a2_0, a2_1⟩ : S35)] : List (S35))) (inner := [.string a2_0, .int .i64 a2_1]) (ok := fun _ => True) (okp := fun _ => True) ?hr ?hp (fun _ hk => hk) trivial (Below.refl _ _) (Nat.le_refl _) (by simp) ?_; (case hd => rfl); (case hg => rfl); (case hr => first | (go_simp; done) | (go_simp; rfl)); (case hp => exact (Reps.c2 (show Kd.M k35 _ _ _ (⟨a2_0, a2_1⟩ : S35) [.string a2_0, .int .i64 a2_1] from (k35_mkM _ _ _ (⟨a2_0, a2_1⟩ : S35) )) (Reps.none _ _)))
                   intro v291 w41 ho42 hb hg_ hnew_
                   clear hg_ hnew_
                   (first | rw [← Ny290.out] at ho42 | (simp only [Int.reduceToNat] at ho42; rw [← Ny290.out] at ho42))
                   have n0_ := Aside0.mk (Kd.V_elder' (by (with_reducible repeat (first | apply Kd.V_alloc | apply Kd.V_drewN | apply Kd.V_drew)); exact HO_0.out) (Kd.R_base ho42) hb)
                   have n1_ := Aside0.mk (Kd.V_elder' (by (with_reducible repeat (first | apply Kd.V_alloc | apply Kd.V_drewN | apply Kd.V_drew)); exact HO_9.out) (Kd.R_base ho42) hb)
                   have n2_ := Aside0.mk (Kd.V_elder' (by (with_reducible repeat (first | apply Kd.V_alloc | apply Kd.V_drewN | apply Kd.V_drew)); exact HO286.out) (Kd.R_base ho42) hb)
                   have n3_ := Aside0.mk (Kd.R_elder' (kR_ HO289.out) (Kd.R_base ho42) hb)
                   have n4_ := Aside0.mk (Kd.R_lower (Kd.R_newB (Kd.R_new' (Kd.R_newM (M := fun k_ => (w.heap.size ≤ k_)) ho42 (below_size (by repeat (first | (with_reducible first | exact HB.out | apply below_alloc | apply pw_below_drewN | apply below_drew1 | refine below_set ?_ GE262.out) | exact HB.out))) (fun k_ h_ => h_)) (Kd.R_lt (kR_ HO289.out))) (g := gb262) (o := .cells #[.string a2_0, .int .i64 a2_1] 35 (0, 0)) (kB_ BK262.out)) (below_size (by repeat (first | (with_reducible first | exact HB.out | apply below_alloc | apply pw_below_drewN | apply below_drew1 | refine below_set ?_ GE262.out) | exact HB.out))))
                   have n5_ := Aside0.mk (blk_below (g := gb262) (o := .cells #[.string a2_0, .int .i64 a2_1] 35 (0, 0)) (kB_ BK262.out) hb)
                   have n6_ := Aside0.mk (below_step (by repeat (first | (with_reducible first | exact HB.out | apply below_alloc | apply pw_below_drewN | apply below_drew1 | refine below_set ?_ GE262.out) | exact HB.out)) hb)
                   clear HO_0
                   clear HO_9
                   clear HO286
                   clear HO289
                   clear BK262
                   clear HB
                   have HO_0 := n0_
                   have HO_9 := n1_
                   have HO286 := n2_
                   have HO289 := n3_
                   have HO292 := n4_
                   have BK262 := n5_
                   have HB := n6_
                   clear n0_ n1_ n2_ n3_ n4_ n5_ n6_
                   clear hb ho42
                   refine hK.out _ _ ⟨(blk_cell BK262.out 0).trans rfl, (blk_cell BK262.out 1).trans rfl⟩ (fun hHeld => ?_)
                   clear hK K
                   refine norm_ (a' := ?_) ?_ ?_
                   rotate_left
                   ·show Act.put _ (some 59) _ = _
                    simp only [Act.put, List.setIfInBounds_toArray, List.set_cons_zero, List.set_cons_succ, i64_w, i32_w]
                    rfl
                   exact norm_ (by simp only [putAll, Act.put, List.setIfInBounds_toArray, List.set_cons_zero, List.set_cons_succ]) (hCont (v280, v288, v291) _ ⟨hHeld, (by (with_reducible repeat (first | apply Kd.V_alloc | apply Kd.V_drewN | apply Kd.V_drew)); exact Kd.V_mono HO286.out (fun _ hk => ⟨hk.1.1.1, ⟨hk.1.2, ⟨hk.2, hk.1.1.2⟩⟩⟩)), (by (with_reducible repeat (first | apply Kd.R_alloc | apply Kd.R_drewN | apply Kd.R_drew)); exact Kd.R_mono HO289.out (fun _ hk => ⟨hk.1.1, ⟨hk.2, hk.1.2⟩⟩)), (by (with_reducible repeat (first | apply Kd.R_alloc | apply Kd.R_drewN | apply Kd.R_drew)); exact Kd.R_mono HO292.out (fun _ hk => ⟨hk.1.1.1, ⟨hk.1.2, hk.2⟩⟩)), (by (with_reducible repeat (first | apply Kd.V_alloc | apply Kd.V_drewN | apply Kd.V_drew)); exact Kd.V_mono HO_0.out (fun _ hk => ⟨hk.1.1.1, ⟨hk.1.2, ⟨hk.2, hk.1.1.2⟩⟩⟩)), (by (with_reducible repeat (first | apply Kd.V_alloc | apply Kd.V_drewN | apply Kd.V_drew)); exact Kd.V_mono HO_9.out (fun _ hk => ⟨hk.1.1.1, ⟨hk.1.2, ⟨hk.2, hk.1.1.2⟩⟩⟩)), (kB_ BK262.out), (by repeat (first | (with_reducible first | exact HB.out | apply below_alloc | apply pw_below_drewN | apply below_drew1 | refine below_set ?_ GE262.out) | exact HB.out))⟩)
                  ·skip
                   refine Kd.R_lit_step k35 _ 35 ?hg (N := 59) ?hd (xs := ([(⟨a2_0, a2_1⟩ : S35)] : List (S35))) (inner := [.string a2_0, .int .i64 a2_1]) (ok := fun _ => True) (okp := fun _ => True) ?hr ?hp (fun _ hk => hk) trivial (Below.refl _ _) (Nat.le_refl _) (by simp) ?_; (case hd => rfl); (case hg => rfl); (case hr => first | (go_simp; done) | (go_simp; rfl)); (case hp => exact (Reps.c2 (show Kd.M k35 _ _ _ (⟨a2_0, a2_1⟩ : S35) [.string a2_0, .int .i64 a2_1] from (k35_mkM _ _ _ (⟨a2_0, a2_1⟩ : S35) )) (Reps.none _ _)))
                   intro v291 w40 ho41 hb hg_ hnew_
                   clear hg_ hnew_
                   (first | rw [← Ny290.out] at ho41 | (simp only [Int.reduceToNat] at ho41; rw [← Ny290.out] at ho41))
                   have n0_ := Aside0.mk (Kd.V_elder' (by (with_reducible repeat (first | apply Kd.V_alloc | apply Kd.V_drewN | apply Kd.V_drew)); exact HO_0.out) (Kd.R_base ho41) hb)
                   have n1_ := Aside0.mk (Kd.V_elder' (by (with_reducible repeat (first | apply Kd.V_alloc | apply Kd.V_drewN | apply Kd.V_drew)); exact HO_9.out) (Kd.R_base ho41) hb)
                   have n2_ := Aside0.mk (Kd.V_elder' (by (with_reducible repeat (first | apply Kd.V_alloc | apply Kd.V_drewN | apply Kd.V_drew)); exact HO286.out) (Kd.R_base ho41) hb)
                   have n3_ := Aside0.mk (Kd.R_elder' (kR_ HO281.out) (Kd.R_base ho41) hb)
                   have n4_ := Aside0.mk (Kd.R_lower (Kd.R_newB (Kd.R_new' (Kd.R_newM (M := fun k_ => (w.heap.size ≤ k_)) ho41 (below_size (by repeat (first | (with_reducible first | exact HB.out | apply below_alloc | apply pw_below_drewN | apply below_drew1 | refine below_set ?_ GE262.out) | exact HB.out))) (fun k_ h_ => h_)) (Kd.R_lt (kR_ HO281.out))) (g := gb262) (o := .cells #[.string a2_0, .int .i64 a2_1] 35 (0, 0)) (kB_ BK262.out)) (below_size (by repeat (first | (with_reducible first | exact HB.out | apply below_alloc | apply pw_below_drewN | apply below_drew1 | refine below_set ?_ GE262.out) | exact HB.out))))
                   have n5_ := Aside0.mk (blk_below (g := gb262) (o := .cells #[.string a2_0, .int .i64 a2_1] 35 (0, 0)) (kB_ BK262.out) hb)
                   have n6_ := Aside0.mk (below_step (by repeat (first | (with_reducible first | exact HB.out | apply below_alloc | apply pw_below_drewN | apply below_drew1 | refine below_set ?_ GE262.out) | exact HB.out)) hb)
                   clear HO_0
                   clear HO_9
                   clear HO286
                   clear HO281
                   clear BK262
                   clear HB
                   have HO_0 := n0_
                   have HO_9 := n1_
                   have HO286 := n2_
                   have HO281 := n3_
                   have HO292 := n4_
                   have BK262 := n5_
                   have HB := n6_
                   clear n0_ n1_ n2_ n3_ n4_ n5_ n6_
                   clear hb ho41
                   refine hK.out _ _ ⟨(blk_cell BK262.out 0).trans rfl, (blk_cell BK262.out 1).trans rfl⟩ (fun hHeld => ?_)
                   clear hK K
                   refine norm_ (a' := ?_) ?_ ?_
                   rotate_left
                   ·show Act.put _ (some 59) _ = _
                    simp only [Act.put, List.setIfInBounds_toArray, List.set_cons_zero, List.set_cons_succ, i64_w, i32_w]
                    rfl
                   refine one_ (i := 4) (N := some 57) #[true, true, true, true, true, true, true, false, true, false, false] rfl rfl (one_of HT_.out (by kernel_rfl)) (by decide) (fun K hK => ?_)
                   refine Kd.R_append_rows_step k35 (w0 := w) w.heap.size (by rfl) (.tmp 53) (.tmp 56) 30 35 (.agg #[(.string ⟨#[]⟩), (.int .i64 0)]) 24 rfl Try.underlying30 info35 rfl (by decide) (by omega) v280 y279 y282 _ _ _ (fun k_ => (w.heap.size ≤ k_) ∧ some k_ ≠ (v291 : Value).ownBlock ∧ k_ ≠ gb262) (fun _ => False) rfl rfl ?aO ?aR (fun _ _ h => h) (fun _ h => h.elim) ?aF ?aB ?aS ?aL ?_
                   (case aR => repeat (first | exact (Kd.V_reads' HO286.out).2.2 | (with_reducible refine Kd.C_alloc ?_ _) | (with_reducible refine Kd.C_drewN ?_ _) | (with_reducible refine Kd.C_drew ?_)))
                   (case aB => exact (by repeat (first | (with_reducible first | exact HB.out | apply below_alloc | apply pw_below_drewN | apply below_drew1 | refine below_set ?_ GE262.out) | exact HB.out)))
                   (case aF => exact (fun k_ hk => ⟨(Nat.le_trans (below_size (by repeat (first | (with_reducible first | exact HB.out | apply below_alloc | apply pw_below_drewN | apply below_drew1 | refine below_set ?_ GE262.out) | exact HB.out))) hk), Kd.fresh' (Kd.R_lt (kR_ HO292.out)) k_ hk, Kd.freshB (g := gb262) (o := .cells #[.string a2_0, .int .i64 a2_1] 35 (0, 0)) (kB_ BK262.out) k_ hk⟩))
                   (case aO => exact (by (with_reducible repeat (first | apply Kd.R_alloc | apply Kd.R_drewN | apply Kd.R_drew)); exact Kd.R_mono HO281.out (fun _ hk => ⟨hk.1.1.1, ⟨hk.2, hk.1.2⟩⟩)))
                   (case aS => exact (below_size (by repeat (first | (with_reducible first | exact HB.out | apply below_alloc | apply pw_below_drewN | apply below_drew1 | refine below_set ?_ GE262.out) | exact HB.out))))
                   (case aL => have := LMc30.out; omega)
                   intro v288 w42 ho hb hg hat
                   rw [← Ny287.out] at ho
                   have n0_ := Aside0.mk (Kd.V_afterv (ok := (fun k_ => (P0_ k_ ∨ w.heap.size ≤ k_) ∧ some k_ ≠ (v291 : Value).ownBlock ∧ k_ ≠ gb262)) (by (with_reducible repeat (first | apply Kd.V_alloc | apply Kd.V_drewN | apply Kd.V_drew)); exact Kd.V_mono HO_0.out (fun _ hk => ⟨⟨hk.1.1.1, ⟨hk.2, hk.1.1.2⟩⟩, hk.1.2⟩)) hg hat)
                   have n1_ := Aside0.mk (Kd.V_afterv (ok := (fun k_ => (P0_ k_ ∨ w.heap.size ≤ k_) ∧ some k_ ≠ (v291 : Value).ownBlock ∧ k_ ≠ gb262)) (by (with_reducible repeat (first | apply Kd.V_alloc | apply Kd.V_drewN | apply Kd.V_drew)); exact Kd.V_mono HO_9.out (fun _ hk => ⟨⟨hk.1.1.1, ⟨hk.2, hk.1.1.2⟩⟩, hk.1.2⟩)) hg hat)
                   have n2_ := Aside0.mk (blk_grown (g := gb262) (o := .cells #[.string a2_0, .int .i64 a2_1] 35 (0, 0)) (kB_ BK262.out) hg (Kd.R_away HO281.out (fun _ hk => hk.1.2)))
                   have n3_ := Aside0.mk (Kd.V_afterv (ok := (fun k_ => (P0_ k_ ∨ w.heap.size ≤ k_) ∧ some k_ ≠ (v291 : Value).ownBlock ∧ k_ ≠ gb262)) (by (with_reducible repeat (first | apply Kd.V_alloc | apply Kd.V_drewN | apply Kd.V_drew)); exact Kd.V_mono HO286.out (fun _ hk => ⟨⟨hk.1.1.1, ⟨hk.2, hk.1.1.2⟩⟩, hk.1.2⟩)) hg hat)
                   have n4_ := Aside0.mk (Kd.R_after (ok := (fun k_ => (w.heap.size ≤ k_) ∧ k_ ≠ gb262)) (by (with_reducible repeat (first | apply Kd.R_alloc | apply Kd.R_drewN | apply Kd.R_drew)); exact Kd.R_mono HO292.out (fun _ hk => ⟨⟨hk.1.1.1, hk.2⟩, hk.1.2⟩)) hg hat)
                   have n5_ := Aside0.mk (hb)
                   have n6_ := Aside0.mk (ho)
                   clear HO_0
                   clear HO_9
                   clear BK262
                   clear HO286
                   clear HO292
                   clear HB
                   clear HO281
                   have HO_0 := n0_
                   have HO_9 := n1_
                   have BK262 := n2_
                   have HO286 := n3_
                   have HO292 := n4_
                   have HB := n5_
                   have HO289 := n6_
                   clear n0_ n1_ n2_ n3_ n4_ n5_ n6_
                   clear ho hb hg hat
                   refine hK.out _ _ ⟨(blk_cell BK262.out 0).trans rfl, (blk_cell BK262.out 1).trans rfl⟩ (fun hHeld => ?_)
                   clear hK K
                   refine norm_ (a' := ?_) ?_ ?_
                   rotate_left
                   ·show Act.put _ (some 57) _ = _
                    simp only [Act.put, List.setIfInBounds_toArray, List.set_cons_zero, List.set_cons_succ, i64_w, i32_w]
                    rfl
                   exact norm_ (by simp only [putAll, Act.put, List.setIfInBounds_toArray, List.set_cons_zero, List.set_cons_succ]) (hCont (v280, v288, v291) _ ⟨hHeld, (by (with_reducible repeat (first | apply Kd.V_alloc | apply Kd.V_drewN | apply Kd.V_drew)); exact Kd.V_mono HO286.out (fun _ hk => ⟨hk.1.1, ⟨hk.2, ⟨hk.1.2.1, hk.1.2.2⟩⟩⟩)), (kR_ HO289.out), (by (with_reducible repeat (first | apply Kd.R_alloc | apply Kd.R_drewN | apply Kd.R_drew)); exact Kd.R_mono HO292.out (fun _ hk => ⟨hk.1.1, ⟨hk.2, hk.1.2⟩⟩)), (by (with_reducible repeat (first | apply Kd.V_alloc | apply Kd.V_drewN | apply Kd.V_drew)); exact Kd.V_mono HO_0.out (fun _ hk => ⟨hk.1.1, ⟨hk.2, ⟨hk.1.2.1, hk.1.2.2⟩⟩⟩)), (by (with_reducible repeat (first | apply Kd.V_alloc | apply Kd.V_drewN | apply Kd.V_drew)); exact Kd.V_mono HO_9.out (fun _ hk => ⟨hk.1.1, ⟨hk.2, ⟨hk.1.2.1, hk.1.2.2⟩⟩⟩)), (kB_ BK262.out), (by repeat (first | (with_reducible first | exact HB.out | apply below_alloc | apply pw_below_drewN | apply below_drew1 | refine below_set ?_ GE262.out) | exact HB.out))⟩)
                 ·skip
                  refine Kd.R_lit_step k35 _ 35 ?hg (N := 59) ?hd (xs := ([(⟨a2_0, a2_1⟩ : S35)] : List (S35))) (inner := [.string a2_0, .int .i64 a2_1]) (ok := fun _ => True) (okp := fun _ => True) ?hr ?hp (fun _ hk => hk) trivial (Below.refl _ _) (Nat.le_refl _) (by simp) ?_; (case hd => rfl); (case hg => rfl); (case hr => first | (go_simp; done) | (go_simp; rfl)); (case hp => exact (Reps.c2 (show Kd.M k35 _ _ _ (⟨a2_0, a2_1⟩ : S35) [.string a2_0, .int .i64 a2_1] from (k35_mkM _ _ _ (⟨a2_0, a2_1⟩ : S35) )) (Reps.none _ _)))
                  intro v291 w38 ho39 hb hg_ hnew_
                  clear hg_ hnew_
                  (first | rw [← Ny290.out] at ho39 | (simp only [Int.reduceToNat] at ho39; rw [← Ny290.out] at ho39))
                  have n0_ := Aside0.mk (Kd.V_elder' (by (with_reducible repeat (first | apply Kd.V_alloc | apply Kd.V_drewN | apply Kd.V_drew)); exact HO_0.out) (Kd.R_base ho39) hb)
                  have n1_ := Aside0.mk (Kd.V_elder' (by (with_reducible repeat (first | apply Kd.V_alloc | apply Kd.V_drewN | apply Kd.V_drew)); exact HO_9.out) (Kd.R_base ho39) hb)
                  have n2_ := Aside0.mk (Kd.V_elder' (by (with_reducible repeat (first | apply Kd.V_alloc | apply Kd.V_drewN | apply Kd.V_drew)); exact HO286.out) (Kd.R_base ho39) hb)
                  have n3_ := Aside0.mk (Kd.R_lower (Kd.R_newB (Kd.R_newM (M := fun k_ => (w.heap.size ≤ k_)) ho39 (below_size (by repeat (first | (with_reducible first | exact HB.out | apply below_alloc | apply pw_below_drewN | apply below_drew1 | refine below_set ?_ GE262.out) | exact HB.out))) (fun k_ h_ => h_)) (g := gb262) (o := .cells #[.string a2_0, .int .i64 a2_1] 35 (0, 0)) (kB_ BK262.out)) (below_size (by repeat (first | (with_reducible first | exact HB.out | apply below_alloc | apply pw_below_drewN | apply below_drew1 | refine below_set ?_ GE262.out) | exact HB.out))))
                  have n4_ := Aside0.mk (blk_below (g := gb262) (o := .cells #[.string a2_0, .int .i64 a2_1] 35 (0, 0)) (kB_ BK262.out) hb)
                  have n5_ := Aside0.mk (below_step (by repeat (first | (with_reducible first | exact HB.out | apply below_alloc | apply pw_below_drewN | apply below_drew1 | refine below_set ?_ GE262.out) | exact HB.out)) hb)
                  clear HO_0
                  clear HO_9
                  clear HO286
                  clear BK262
                  clear HB
                  have HO_0 := n0_
                  have HO_9 := n1_
                  have HO286 := n2_
                  have HO292 := n3_
                  have BK262 := n4_
                  have HB := n5_
                  clear n0_ n1_ n2_ n3_ n4_ n5_
                  clear hb ho39
                  refine hK.out _ _ ⟨(blk_cell BK262.out 0).trans rfl, (blk_cell BK262.out 1).trans rfl⟩ (fun hHeld => ?_)
                  clear hK K
                  refine norm_ (a' := ?_) ?_ ?_
                  rotate_left
                  ·show Act.put _ (some 59) _ = _
                   simp only [Act.put, List.setIfInBounds_toArray, List.set_cons_zero, List.set_cons_succ, i64_w, i32_w]
                   rfl
                  refine one_ (i := 0) (N := some 53) #[true, true, true, true, false, true, true, false, true, false, false] rfl rfl (one_of HT_.out (by kernel_rfl)) (by decide) (fun K hK => ?_)
                  refine Kd.R_lit_step k35 _ 35 ?hg (N := 53) ?hd (xs := ([] : List (S35))) (inner := []) (ok := fun _ => True) (okp := fun _ => True) ?hr ?hp (fun _ hk => hk) trivial (Below.refl _ _) (Nat.le_refl _) (by simp) ?_; (case hd => rfl); (case hg => rfl); (case hr => first | (go_simp; done) | (go_simp; rfl)); (case hp => exact (Reps.none _ _))
                  intro v280 w40 ho41 hb hg_ hnew_
                  clear hg_ hnew_
                  (first | rw [← Ny279.out] at ho41 | (simp only [Int.reduceToNat] at ho41; rw [← Ny279.out] at ho41))
                  have n0_ := Aside0.mk (Kd.V_elder' (by (with_reducible repeat (first | apply Kd.V_alloc | apply Kd.V_drewN | apply Kd.V_drew)); exact HO_0.out) (Kd.R_base ho41) hb)
                  have n1_ := Aside0.mk (Kd.V_elder' (by (with_reducible repeat (first | apply Kd.V_alloc | apply Kd.V_drewN | apply Kd.V_drew)); exact HO_9.out) (Kd.R_base ho41) hb)
                  have n2_ := Aside0.mk (Kd.V_elder' (by (with_reducible repeat (first | apply Kd.V_alloc | apply Kd.V_drewN | apply Kd.V_drew)); exact HO286.out) (Kd.R_base ho41) hb)
                  have n3_ := Aside0.mk (Kd.R_elder' (kR_ HO292.out) (Kd.R_base ho41) hb)
                  have n4_ := Aside0.mk (Kd.R_lower (Kd.R_newB (Kd.R_new' (Kd.R_newM (M := fun k_ => (w.heap.size ≤ k_)) ho41 (below_size (by repeat (first | (with_reducible first | exact HB.out | apply below_alloc | apply pw_below_drewN | apply below_drew1 | refine below_set ?_ GE262.out) | exact HB.out))) (fun k_ h_ => h_)) (Kd.R_lt (kR_ HO292.out))) (g := gb262) (o := .cells #[.string a2_0, .int .i64 a2_1] 35 (0, 0)) (kB_ BK262.out)) (below_size (by repeat (first | (with_reducible first | exact HB.out | apply below_alloc | apply pw_below_drewN | apply below_drew1 | refine below_set ?_ GE262.out) | exact HB.out))))
                  have n5_ := Aside0.mk (blk_below (g := gb262) (o := .cells #[.string a2_0, .int .i64 a2_1] 35 (0, 0)) (kB_ BK262.out) hb)
                  have n6_ := Aside0.mk (below_step (by repeat (first | (with_reducible first | exact HB.out | apply below_alloc | apply pw_below_drewN | apply below_drew1 | refine below_set ?_ GE262.out) | exact HB.out)) hb)
                  clear HO_0
                  clear HO_9
                  clear HO286
                  clear HO292
                  clear BK262
                  clear HB
                  have HO_0 := n0_
                  have HO_9 := n1_
                  have HO286 := n2_
                  have HO292 := n3_
                  have HO281 := n4_
                  have BK262 := n5_
                  have HB := n6_
                  clear n0_ n1_ n2_ n3_ n4_ n5_ n6_
                  clear hb ho41
                  refine hK.out _ _ ⟨(blk_cell BK262.out 0).trans rfl, (blk_cell BK262.out 1).trans rfl⟩ (fun hHeld => ?_)
                  clear hK K
                  refine norm_ (a' := ?_) ?_ ?_
                  rotate_left
                  ·show Act.put _ (some 53) _ = _
                   simp only [Act.put, List.setIfInBounds_toArray, List.set_cons_zero, List.set_cons_succ, i64_w, i32_w]
                   rfl
                  refine one_ (i := 4) (N := some 57) #[true, true, true, true, true, true, true, false, true, false, false] rfl rfl (one_of HT_.out (by kernel_rfl)) (by decide) (fun K hK => ?_)
                  refine Kd.R_append_rows_step k35 (w0 := w) w.heap.size (by rfl) (.tmp 53) (.tmp 56) 30 35 (.agg #[(.string ⟨#[]⟩), (.int .i64 0)]) 24 rfl Try.underlying30 info35 rfl (by decide) (by omega) v280 y279 y282 _ _ _ (fun k_ => (w.heap.size ≤ k_) ∧ some k_ ≠ (v291 : Value).ownBlock ∧ k_ ≠ gb262) (fun _ => False) rfl rfl ?aO ?aR (fun _ _ h => h) (fun _ h => h.elim) ?aF ?aB ?aS ?aL ?_
                  (case aR => repeat (first | exact (Kd.V_reads' HO286.out).2.2 | (with_reducible refine Kd.C_alloc ?_ _) | (with_reducible refine Kd.C_drewN ?_ _) | (with_reducible refine Kd.C_drew ?_)))
                  (case aB => exact (by repeat (first | (with_reducible first | exact HB.out | apply below_alloc | apply pw_below_drewN | apply below_drew1 | refine below_set ?_ GE262.out) | exact HB.out)))
                  (case aF => exact (fun k_ hk => ⟨(Nat.le_trans (below_size (by repeat (first | (with_reducible first | exact HB.out | apply below_alloc | apply pw_below_drewN | apply below_drew1 | refine below_set ?_ GE262.out) | exact HB.out))) hk), Kd.fresh' (Kd.R_lt (kR_ HO292.out)) k_ hk, Kd.freshB (g := gb262) (o := .cells #[.string a2_0, .int .i64 a2_1] 35 (0, 0)) (kB_ BK262.out) k_ hk⟩))
                  (case aO => exact (by (with_reducible repeat (first | apply Kd.R_alloc | apply Kd.R_drewN | apply Kd.R_drew)); exact Kd.R_mono HO281.out (fun _ hk => ⟨hk.1.1.1, ⟨hk.1.2, hk.2⟩⟩)))
                  (case aS => exact (below_size (by repeat (first | (with_reducible first | exact HB.out | apply below_alloc | apply pw_below_drewN | apply below_drew1 | refine below_set ?_ GE262.out) | exact HB.out))))
                  (case aL => have := LMc30.out; omega)
                  intro v288 w42 ho hb hg hat
                  rw [← Ny287.out] at ho
                  have n0_ := Aside0.mk (Kd.V_afterv (ok := (fun k_ => (P0_ k_ ∨ w.heap.size ≤ k_) ∧ some k_ ≠ (v291 : Value).ownBlock ∧ k_ ≠ gb262)) (by (with_reducible repeat (first | apply Kd.V_alloc | apply Kd.V_drewN | apply Kd.V_drew)); exact Kd.V_mono HO_0.out (fun _ hk => ⟨⟨hk.1.1.1, ⟨hk.1.2, hk.1.1.2⟩⟩, hk.2⟩)) hg hat)
                  have n1_ := Aside0.mk (Kd.V_afterv (ok := (fun k_ => (P0_ k_ ∨ w.heap.size ≤ k_) ∧ some k_ ≠ (v291 : Value).ownBlock ∧ k_ ≠ gb262)) (by (with_reducible repeat (first | apply Kd.V_alloc | apply Kd.V_drewN | apply Kd.V_drew)); exact Kd.V_mono HO_9.out (fun _ hk => ⟨⟨hk.1.1.1, ⟨hk.1.2, hk.1.1.2⟩⟩, hk.2⟩)) hg hat)
                  have n2_ := Aside0.mk (blk_grown (g := gb262) (o := .cells #[.string a2_0, .int .i64 a2_1] 35 (0, 0)) (kB_ BK262.out) hg (Kd.R_away HO281.out (fun _ hk => hk.2)))
                  have n3_ := Aside0.mk (Kd.V_afterv (ok := (fun k_ => (P0_ k_ ∨ w.heap.size ≤ k_) ∧ some k_ ≠ (v291 : Value).ownBlock ∧ k_ ≠ gb262)) (by (with_reducible repeat (first | apply Kd.V_alloc | apply Kd.V_drewN | apply Kd.V_drew)); exact Kd.V_mono HO286.out (fun _ hk => ⟨⟨hk.1.1.1, ⟨hk.1.2, hk.1.1.2⟩⟩, hk.2⟩)) hg hat)
                  have n4_ := Aside0.mk (Kd.R_after (ok := (fun k_ => (w.heap.size ≤ k_) ∧ k_ ≠ gb262)) (by (with_reducible repeat (first | apply Kd.R_alloc | apply Kd.R_drewN | apply Kd.R_drew)); exact Kd.R_mono HO292.out (fun _ hk => ⟨⟨hk.1.1.1, hk.1.2⟩, hk.2⟩)) hg hat)
                  have n5_ := Aside0.mk (hb)
                  have n6_ := Aside0.mk (ho)
                  clear HO_0
                  clear HO_9
                  clear BK262
                  clear HO286
                  clear HO292
                  clear HB
                  clear HO281
                  have HO_0 := n0_
                  have HO_9 := n1_
                  have BK262 := n2_
                  have HO286 := n3_
                  have HO292 := n4_
                  have HB := n5_
                  have HO289 := n6_
                  clear n0_ n1_ n2_ n3_ n4_ n5_ n6_
                  clear ho hb hg hat
                  refine hK.out _ _ ⟨(blk_cell BK262.out 0).trans rfl, (blk_cell BK262.out 1).trans rfl⟩ (fun hHeld => ?_)
                  clear hK K
                  refine norm_ (a' := ?_) ?_ ?_
                  rotate_left
                  ·show Act.put _ (some 57) _ = _
                   simp only [Act.put, List.setIfInBounds_toArray, List.set_cons_zero, List.set_cons_succ, i64_w, i32_w]
                   rfl
                  exact norm_ (by simp only [putAll, Act.put, List.setIfInBounds_toArray, List.set_cons_zero, List.set_cons_succ]) (hCont (v280, v288, v291) _ ⟨hHeld, (by (with_reducible repeat (first | apply Kd.V_alloc | apply Kd.V_drewN | apply Kd.V_drew)); exact Kd.V_mono HO286.out (fun _ hk => ⟨hk.1.1, ⟨hk.2, ⟨hk.1.2.1, hk.1.2.2⟩⟩⟩)), (kR_ HO289.out), (by (with_reducible repeat (first | apply Kd.R_alloc | apply Kd.R_drewN | apply Kd.R_drew)); exact Kd.R_mono HO292.out (fun _ hk => ⟨hk.1.1, ⟨hk.2, hk.1.2⟩⟩)), (by (with_reducible repeat (first | apply Kd.V_alloc | apply Kd.V_drewN | apply Kd.V_drew)); exact Kd.V_mono HO_0.out (fun _ hk => ⟨hk.1.1, ⟨hk.2, ⟨hk.1.2.1, hk.1.2.2⟩⟩⟩)), (by (with_reducible repeat (first | apply Kd.V_alloc | apply Kd.V_drewN | apply Kd.V_drew)); exact Kd.V_mono HO_9.out (fun _ hk => ⟨hk.1.1, ⟨hk.2, ⟨hk.1.2.1, hk.1.2.2⟩⟩⟩)), (kB_ BK262.out), (by repeat (first | (with_reducible first | exact HB.out | apply below_alloc | apply pw_below_drewN | apply below_drew1 | refine below_set ?_ GE262.out) | exact HB.out))⟩)
                rintro ⟨v280, v288, v291⟩ w43 ⟨hS_, h0_, h1_, h2_, h3_, h4_, h5_, h6_⟩
                have n0_ : Aside0 (Kd.V k35 35 w43 w.heap.size (fun k_ => (P0_ k_ ∨ w.heap.size ≤ k_) ∧ some k_ ≠ (v288 : Value).ownBlock ∧ some k_ ≠ (v291 : Value).ownBlock ∧ k_ ≠ gb262) (.slice A0 y282.length c0) y282) := ⟨h0_⟩
                have n1_ : Aside0 (Kd.R k35 35 w43 w.heap.size (fun k_ => (w.heap.size ≤ k_) ∧ some k_ ≠ (v291 : Value).ownBlock ∧ k_ ≠ gb262) v288 y287) := ⟨h1_⟩
                have n2_ : Aside0 (Kd.R k35 35 w43 w.heap.size (fun k_ => (w.heap.size ≤ k_) ∧ some k_ ≠ (v288 : Value).ownBlock ∧ k_ ≠ gb262) v291 y290) := ⟨h2_⟩
                have n3_ : Aside0 (Kd.V k35 35 w43 w.heap.size (fun k_ => (P0_ k_ ∨ w.heap.size ≤ k_) ∧ some k_ ≠ (v288 : Value).ownBlock ∧ some k_ ≠ (v291 : Value).ownBlock ∧ k_ ≠ gb262) (.slice A0 l0.length c0) l0) := ⟨h3_⟩
                have n4_ : Aside0 (Kd.V k35 35 w43 w.heap.size (fun k_ => (P0_ k_ ∨ w.heap.size ≤ k_) ∧ some k_ ≠ (v288 : Value).ownBlock ∧ some k_ ≠ (v291 : Value).ownBlock ∧ k_ ≠ gb262) (.slice Ao35 x9_21.length co35) x9_21) := ⟨h4_⟩
                have n5_ : Aside0 (w43.heap[gb262]? = some (.cells #[.string a2_0, .int .i64 a2_1] 35 (0, 0))) := ⟨h5_⟩
                have n6_ : Aside0 (Below w.heap.size w w43) := ⟨h6_⟩
                clear HO_0
                clear HO_9
                clear BK262
                clear HB
                clear h0_ h1_ h2_ h3_ h4_ h5_ h6_
                have HO286 := n0_
                have HO289 := n1_
                have HO292 := n2_
                have HO_0 := n3_
                have HO_9 := n4_
                have BK262 := n5_
                have HB := n6_
                clear n0_ n1_ n2_ n3_ n4_ n5_ n6_
                have hHeld : w43.cell? ⟨gb262, 0, none⟩ = some (.string a2_0) ∧ w43.cell? ⟨gb262, 1, none⟩ = some (.int .i64 a2_1) := hS_
                obtain ⟨Ao45, co45, eo45⟩ := Kd.R_slice HO292.out
                (first | subst eo45 | (injection eo45 with f1_ f2_ f3_; have f4_ := f1_.symm; have f5_ := f3_.symm; clear f1_ f2_ f3_; subst f4_; subst f5_))
                refine norm_ (a' := ?_) ?_ ?_
                rotate_left
                ·simp only [putAll, Act.put, List.setIfInBounds_toArray, List.set_cons_zero, List.set_cons_succ]
                 rfl
                refine one_ (i := 7) (N := some 60) (tf_ 9 2) rfl rfl (one_of HT_.out (by kernel_rfl)) (by decide) (fun K hK => ?_)
                refine Kd.R_append_rows_step k35 (w0 := w) w.heap.size (by rfl) (.tmp 57) (.tmp 59) 30 35 (.agg #[(.string ⟨#[]⟩), (.int .i64 0)]) 24 rfl Try.underlying30 info35 rfl (by decide) (by omega) v288 y287 y290 _ _ _ (fun k_ => (w.heap.size ≤ k_) ∧ some k_ ≠ (.slice Ao45 y290.length co45 : Value).ownBlock ∧ k_ ≠ gb262) (fun _ => False) rfl rfl ?aO ?aR (fun _ _ h => h) (fun _ h => h.elim) ?aF ?aB ?aS ?aL ?_
                (case aR => repeat (first | exact (Kd.R_reads' HO292.out).2.2 | (with_reducible refine Kd.C_alloc ?_ _) | (with_reducible refine Kd.C_drewN ?_ _) | (with_reducible refine Kd.C_drew ?_)))
                (case aB => exact (by repeat (first | (with_reducible first | exact HB.out | apply below_alloc | apply pw_below_drewN | apply below_drew1 | refine below_set ?_ GE262.out) | exact HB.out)))
                (case aF => exact (fun k_ hk => ⟨(Nat.le_trans (below_size (by repeat (first | (with_reducible first | exact HB.out | apply below_alloc | apply pw_below_drewN | apply below_drew1 | refine below_set ?_ GE262.out) | exact HB.out))) hk), Kd.fresh' (Kd.R_lt (kR_ HO292.out)) k_ hk, Kd.freshB (g := gb262) (o := .cells #[.string a2_0, .int .i64 a2_1] 35 (0, 0)) (kB_ BK262.out) k_ hk⟩))
                (case aO => exact (kR_ HO289.out))
                (case aS => exact (below_size (by repeat (first | (with_reducible first | exact HB.out | apply below_alloc | apply pw_below_drewN | apply below_drew1 | refine below_set ?_ GE262.out) | exact HB.out))))
                (case aL => have := LMc31.out; omega)
                intro v294 w44 ho hb hg hat
                rw [← Ny293.out] at ho
                have n0_ := Aside0.mk (Kd.V_afterv (ok := (fun k_ => (P0_ k_ ∨ w.heap.size ≤ k_) ∧ some k_ ≠ (.slice Ao45 y290.length co45 : Value).ownBlock ∧ k_ ≠ gb262)) (by (with_reducible repeat (first | apply Kd.V_alloc | apply Kd.V_drewN | apply Kd.V_drew)); exact Kd.V_mono HO_0.out (fun _ hk => ⟨⟨hk.1, ⟨hk.2.2.1, hk.2.2.2⟩⟩, hk.2.1⟩)) hg hat)
                have n1_ := Aside0.mk (Kd.V_afterv (ok := (fun k_ => (P0_ k_ ∨ w.heap.size ≤ k_) ∧ some k_ ≠ (.slice Ao45 y290.length co45 : Value).ownBlock ∧ k_ ≠ gb262)) (by (with_reducible repeat (first | apply Kd.V_alloc | apply Kd.V_drewN | apply Kd.V_drew)); exact Kd.V_mono HO_9.out (fun _ hk => ⟨⟨hk.1, ⟨hk.2.2.1, hk.2.2.2⟩⟩, hk.2.1⟩)) hg hat)
                have n2_ := Aside0.mk (blk_grown (g := gb262) (o := .cells #[.string a2_0, .int .i64 a2_1] 35 (0, 0)) (kB_ BK262.out) hg (Kd.R_away HO289.out (fun _ hk => hk.2.2)))
                have n3_ := Aside0.mk (Kd.V_afterv (ok := (fun k_ => (P0_ k_ ∨ w.heap.size ≤ k_) ∧ some k_ ≠ (.slice Ao45 y290.length co45 : Value).ownBlock ∧ k_ ≠ gb262)) (by (with_reducible repeat (first | apply Kd.V_alloc | apply Kd.V_drewN | apply Kd.V_drew)); exact Kd.V_mono HO286.out (fun _ hk => ⟨⟨hk.1, ⟨hk.2.2.1, hk.2.2.2⟩⟩, hk.2.1⟩)) hg hat)
                have n4_ := Aside0.mk (Kd.R_after (ok := (fun k_ => (w.heap.size ≤ k_) ∧ k_ ≠ gb262)) (by (with_reducible repeat (first | apply Kd.R_alloc | apply Kd.R_drewN | apply Kd.R_drew)); exact Kd.R_mono HO292.out (fun _ hk => ⟨⟨hk.1, hk.2.2⟩, hk.2.1⟩)) hg hat)
                have n5_ := Aside0.mk (hb)
                have n6_ := Aside0.mk (ho)
                clear HO_0
                clear HO_9
                clear BK262
                clear HO286
                clear HO292
                clear HB
                clear HO289
                have HO_0 := n0_
                have HO_9 := n1_
                have BK262 := n2_
                have HO286 := n3_
                have HO292 := n4_
                have HB := n5_
                have HO295 := n6_
                clear n0_ n1_ n2_ n3_ n4_ n5_ n6_
                clear ho hb hg hat
                refine hK.out _ _ ⟨(blk_cell BK262.out 0).trans rfl, (blk_cell BK262.out 1).trans rfl⟩ (fun hHeld => ?_)
                clear hK K
                refine norm_ (a' := ?_) ?_ ?_
                rotate_left
                ·show Act.put _ (some 60) _ = _
                 simp only [Act.put, List.setIfInBounds_toArray, List.set_cons_zero, List.set_cons_succ, i64_w, i32_w]
                 rfl
                refine one_ (i := 9) (N := some 62) (tf_ 10 1) rfl rfl (one_of HT_.out (by kernel_rfl)) (by decide) (fun K hK => ?_)
                refine Kd.R_append_rows_step k35 (w0 := w) w.heap.size (by rfl) (.tmp 60) (.tmp 61) 30 35 (.agg #[(.string ⟨#[]⟩), (.int .i64 0)]) 24 rfl Try.underlying30 info35 rfl (by decide) (by omega) v294 y293 x9_21 _ _ _ (fun k_ => (w.heap.size ≤ k_) ∧ some k_ ≠ (.slice Ao45 y290.length co45 : Value).ownBlock ∧ k_ ≠ gb262) (fun _ => False) rfl rfl ?aO ?aR (fun _ _ h => h) (fun _ h => h.elim) ?aF ?aB ?aS ?aL ?_
                (case aR => repeat (first | exact (Kd.V_reads' HO_9.out).2.2 | (with_reducible refine Kd.C_alloc ?_ _) | (with_reducible refine Kd.C_drewN ?_ _) | (with_reducible refine Kd.C_drew ?_)))
                (case aB => exact (by repeat (first | (with_reducible first | exact HB.out | apply below_alloc | apply pw_below_drewN | apply below_drew1 | refine below_set ?_ GE262.out) | exact HB.out)))
                (case aF => exact (fun k_ hk => ⟨(Nat.le_trans (below_size (by repeat (first | (with_reducible first | exact HB.out | apply below_alloc | apply pw_below_drewN | apply below_drew1 | refine below_set ?_ GE262.out) | exact HB.out))) hk), Kd.fresh' (Kd.R_lt (kR_ HO292.out)) k_ hk, Kd.freshB (g := gb262) (o := .cells #[.string a2_0, .int .i64 a2_1] 35 (0, 0)) (kB_ BK262.out) k_ hk⟩))
                (case aO => exact (kR_ HO295.out))
                (case aS => exact (below_size (by repeat (first | (with_reducible first | exact HB.out | apply below_alloc | apply pw_below_drewN | apply below_drew1 | refine below_set ?_ GE262.out) | exact HB.out))))
                (case aL => have := LMc32.out; omega)
                intro v297 w46 ho hb hg hat
                rw [← Ny296.out] at ho
                have n0_ := Aside0.mk (Kd.V_afterv (ok := (fun k_ => (P0_ k_ ∨ w.heap.size ≤ k_) ∧ some k_ ≠ (.slice Ao45 y290.length co45 : Value).ownBlock ∧ k_ ≠ gb262)) (by (with_reducible repeat (first | apply Kd.V_alloc | apply Kd.V_drewN | apply Kd.V_drew)); exact HO_0.out) hg hat)
                have n1_ := Aside0.mk (Kd.V_afterv (ok := (fun k_ => (P0_ k_ ∨ w.heap.size ≤ k_) ∧ some k_ ≠ (.slice Ao45 y290.length co45 : Value).ownBlock ∧ k_ ≠ gb262)) (by (with_reducible repeat (first | apply Kd.V_alloc | apply Kd.V_drewN | apply Kd.V_drew)); exact HO_9.out) hg hat)
                have n2_ := Aside0.mk (blk_grown (g := gb262) (o := .cells #[.string a2_0, .int .i64 a2_1] 35 (0, 0)) (kB_ BK262.out) hg (Kd.R_away HO295.out (fun _ hk => hk.2.2)))
                have n3_ := Aside0.mk (Kd.V_afterv (ok := (fun k_ => (P0_ k_ ∨ w.heap.size ≤ k_) ∧ some k_ ≠ (.slice Ao45 y290.length co45 : Value).ownBlock ∧ k_ ≠ gb262)) (by (with_reducible repeat (first | apply Kd.V_alloc | apply Kd.V_drewN | apply Kd.V_drew)); exact HO286.out) hg hat)
                have n4_ := Aside0.mk (Kd.R_after (ok := (fun k_ => (w.heap.size ≤ k_) ∧ k_ ≠ gb262)) (kR_ HO292.out) hg hat)
                have n5_ := Aside0.mk (hb)
                have n6_ := Aside0.mk (ho)
                clear HO_0
                clear HO_9
                clear BK262
                clear HO286
                clear HO292
                clear HB
                clear HO295
                have HO_0 := n0_
                have HO_9 := n1_
                have BK262 := n2_
                have HO286 := n3_
                have HO292 := n4_
                have HB := n5_
                have HO298 := n6_
                clear n0_ n1_ n2_ n3_ n4_ n5_ n6_
                clear ho hb hg hat
                refine hK.out _ _ ⟨(blk_cell BK262.out 0).trans rfl, (blk_cell BK262.out 1).trans rfl⟩ (fun hHeld => ?_)
                clear hK K
                refine norm_ (a' := ?_) ?_ ?_
                rotate_left
                ·show Act.put _ (some 62) _ = _
                 simp only [Act.put, List.setIfInBounds_toArray, List.set_cons_zero, List.set_cons_succ, i64_w, i32_w]
                 rfl
                refine pa_ (i := 10) (N := some 10) (tf_ 11 0) ?_
                refine done_ (done_of HT_.out (by kernel_rfl)) ?_
                obtain ⟨Ao47, co47, eo47⟩ := Kd.R_slice HO298.out
                subst eo47
                try go_wp2_with (first | ((with_reducible refine gate_callee (f := 15) rfl ?_); refine goesL_ (some 65) rfl rfl Try.func15 (by kernel_rfl) rfl #[.slice Ao47 y296.length co47, .int .i64 a1] rfl sl_ ?_; (with_reducible refine (spec_BranchesValid.calls kj21 _ _ y296 a1 true _ ?side1 ?side2 A33.out).mono ?_); (case side1 => exact kC_ ((Kd.R_reads' HO298.out).2.2)); (case side2 => exact (Kd.R_reads' HO298.out).2.1); rintro e w48 ⟨rfl, hb⟩; refine ⟨_, rfl, ?_⟩; have n0_ := Aside0.mk (Kd.V_below (by (with_reducible repeat (first | apply Kd.V_alloc | apply Kd.V_drewN | apply Kd.V_drew)); exact HO_0.out) hb); have n1_ := Aside0.mk (Kd.V_below (by (with_reducible repeat (first | apply Kd.V_alloc | apply Kd.V_drewN | apply Kd.V_drew)); exact HO_9.out) hb); have n2_ := Aside0.mk (Kd.V_below (by (with_reducible repeat (first | apply Kd.V_alloc | apply Kd.V_drewN | apply Kd.V_drew)); exact HO286.out) hb); have n3_ := Aside0.mk (Kd.R_below (kR_ HO292.out) hb); have n4_ := Aside0.mk (Kd.R_below (kR_ HO298.out) hb); have n5_ := Aside0.mk (blk_below (g := gb262) (o := .cells #[.string a2_0, .int .i64 a2_1] 35 (0, 0)) (kB_ BK262.out) hb); have n6_ := Aside0.mk (below_step (by repeat (first | (with_reducible first | exact HB.out | apply below_alloc | apply pw_below_drewN | apply below_drew1 | refine below_set ?_ GE262.out) | exact HB.out)) hb); clear HO_0; clear HO_9; clear HO286; clear HO292; clear HO298; clear BK262; clear HB; have HO_0 := n0_; have HO_9 := n1_; have HO286 := n2_; have HO292 := n3_; have HO298 := n4_; have BK262 := n5_; have HB := n6_; clear n0_ n1_ n2_ n3_ n4_ n5_ n6_; (try clear hb)))
                go_ret2
                exact ⟨_, er_, by (with_reducible repeat (first | apply Kd.R_alloc | apply Kd.R_drewN | apply Kd.R_drew)); exact Kd.R_mono HO298.out (fun _ hk => hk.1), by repeat (first | (with_reducible first | exact HB.out | apply below_alloc | apply pw_below_drewN | apply below_drew1 | refine below_set ?_ GE262.out) | exact HB.out)⟩
               ·replace c34 := Bool.eq_false_iff.mpr c34
                subst c34
                have H1 : ((some (([] : List (S35)) : List (S35))).bind fun y300 => (if y300.length + l0.length < 5864062014805 then (some ((y300 ++ l0), false)) else (none))) = some (r1, r2) := by rw [if_neg (show ¬ (false = true) by decide)] at H; exact H
                clear H
                have H := H1
                clear H1
                obtain ⟨y300, hy300⟩ : ∃ y_ : List (S35), y_ = (([] : List (S35))) := ⟨_, rfl⟩
                replace H : (if y300.length + l0.length < 5864062014805 then (some ((y300 ++ l0), false)) else (none)) = some (r1, r2) := by first | (rw [hy300]; with_reducible exact H) | (have H2_ := (Option.bind_some _ _).symm.trans H; rw [hy300]; with_reducible exact H2_) | (have H2_ := (Option.bind_some _ _).symm.trans H; with_reducible exact H2_) | with_reducible exact H | (rw [hy300]; exact H) | exact H
                have Ny300 := Aside0.mk hy300
                clear hy300
                by_cases c49 : y300.length + l0.length < 5864062014805
                ·rw [if_pos c49] at H
                 have LMc49 := Aside0.mk c49
                 clear c49
                 obtain ⟨y303, hy303⟩ : ∃ y_ : List (S35), y_ = (y300 ++ l0) := ⟨_, rfl⟩
                 replace H : (some (y303, false)) = some (r1, r2) := by first | (rw [hy303]; with_reducible exact H) | (have H2_ := (Option.bind_some _ _).symm.trans H; rw [hy303]; with_reducible exact H2_) | (have H2_ := (Option.bind_some _ _).symm.trans H; with_reducible exact H2_) | with_reducible exact H | (rw [hy303]; exact H) | exact H
                 have Ny303 := Aside0.mk hy303
                 clear hy303
                 simp only [Option.some.injEq, Prod.mk.injEq] at H
                 obtain ⟨rfl, rfl⟩ := H
                 obtain ⟨Ao50, co50, eo50⟩ := Kd.V_slice HO_9.out
                 subst eo50
                 try go_wp2
                 have n0_ := Aside0.mk (Kd.V_drew HO_0.out)
                 have n1_ := Aside0.mk (Kd.V_drew HO_9.out)
                 have n2_ := Aside0.mk (blk_drew BK262.out)
                 have n3_ := Aside0.mk (below_drew1 HB.out)
                 clear HO_0
                 clear HO_9
                 clear BK262
                 clear HB
                 have HO_0 := n0_
                 have HO_9 := n1_
                 have BK262 := n2_
                 have HB := n3_
                 clear n0_ n1_ n2_ n3_
                 have q52 : (x8_5 : Int) ≤ ((l0.length : Int) : Int) := of_decide_eq_true ma_
                 obtain ⟨i052, hi052, _, hsz52, _⟩ := info_parts info35
                 have hroom52 : l0.length ≤ c0 := (Kd.V_reads' HO_0.out).2.1
                 have hC52 : Kd.F k35 _ _ A0 l0.length l0 := (Kd.V_at (base := w.heap.size) HO_0.out).2.2
                 have hcut52 := cut_to (P := Try.prog) 30 35 .i64 Try.underlying30 hi052 A0 l0.length c0 x8_5 (of_decide_eq_true ma_) q52 hroom52
                 have hr52 := Kd.F_take (m := (x8_5 : Int).toNat) hC52 (by omega)
                 have hy52 : y282.length = (x8_5 : Int).toNat := (by rw [Ny282.out, List.length_take]; omega)
                 rw [← Ny282.out] at hr52
                 rw [← hy52] at hcut52
                 have HO286 := Aside0.mk (show Kd.V k35 35 _ w.heap.size _ (.slice A0 y282.length c0) y282 from Kd.V_mk (by omega) hr52)
                 have HC286 := Aside0.mk (show y282.length ≤ c0 from by omega)
                 clear hr52 hC52 hroom52 hi052 hsz52
                 have KY52 := Aside0.mk hy52
                 clear hy52
                 replace q52 := eq_true q52
                 refine start_ (n := 11) (S := fun w' => w'.cell? ⟨gb262, 0, none⟩ = some (.string a2_0) ∧ w'.cell? ⟨gb262, 1, none⟩ = some (.int .i64 a2_1)) (ds := []) (tf_ 0 11) (by kernel_rfl) rfl rfl ⟨(blk_cell BK262.out 0).trans rfl, (blk_cell BK262.out 1).trans rfl⟩ (fun hHeld => ?_); refine with_tabW spec_SetBranch.tab9 spec_SetBranch.bits9 (fun HT_ HW_ => ?_)
                 generalize wc.drew = w51 at HO_0 HO_9 BK262 HB HO286 hHeld ⊢
                 refine pure_ (i := 1) (N := some 54) (v := ?_) (a' := ?_) #[false, true, false, false, false, false, false, false, false, false, false] rfl rfl (any_of HT_.out (by kernel_rfl)) (fun _ _ _ h => h) (Or.inl ⟨by rfl, ?_⟩) ?_ ?_; rotate_left; (intro w'; go_simp; with_reducible rfl); rotate_left; (simp only [Act.put, List.setIfInBounds_toArray, List.set_cons_zero, List.set_cons_succ, i64_w, i32_w]; rfl)
                 refine pure_ (i := 2) (N := some 55) (v := ?_) (a' := ?_) #[false, true, true, false, false, false, false, false, false, false, false] rfl rfl (any_of HT_.out (by kernel_rfl)) (fun _ _ _ h => h) (Or.inl ⟨by rfl, ?_⟩) ?_ ?_; rotate_left; (intro w'; go_simp; with_reducible rfl); rotate_left; (simp only [Act.put, List.setIfInBounds_toArray, List.set_cons_zero, List.set_cons_succ, i64_w, i32_w]; rfl)
                 refine pure_ (i := 3) (N := some 56) (v := ?_) (a' := ?_) #[false, true, true, true, false, false, false, false, false, false, false] rfl rfl (any_of HT_.out (by kernel_rfl)) (fun _ _ _ h => h) (Or.inl ⟨by rfl, ?_⟩) ?_ ?_; rotate_left; (intro w'; go_simp; with_reducible rfl); rotate_left; (simp only [Act.put, List.setIfInBounds_toArray, List.set_cons_zero, List.set_cons_succ, i64_w, i32_w]; rfl)
                 refine pure_ (i := 8) (N := some 61) (v := ?_) (a' := ?_) #[false, true, true, true, false, false, false, false, true, false, false] rfl rfl (any_of HT_.out (by kernel_rfl)) (fun _ _ _ h => h) (Or.inl ⟨by rfl, ?_⟩) ?_ ?_; rotate_left; (intro w'; go_simp; with_reducible rfl); rotate_left; (simp only [Act.put, List.setIfInBounds_toArray, List.set_cons_zero, List.set_cons_succ, i64_w, i32_w]; rfl)
                 refine take_ (i := 5) (N := some 58) (v := ?_) (a' := ?_) #[false, true, true, true, false, true, false, false, true, false, false] rfl rfl (take_ofW HT_.out HW_.out (by kernel_rfl)) (fun _ _ _ h => h) (Or.inl ⟨by rfl, ?_⟩) hHeld ?_ ?_
                 rotate_left
                 ·rintro w' ⟨s0, s1⟩
                  go_simp
                  with_reducible rfl
                 rotate_left
                 ·simp only [Act.put, List.setIfInBounds_toArray, List.set_cons_zero, List.set_cons_succ, i64_w, i32_w]
                  rfl
                 refine join_ (σ := Value × Value × Value) 3 #[true, true, true, true, true, true, true, false, true, false, false] (fun s_ => [(53, s_.1), (57, s_.2.1), (59, s_.2.2)]) (fun s_ w' => (w'.cell? ⟨gb262, 0, none⟩ = some (.string a2_0) ∧ w'.cell? ⟨gb262, 1, none⟩ = some (.int .i64 a2_1)) ∧ (Kd.V k35 35 w' w.heap.size (fun k_ => (P0_ k_ ∨ w.heap.size ≤ k_) ∧ some k_ ≠ (s_.2.1 : Value).ownBlock ∧ some k_ ≠ (s_.2.2 : Value).ownBlock ∧ k_ ≠ gb262) (.slice A0 y282.length c0) y282) ∧ (Kd.R k35 35 w' w.heap.size (fun k_ => (w.heap.size ≤ k_) ∧ some k_ ≠ (s_.2.2 : Value).ownBlock ∧ k_ ≠ gb262) s_.2.1 y287) ∧ (Kd.R k35 35 w' w.heap.size (fun k_ => (w.heap.size ≤ k_) ∧ some k_ ≠ (s_.2.1 : Value).ownBlock ∧ k_ ≠ gb262) s_.2.2 y290) ∧ (Kd.V k35 35 w' w.heap.size (fun k_ => (P0_ k_ ∨ w.heap.size ≤ k_) ∧ some k_ ≠ (s_.2.1 : Value).ownBlock ∧ some k_ ≠ (s_.2.2 : Value).ownBlock ∧ k_ ≠ gb262) (.slice A0 l0.length c0) l0) ∧ (Kd.V k35 35 w' w.heap.size (fun k_ => (P0_ k_ ∨ w.heap.size ≤ k_) ∧ some k_ ≠ (s_.2.1 : Value).ownBlock ∧ some k_ ≠ (s_.2.2 : Value).ownBlock ∧ k_ ≠ gb262) (.slice Ao50 x9_21.length co50) x9_21) ∧ (w'.heap[gb262]? = some (.cells #[.string a2_0, .int .i64 a2_1] 35 (0, 0))) ∧ (Below w.heap.size w w')) ?_ ?_
                 rotate_left
                 ·intro hCont
                  refine two_ (i := 0) (j := 6) (Ni := some 53) (Nj := some 59) #[true, true, true, true, false, true, false, false, true, false, false] #[false, true, true, true, false, true, true, false, true, false, false] rfl rfl rfl rfl (two_of HT_.out (by kernel_rfl)) (by decide) (by decide) (fun K hK => ?_) (fun K hK => ?_)
                  ·skip
                   refine Kd.R_lit_step k35 _ 35 ?hg (N := 53) ?hd (xs := ([] : List (S35))) (inner := []) (ok := fun _ => True) (okp := fun _ => True) ?hr ?hp (fun _ hk => hk) trivial (Below.refl _ _) (Nat.le_refl _) (by simp) ?_; (case hd => rfl); (case hg => rfl); (case hr => first | (go_simp; done) | (go_simp; rfl)); (case hp => exact (Reps.none _ _))
                   intro v280 w53 ho54 hb hg_ hnew_
                   clear hg_ hnew_
                   (first | rw [← Ny279.out] at ho54 | (simp only [Int.reduceToNat] at ho54; rw [← Ny279.out] at ho54))
                   have n0_ := Aside0.mk (Kd.V_elder' (by (with_reducible repeat (first | apply Kd.V_alloc | apply Kd.V_drewN | apply Kd.V_drew)); exact HO_0.out) (Kd.R_base ho54) hb)
                   have n1_ := Aside0.mk (Kd.V_elder' (by (with_reducible repeat (first | apply Kd.V_alloc | apply Kd.V_drewN | apply Kd.V_drew)); exact HO_9.out) (Kd.R_base ho54) hb)
                   have n2_ := Aside0.mk (Kd.V_elder' (by (with_reducible repeat (first | apply Kd.V_alloc | apply Kd.V_drewN | apply Kd.V_drew)); exact HO286.out) (Kd.R_base ho54) hb)
                   have n3_ := Aside0.mk (Kd.R_lower (Kd.R_newB (Kd.R_newM (M := fun k_ => (w.heap.size ≤ k_)) ho54 (below_size (by repeat (first | (with_reducible first | exact HB.out | apply below_alloc | apply pw_below_drewN | apply below_drew1 | refine below_set ?_ GE262.out) | exact HB.out))) (fun k_ h_ => h_)) (g := gb262) (o := .cells #[.string a2_0, .int .i64 a2_1] 35 (0, 0)) (kB_ BK262.out)) (below_size (by repeat (first | (with_reducible first | exact HB.out | apply below_alloc | apply pw_below_drewN | apply below_drew1 | refine below_set ?_ GE262.out) | exact HB.out))))
                   have n4_ := Aside0.mk (blk_below (g := gb262) (o := .cells #[.string a2_0, .int .i64 a2_1] 35 (0, 0)) (kB_ BK262.out) hb)
                   have n5_ := Aside0.mk (below_step (by repeat (first | (with_reducible first | exact HB.out | apply below_alloc | apply pw_below_drewN | apply below_drew1 | refine below_set ?_ GE262.out) | exact HB.out)) hb)
                   clear HO_0
                   clear HO_9
                   clear HO286
                   clear BK262
                   clear HB
                   have HO_0 := n0_
                   have HO_9 := n1_
                   have HO286 := n2_
                   have HO281 := n3_
                   have BK262 := n4_
                   have HB := n5_
                   clear n0_ n1_ n2_ n3_ n4_ n5_
                   clear hb ho54
                   refine hK.out _ _ ⟨(blk_cell BK262.out 0).trans rfl, (blk_cell BK262.out 1).trans rfl⟩ (fun hHeld => ?_)
                   clear hK K
                   refine norm_ (a' := ?_) ?_ ?_
                   rotate_left
                   ·show Act.put _ (some 53) _ = _
                    simp only [Act.put, List.setIfInBounds_toArray, List.set_cons_zero, List.set_cons_succ, i64_w, i32_w]
                    rfl
                   refine two_ (i := 4) (j := 6) (Ni := some 57) (Nj := some 59) #[true, true, true, true, true, true, false, false, true, false, false] #[true, true, true, true, false, true, true, false, true, false, false] rfl rfl rfl rfl (two_of HT_.out (by kernel_rfl)) (by decide) (by decide) (fun K hK => ?_) (fun K hK => ?_)
                   ·skip
                    refine Kd.R_append_rows_step k35 (w0 := w) w.heap.size (by rfl) (.tmp 53) (.tmp 56) 30 35 (.agg #[(.string ⟨#[]⟩), (.int .i64 0)]) 24 rfl Try.underlying30 info35 rfl (by decide) (by omega) v280 y279 y282 _ _ _ (fun k_ => (w.heap.size ≤ k_) ∧ k_ ≠ gb262) (fun _ => False) rfl rfl ?aO ?aR (fun _ _ h => h) (fun _ h => h.elim) ?aF ?aB ?aS ?aL ?_
                    (case aR => repeat (first | exact (Kd.V_reads' HO286.out).2.2 | (with_reducible refine Kd.C_alloc ?_ _) | (with_reducible refine Kd.C_drewN ?_ _) | (with_reducible refine Kd.C_drew ?_)))
                    (case aB => exact (by repeat (first | (with_reducible first | exact HB.out | apply below_alloc | apply pw_below_drewN | apply below_drew1 | refine below_set ?_ GE262.out) | exact HB.out)))
                    (case aF => exact (fun k_ hk => ⟨(Nat.le_trans (below_size (by repeat (first | (with_reducible first | exact HB.out | apply below_alloc | apply pw_below_drewN | apply below_drew1 | refine below_set ?_ GE262.out) | exact HB.out))) hk), Kd.freshB (g := gb262) (o := .cells #[.string a2_0, .int .i64 a2_1] 35 (0, 0)) (kB_ BK262.out) k_ hk⟩))
                    (case aO => exact (by (with_reducible repeat (first | apply Kd.R_alloc | apply Kd.R_drewN | apply Kd.R_drew)); exact Kd.R_mono HO281.out (fun _ hk => ⟨hk.1.1, hk.2⟩)))
                    (case aS => exact (below_size (by repeat (first | (with_reducible first | exact HB.out | apply below_alloc | apply pw_below_drewN | apply below_drew1 | refine below_set ?_ GE262.out) | exact HB.out))))
                    (case aL => have := LMc30.out; omega)
                    intro v288 w55 ho hb hg hat
                    rw [← Ny287.out] at ho
                    have n0_ := Aside0.mk (Kd.V_afterv (ok := (fun k_ => (P0_ k_ ∨ w.heap.size ≤ k_) ∧ k_ ≠ gb262)) (by (with_reducible repeat (first | apply Kd.V_alloc | apply Kd.V_drewN | apply Kd.V_drew)); exact HO_0.out) hg hat)
                    have n1_ := Aside0.mk (Kd.V_afterv (ok := (fun k_ => (P0_ k_ ∨ w.heap.size ≤ k_) ∧ k_ ≠ gb262)) (by (with_reducible repeat (first | apply Kd.V_alloc | apply Kd.V_drewN | apply Kd.V_drew)); exact HO_9.out) hg hat)
                    have n2_ := Aside0.mk (blk_grown (g := gb262) (o := .cells #[.string a2_0, .int .i64 a2_1] 35 (0, 0)) (kB_ BK262.out) hg (Kd.R_away HO281.out (fun _ hk => hk.2)))
                    have n3_ := Aside0.mk (Kd.V_afterv (ok := (fun k_ => (P0_ k_ ∨ w.heap.size ≤ k_) ∧ k_ ≠ gb262)) (by (with_reducible repeat (first | apply Kd.V_alloc | apply Kd.V_drewN | apply Kd.V_drew)); exact HO286.out) hg hat)
                    have n4_ := Aside0.mk (hb)
                    have n5_ := Aside0.mk (ho)
                    clear HO_0
                    clear HO_9
                    clear BK262
                    clear HO286
                    clear HB
                    clear HO281
                    have HO_0 := n0_
                    have HO_9 := n1_
                    have BK262 := n2_
                    have HO286 := n3_
                    have HB := n4_
                    have HO289 := n5_
                    clear n0_ n1_ n2_ n3_ n4_ n5_
                    clear ho hb hg hat
                    refine hK.out _ _ ⟨(blk_cell BK262.out 0).trans rfl, (blk_cell BK262.out 1).trans rfl⟩ (fun hHeld => ?_)
                    clear hK K
                    refine norm_ (a' := ?_) ?_ ?_
                    rotate_left
                    ·show Act.put _ (some 57) _ = _
                     simp only [Act.put, List.setIfInBounds_toArray, List.set_cons_zero, List.set_cons_succ, i64_w, i32_w]
                     rfl
                    refine one_ (i := 6) (N := some 59) #[true, true, true, true, true, true, true, false, true, false, false] rfl rfl (one_of HT_.out (by kernel_rfl)) (by decide) (fun K hK => ?_)
                    refine Kd.R_lit_step k35 _ 35 ?hg (N := 59) ?hd (xs := ([(⟨a2_0, a2_1⟩ : S35)] : List (S35))) (inner := [.string a2_0, .int .i64 a2_1]) (ok := fun _ => True) (okp := fun _ => True) ?hr ?hp (fun _ hk => hk) trivial (Below.refl _ _) (Nat.le_refl _) (by simp) ?_; (case hd => rfl); (case hg => rfl); (case hr => first | (go_simp; done) | (go_simp; rfl)); (case hp => exact (Reps.c2 (show Kd.M k35 _ _ _ (⟨a2_0, a2_1⟩ : S35) [.string a2_0, .int .i64 a2_1] from (k35_mkM _ _ _ (⟨a2_0, a2_1⟩ : S35) )) (Reps.none _ _)))
                    intro v291 w56 ho57 hb hg_ hnew_
                    clear hg_ hnew_
                    (first | rw [← Ny290.out] at ho57 | (simp only [Int.reduceToNat] at ho57; rw [← Ny290.out] at ho57))
                    have n0_ := Aside0.mk (Kd.V_elder' (by (with_reducible repeat (first | apply Kd.V_alloc | apply Kd.V_drewN | apply Kd.V_drew)); exact HO_0.out) (Kd.R_base ho57) hb)
                    have n1_ := Aside0.mk (Kd.V_elder' (by (with_reducible repeat (first | apply Kd.V_alloc | apply Kd.V_drewN | apply Kd.V_drew)); exact HO_9.out) (Kd.R_base ho57) hb)
                    have n2_ := Aside0.mk (Kd.V_elder' (by (with_reducible repeat (first | apply Kd.V_alloc | apply Kd.V_drewN | apply Kd.V_drew)); exact HO286.out) (Kd.R_base ho57) hb)
                    have n3_ := Aside0.mk (Kd.R_elder' (kR_ HO289.out) (Kd.R_base ho57) hb)
                    have n4_ := Aside0.mk (Kd.R_lower (Kd.R_newB (Kd.R_new' (Kd.R_newM (M := fun k_ => (w.heap.size ≤ k_)) ho57 (below_size (by repeat (first | (with_reducible first | exact HB.out | apply below_alloc | apply pw_below_drewN | apply below_drew1 | refine below_set ?_ GE262.out) | exact HB.out))) (fun k_ h_ => h_)) (Kd.R_lt (kR_ HO289.out))) (g := gb262) (o := .cells #[.string a2_0, .int .i64 a2_1] 35 (0, 0)) (kB_ BK262.out)) (below_size (by repeat (first | (with_reducible first | exact HB.out | apply below_alloc | apply pw_below_drewN | apply below_drew1 | refine below_set ?_ GE262.out) | exact HB.out))))
                    have n5_ := Aside0.mk (blk_below (g := gb262) (o := .cells #[.string a2_0, .int .i64 a2_1] 35 (0, 0)) (kB_ BK262.out) hb)
                    have n6_ := Aside0.mk (below_step (by repeat (first | (with_reducible first | exact HB.out | apply below_alloc | apply pw_below_drewN | apply below_drew1 | refine below_set ?_ GE262.out) | exact HB.out)) hb)
                    clear HO_0
                    clear HO_9
                    clear HO286
                    clear HO289
                    clear BK262
                    clear HB
                    have HO_0 := n0_
                    have HO_9 := n1_
                    have HO286 := n2_
                    have HO289 := n3_
                    have HO292 := n4_
                    have BK262 := n5_
                    have HB := n6_
                    clear n0_ n1_ n2_ n3_ n4_ n5_ n6_
                    clear hb ho57
                    refine hK.out _ _ ⟨(blk_cell BK262.out 0).trans rfl, (blk_cell BK262.out 1).trans rfl⟩ (fun hHeld => ?_)
                    clear hK K
                    refine norm_ (a' := ?_) ?_ ?_
                    rotate_left
                    ·show Act.put _ (some 59) _ = _
                     simp only [Act.put, List.setIfInBounds_toArray, List.set_cons_zero, List.set_cons_succ, i64_w, i32_w]
                     rfl
                    exact norm_ (by simp only [putAll, Act.put, List.setIfInBounds_toArray, List.set_cons_zero, List.set_cons_succ]) (hCont (v280, v288, v291) _ ⟨hHeld, (by (with_reducible repeat (first | apply Kd.V_alloc | apply Kd.V_drewN | apply Kd.V_drew)); exact Kd.V_mono HO286.out (fun _ hk => ⟨hk.1.1.1, ⟨hk.1.2, ⟨hk.2, hk.1.1.2⟩⟩⟩)), (by (with_reducible repeat (first | apply Kd.R_alloc | apply Kd.R_drewN | apply Kd.R_drew)); exact Kd.R_mono HO289.out (fun _ hk => ⟨hk.1.1, ⟨hk.2, hk.1.2⟩⟩)), (by (with_reducible repeat (first | apply Kd.R_alloc | apply Kd.R_drewN | apply Kd.R_drew)); exact Kd.R_mono HO292.out (fun _ hk => ⟨hk.1.1.1, ⟨hk.1.2, hk.2⟩⟩)), (by (with_reducible repeat (first | apply Kd.V_alloc | apply Kd.V_drewN | apply Kd.V_drew)); exact Kd.V_mono HO_0.out (fun _ hk => ⟨hk.1.1.1, ⟨hk.1.2, ⟨hk.2, hk.1.1.2⟩⟩⟩)), (by (with_reducible repeat (first | apply Kd.V_alloc | apply Kd.V_drewN | apply Kd.V_drew)); exact Kd.V_mono HO_9.out (fun _ hk => ⟨hk.1.1.1, ⟨hk.1.2, ⟨hk.2, hk.1.1.2⟩⟩⟩)), (kB_ BK262.out), (by repeat (first | (with_reducible first | exact HB.out | apply below_alloc | apply pw_below_drewN | apply below_drew1 | refine below_set ?_ GE262.out) | exact HB.out))⟩)
                   ·skip
                    refine Kd.R_lit_step k35 _ 35 ?hg (N := 59) ?hd (xs := ([(⟨a2_0, a2_1⟩ : S35)] : List (S35))) (inner := [.string a2_0, .int .i64 a2_1]) (ok := fun _ => True) (okp := fun _ => True) ?hr ?hp (fun _ hk => hk) trivial (Below.refl _ _) (Nat.le_refl _) (by simp) ?_; (case hd => rfl); (case hg => rfl); (case hr => first | (go_simp; done) | (go_simp; rfl)); (case hp => exact (Reps.c2 (show Kd.M k35 _ _ _ (⟨a2_0, a2_1⟩ : S35) [.string a2_0, .int .i64 a2_1] from (k35_mkM _ _ _ (⟨a2_0, a2_1⟩ : S35) )) (Reps.none _ _)))
                    intro v291 w55 ho56 hb hg_ hnew_
                    clear hg_ hnew_
                    (first | rw [← Ny290.out] at ho56 | (simp only [Int.reduceToNat] at ho56; rw [← Ny290.out] at ho56))
                    have n0_ := Aside0.mk (Kd.V_elder' (by (with_reducible repeat (first | apply Kd.V_alloc | apply Kd.V_drewN | apply Kd.V_drew)); exact HO_0.out) (Kd.R_base ho56) hb)
                    have n1_ := Aside0.mk (Kd.V_elder' (by (with_reducible repeat (first | apply Kd.V_alloc | apply Kd.V_drewN | apply Kd.V_drew)); exact HO_9.out) (Kd.R_base ho56) hb)
                    have n2_ := Aside0.mk (Kd.V_elder' (by (with_reducible repeat (first | apply Kd.V_alloc | apply Kd.V_drewN | apply Kd.V_drew)); exact HO286.out) (Kd.R_base ho56) hb)
                    have n3_ := Aside0.mk (Kd.R_elder' (kR_ HO281.out) (Kd.R_base ho56) hb)
                    have n4_ := Aside0.mk (Kd.R_lower (Kd.R_newB (Kd.R_new' (Kd.R_newM (M := fun k_ => (w.heap.size ≤ k_)) ho56 (below_size (by repeat (first | (with_reducible first | exact HB.out | apply below_alloc | apply pw_below_drewN | apply below_drew1 | refine below_set ?_ GE262.out) | exact HB.out))) (fun k_ h_ => h_)) (Kd.R_lt (kR_ HO281.out))) (g := gb262) (o := .cells #[.string a2_0, .int .i64 a2_1] 35 (0, 0)) (kB_ BK262.out)) (below_size (by repeat (first | (with_reducible first | exact HB.out | apply below_alloc | apply pw_below_drewN | apply below_drew1 | refine below_set ?_ GE262.out) | exact HB.out))))
                    have n5_ := Aside0.mk (blk_below (g := gb262) (o := .cells #[.string a2_0, .int .i64 a2_1] 35 (0, 0)) (kB_ BK262.out) hb)
                    have n6_ := Aside0.mk (below_step (by repeat (first | (with_reducible first | exact HB.out | apply below_alloc | apply pw_below_drewN | apply below_drew1 | refine below_set ?_ GE262.out) | exact HB.out)) hb)
                    clear HO_0
                    clear HO_9
                    clear HO286
                    clear HO281
                    clear BK262
                    clear HB
                    have HO_0 := n0_
                    have HO_9 := n1_
                    have HO286 := n2_
                    have HO281 := n3_
                    have HO292 := n4_
                    have BK262 := n5_
                    have HB := n6_
                    clear n0_ n1_ n2_ n3_ n4_ n5_ n6_
                    clear hb ho56
                    refine hK.out _ _ ⟨(blk_cell BK262.out 0).trans rfl, (blk_cell BK262.out 1).trans rfl⟩ (fun hHeld => ?_)
                    clear hK K
                    refine norm_ (a' := ?_) ?_ ?_
                    rotate_left
                    ·show Act.put _ (some 59) _ = _
                     simp only [Act.put, List.setIfInBounds_toArray, List.set_cons_zero, List.set_cons_succ, i64_w, i32_w]
                     rfl
                    refine one_ (i := 4) (N := some 57) #[true, true, true, true, true, true, true, false, true, false, false] rfl rfl (one_of HT_.out (by kernel_rfl)) (by decide) (fun K hK => ?_)
                    refine Kd.R_append_rows_step k35 (w0 := w) w.heap.size (by rfl) (.tmp 53) (.tmp 56) 30 35 (.agg #[(.string ⟨#[]⟩), (.int .i64 0)]) 24 rfl Try.underlying30 info35 rfl (by decide) (by omega) v280 y279 y282 _ _ _ (fun k_ => (w.heap.size ≤ k_) ∧ some k_ ≠ (v291 : Value).ownBlock ∧ k_ ≠ gb262) (fun _ => False) rfl rfl ?aO ?aR (fun _ _ h => h) (fun _ h => h.elim) ?aF ?aB ?aS ?aL ?_
                    (case aR => repeat (first | exact (Kd.V_reads' HO286.out).2.2 | (with_reducible refine Kd.C_alloc ?_ _) | (with_reducible refine Kd.C_drewN ?_ _) | (with_reducible refine Kd.C_drew ?_)))
                    (case aB => exact (by repeat (first | (with_reducible first | exact HB.out | apply below_alloc | apply pw_below_drewN | apply below_drew1 | refine below_set ?_ GE262.out) | exact HB.out)))
                    (case aF => exact (fun k_ hk => ⟨(Nat.le_trans (below_size (by repeat (first | (with_reducible first | exact HB.out | apply below_alloc | apply pw_below_drewN | apply below_drew1 | refine below_set ?_ GE262.out) | exact HB.out))) hk), Kd.fresh' (Kd.R_lt (kR_ HO292.out)) k_ hk, Kd.freshB (g := gb262) (o := .cells #[.string a2_0, .int .i64 a2_1] 35 (0, 0)) (kB_ BK262.out) k_ hk⟩))
                    (case aO => exact (by (with_reducible repeat (first | apply Kd.R_alloc | apply Kd.R_drewN | apply Kd.R_drew)); exact Kd.R_mono HO281.out (fun _ hk => ⟨hk.1.1.1, ⟨hk.2, hk.1.2⟩⟩)))
                    (case aS => exact (below_size (by repeat (first | (with_reducible first | exact HB.out | apply below_alloc | apply pw_below_drewN | apply below_drew1 | refine below_set ?_ GE262.out) | exact HB.out))))
                    (case aL => have := LMc30.out; omega)
                    intro v288 w57 ho hb hg hat
                    rw [← Ny287.out] at ho
                    have n0_ := Aside0.mk (Kd.V_afterv (ok := (fun k_ => (P0_ k_ ∨ w.heap.size ≤ k_) ∧ some k_ ≠ (v291 : Value).ownBlock ∧ k_ ≠ gb262)) (by (with_reducible repeat (first | apply Kd.V_alloc | apply Kd.V_drewN | apply Kd.V_drew)); exact Kd.V_mono HO_0.out (fun _ hk => ⟨⟨hk.1.1.1, ⟨hk.2, hk.1.1.2⟩⟩, hk.1.2⟩)) hg hat)
                    have n1_ := Aside0.mk (Kd.V_afterv (ok := (fun k_ => (P0_ k_ ∨ w.heap.size ≤ k_) ∧ some k_ ≠ (v291 : Value).ownBlock ∧ k_ ≠ gb262)) (by (with_reducible repeat (first | apply Kd.V_alloc | apply Kd.V_drewN | apply Kd.V_drew)); exact Kd.V_mono HO_9.out (fun _ hk => ⟨⟨hk.1.1.1, ⟨hk.2, hk.1.1.2⟩⟩, hk.1.2⟩)) hg hat)
                    have n2_ := Aside0.mk (blk_grown (g := gb262) (o := .cells #[.string a2_0, .int .i64 a2_1] 35 (0, 0)) (kB_ BK262.out) hg (Kd.R_away HO281.out (fun _ hk => hk.1.2)))
                    have n3_ := Aside0.mk (Kd.V_afterv (ok := (fun k_ => (P0_ k_ ∨ w.heap.size ≤ k_) ∧ some k_ ≠ (v291 : Value).ownBlock ∧ k_ ≠ gb262)) (by (with_reducible repeat (first | apply Kd.V_alloc | apply Kd.V_drewN | apply Kd.V_drew)); exact Kd.V_mono HO286.out (fun _ hk => ⟨⟨hk.1.1.1, ⟨hk.2, hk.1.1.2⟩⟩, hk.1.2⟩)) hg hat)
                    have n4_ := Aside0.mk (Kd.R_after (ok := (fun k_ => (w.heap.size ≤ k_) ∧ k_ ≠ gb262)) (by (with_reducible repeat (first | apply Kd.R_alloc | apply Kd.R_drewN | apply Kd.R_drew)); exact Kd.R_mono HO292.out (fun _ hk => ⟨⟨hk.1.1.1, hk.2⟩, hk.1.2⟩)) hg hat)
                    have n5_ := Aside0.mk (hb)
                    have n6_ := Aside0.mk (ho)
                    clear HO_0
                    clear HO_9
                    clear BK262
                    clear HO286
                    clear HO292
                    clear HB
                    clear HO281
                    have HO_0 := n0_
                    have HO_9 := n1_
                    have BK262 := n2_
                    have HO286 := n3_
                    have HO292 := n4_
                    have HB := n5_
                    have HO289 := n6_
                    clear n0_ n1_ n2_ n3_ n4_ n5_ n6_
                    clear ho hb hg hat
                    refine hK.out _ _ ⟨(blk_cell BK262.out 0).trans rfl, (blk_cell BK262.out 1).trans rfl⟩ (fun hHeld => ?_)
                    clear hK K
                    refine norm_ (a' := ?_) ?_ ?_
                    rotate_left
                    ·show Act.put _ (some 57) _ = _
                     simp only [Act.put, List.setIfInBounds_toArray, List.set_cons_zero, List.set_cons_succ, i64_w, i32_w]
                     rfl
                    exact norm_ (by simp only [putAll, Act.put, List.setIfInBounds_toArray, List.set_cons_zero, List.set_cons_succ]) (hCont (v280, v288, v291) _ ⟨hHeld, (by (with_reducible repeat (first | apply Kd.V_alloc | apply Kd.V_drewN | apply Kd.V_drew)); exact Kd.V_mono HO286.out (fun _ hk => ⟨hk.1.1, ⟨hk.2, ⟨hk.1.2.1, hk.1.2.2⟩⟩⟩)), (kR_ HO289.out), (by (with_reducible repeat (first | apply Kd.R_alloc | apply Kd.R_drewN | apply Kd.R_drew)); exact Kd.R_mono HO292.out (fun _ hk => ⟨hk.1.1, ⟨hk.2, hk.1.2⟩⟩)), (by (with_reducible repeat (first | apply Kd.V_alloc | apply Kd.V_drewN | apply Kd.V_drew)); exact Kd.V_mono HO_0.out (fun _ hk => ⟨hk.1.1, ⟨hk.2, ⟨hk.1.2.1, hk.1.2.2⟩⟩⟩)), (by (with_reducible repeat (first | apply Kd.V_alloc | apply Kd.V_drewN | apply Kd.V_drew)); exact Kd.V_mono HO_9.out (fun _ hk => ⟨hk.1.1, ⟨hk.2, ⟨hk.1.2.1, hk.1.2.2⟩⟩⟩)), (kB_ BK262.out), (by repeat (first | (with_reducible first | exact HB.out | apply below_alloc | apply pw_below_drewN | apply below_drew1 | refine below_set ?_ GE262.out) | exact HB.out))⟩)
                  ·skip
                   refine Kd.R_lit_step k35 _ 35 ?hg (N := 59) ?hd (xs := ([(⟨a2_0, a2_1⟩ : S35)] : List (S35))) (inner := [.string a2_0, .int .i64 a2_1]) (ok := fun _ => True) (okp := fun _ => True) ?hr ?hp (fun _ hk => hk) trivial (Below.refl _ _) (Nat.le_refl _) (by simp) ?_; (case hd => rfl); (case hg => rfl); (case hr => first | (go_simp; done) | (go_simp; rfl)); (case hp => exact (Reps.c2 (show Kd.M k35 _ _ _ (⟨a2_0, a2_1⟩ : S35) [.string a2_0, .int .i64 a2_1] from (k35_mkM _ _ _ (⟨a2_0, a2_1⟩ : S35) )) (Reps.none _ _)))
                   intro v291 w53 ho54 hb hg_ hnew_
                   clear hg_ hnew_
                   (first | rw [← Ny290.out] at ho54 | (simp only [Int.reduceToNat] at ho54; rw [← Ny290.out] at ho54))
                   have n0_ := Aside0.mk (Kd.V_elder' (by (with_reducible repeat (first | apply Kd.V_alloc | apply Kd.V_drewN | apply Kd.V_drew)); exact HO_0.out) (Kd.R_base ho54) hb)
                   have n1_ := Aside0.mk (Kd.V_elder' (by (with_reducible repeat (first | apply Kd.V_alloc | apply Kd.V_drewN | apply Kd.V_drew)); exact HO_9.out) (Kd.R_base ho54) hb)
                   have n2_ := Aside0.mk (Kd.V_elder' (by (with_reducible repeat (first | apply Kd.V_alloc | apply Kd.V_drewN | apply Kd.V_drew)); exact HO286.out) (Kd.R_base ho54) hb)
                   have n3_ := Aside0.mk (Kd.R_lower (Kd.R_newB (Kd.R_newM (M := fun k_ => (w.heap.size ≤ k_)) ho54 (below_size (by repeat (first | (with_reducible first | exact HB.out | apply below_alloc | apply pw_below_drewN | apply below_drew1 | refine below_set ?_ GE262.out) | exact HB.out))) (fun k_ h_ => h_)) (g := gb262) (o := .cells #[.string a2_0, .int .i64 a2_1] 35 (0, 0)) (kB_ BK262.out)) (below_size (by repeat (first | (with_reducible first | exact HB.out | apply below_alloc | apply pw_below_drewN | apply below_drew1 | refine below_set ?_ GE262.out) | exact HB.out))))
                   have n4_ := Aside0.mk (blk_below (g := gb262) (o := .cells #[.string a2_0, .int .i64 a2_1] 35 (0, 0)) (kB_ BK262.out) hb)
                   have n5_ := Aside0.mk (below_step (by repeat (first | (with_reducible first | exact HB.out | apply below_alloc | apply pw_below_drewN | apply below_drew1 | refine below_set ?_ GE262.out) | exact HB.out)) hb)
                   clear HO_0
                   clear HO_9
                   clear HO286
                   clear BK262
                   clear HB
                   have HO_0 := n0_
                   have HO_9 := n1_
                   have HO286 := n2_
                   have HO292 := n3_
                   have BK262 := n4_
                   have HB := n5_
                   clear n0_ n1_ n2_ n3_ n4_ n5_
                   clear hb ho54
                   refine hK.out _ _ ⟨(blk_cell BK262.out 0).trans rfl, (blk_cell BK262.out 1).trans rfl⟩ (fun hHeld => ?_)
                   clear hK K
                   refine norm_ (a' := ?_) ?_ ?_
                   rotate_left
                   ·show Act.put _ (some 59) _ = _
                    simp only [Act.put, List.setIfInBounds_toArray, List.set_cons_zero, List.set_cons_succ, i64_w, i32_w]
                    rfl
                   refine one_ (i := 0) (N := some 53) #[true, true, true, true, false, true, true, false, true, false, false] rfl rfl (one_of HT_.out (by kernel_rfl)) (by decide) (fun K hK => ?_)
                   refine Kd.R_lit_step k35 _ 35 ?hg (N := 53) ?hd (xs := ([] : List (S35))) (inner := []) (ok := fun _ => True) (okp := fun _ => True) ?hr ?hp (fun _ hk => hk) trivial (Below.refl _ _) (Nat.le_refl _) (by simp) ?_; (case hd => rfl); (case hg => rfl); (case hr => first | (go_simp; done) | (go_simp; rfl)); (case hp => exact (Reps.none _ _))
                   intro v280 w55 ho56 hb hg_ hnew_
                   clear hg_ hnew_
                   (first | rw [← Ny279.out] at ho56 | (simp only [Int.reduceToNat] at ho56; rw [← Ny279.out] at ho56))
                   have n0_ := Aside0.mk (Kd.V_elder' (by (with_reducible repeat (first | apply Kd.V_alloc | apply Kd.V_drewN | apply Kd.V_drew)); exact HO_0.out) (Kd.R_base ho56) hb)
                   have n1_ := Aside0.mk (Kd.V_elder' (by (with_reducible repeat (first | apply Kd.V_alloc | apply Kd.V_drewN | apply Kd.V_drew)); exact HO_9.out) (Kd.R_base ho56) hb)
                   have n2_ := Aside0.mk (Kd.V_elder' (by (with_reducible repeat (first | apply Kd.V_alloc | apply Kd.V_drewN | apply Kd.V_drew)); exact HO286.out) (Kd.R_base ho56) hb)
                   have n3_ := Aside0.mk (Kd.R_elder' (kR_ HO292.out) (Kd.R_base ho56) hb)
                   have n4_ := Aside0.mk (Kd.R_lower (Kd.R_newB (Kd.R_new' (Kd.R_newM (M := fun k_ => (w.heap.size ≤ k_)) ho56 (below_size (by repeat (first | (with_reducible first | exact HB.out | apply below_alloc | apply pw_below_drewN | apply below_drew1 | refine below_set ?_ GE262.out) | exact HB.out))) (fun k_ h_ => h_)) (Kd.R_lt (kR_ HO292.out))) (g := gb262) (o := .cells #[.string a2_0, .int .i64 a2_1] 35 (0, 0)) (kB_ BK262.out)) (below_size (by repeat (first | (with_reducible first | exact HB.out | apply below_alloc | apply pw_below_drewN | apply below_drew1 | refine below_set ?_ GE262.out) | exact HB.out))))
                   have n5_ := Aside0.mk (blk_below (g := gb262) (o := .cells #[.string a2_0, .int .i64 a2_1] 35 (0, 0)) (kB_ BK262.out) hb)
                   have n6_ := Aside0.mk (below_step (by repeat (first | (with_reducible first | exact HB.out | apply below_alloc | apply pw_below_drewN | apply below_drew1 | refine below_set ?_ GE262.out) | exact HB.out)) hb)
                   clear HO_0
                   clear HO_9
                   clear HO286
                   clear HO292
                   clear BK262
                   clear HB
                   have HO_0 := n0_
                   have HO_9 := n1_
                   have HO286 := n2_
                   have HO292 := n3_
                   have HO281 := n4_
                   have BK262 := n5_
                   have HB := n6_
                   clear n0_ n1_ n2_ n3_ n4_ n5_ n6_
                   clear hb ho56
                   refine hK.out _ _ ⟨(blk_cell BK262.out 0).trans rfl, (blk_cell BK262.out 1).trans rfl⟩ (fun hHeld => ?_)
                   clear hK K
                   refine norm_ (a' := ?_) ?_ ?_
                   rotate_left
                   ·show Act.put _ (some 53) _ = _
                    simp only [Act.put, List.setIfInBounds_toArray, List.set_cons_zero, List.set_cons_succ, i64_w, i32_w]
                    rfl
                   refine one_ (i := 4) (N := some 57) #[true, true, true, true, true, true, true, false, true, false, false] rfl rfl (one_of HT_.out (by kernel_rfl)) (by decide) (fun K hK => ?_)
                   refine Kd.R_append_rows_step k35 (w0 := w) w.heap.size (by rfl) (.tmp 53) (.tmp 56) 30 35 (.agg #[(.string ⟨#[]⟩), (.int .i64 0)]) 24 rfl Try.underlying30 info35 rfl (by decide) (by omega) v280 y279 y282 _ _ _ (fun k_ => (w.heap.size ≤ k_) ∧ some k_ ≠ (v291 : Value).ownBlock ∧ k_ ≠ gb262) (fun _ => False) rfl rfl ?aO ?aR (fun _ _ h => h) (fun _ h => h.elim) ?aF ?aB ?aS ?aL ?_
                   (case aR => repeat (first | exact (Kd.V_reads' HO286.out).2.2 | (with_reducible refine Kd.C_alloc ?_ _) | (with_reducible refine Kd.C_drewN ?_ _) | (with_reducible refine Kd.C_drew ?_)))
                   (case aB => exact (by repeat (first | (with_reducible first | exact HB.out | apply below_alloc | apply pw_below_drewN | apply below_drew1 | refine below_set ?_ GE262.out) | exact HB.out)))
                   (case aF => exact (fun k_ hk => ⟨(Nat.le_trans (below_size (by repeat (first | (with_reducible first | exact HB.out | apply below_alloc | apply pw_below_drewN | apply below_drew1 | refine below_set ?_ GE262.out) | exact HB.out))) hk), Kd.fresh' (Kd.R_lt (kR_ HO292.out)) k_ hk, Kd.freshB (g := gb262) (o := .cells #[.string a2_0, .int .i64 a2_1] 35 (0, 0)) (kB_ BK262.out) k_ hk⟩))
                   (case aO => exact (by (with_reducible repeat (first | apply Kd.R_alloc | apply Kd.R_drewN | apply Kd.R_drew)); exact Kd.R_mono HO281.out (fun _ hk => ⟨hk.1.1.1, ⟨hk.1.2, hk.2⟩⟩)))
                   (case aS => exact (below_size (by repeat (first | (with_reducible first | exact HB.out | apply below_alloc | apply pw_below_drewN | apply below_drew1 | refine below_set ?_ GE262.out) | exact HB.out))))
                   (case aL => have := LMc30.out; omega)
                   intro v288 w57 ho hb hg hat
                   rw [← Ny287.out] at ho
                   have n0_ := Aside0.mk (Kd.V_afterv (ok := (fun k_ => (P0_ k_ ∨ w.heap.size ≤ k_) ∧ some k_ ≠ (v291 : Value).ownBlock ∧ k_ ≠ gb262)) (by (with_reducible repeat (first | apply Kd.V_alloc | apply Kd.V_drewN | apply Kd.V_drew)); exact Kd.V_mono HO_0.out (fun _ hk => ⟨⟨hk.1.1.1, ⟨hk.1.2, hk.1.1.2⟩⟩, hk.2⟩)) hg hat)
                   have n1_ := Aside0.mk (Kd.V_afterv (ok := (fun k_ => (P0_ k_ ∨ w.heap.size ≤ k_) ∧ some k_ ≠ (v291 : Value).ownBlock ∧ k_ ≠ gb262)) (by (with_reducible repeat (first | apply Kd.V_alloc | apply Kd.V_drewN | apply Kd.V_drew)); exact Kd.V_mono HO_9.out (fun _ hk => ⟨⟨hk.1.1.1, ⟨hk.1.2, hk.1.1.2⟩⟩, hk.2⟩)) hg hat)
                   have n2_ := Aside0.mk (blk_grown (g := gb262) (o := .cells #[.string a2_0, .int .i64 a2_1] 35 (0, 0)) (kB_ BK262.out) hg (Kd.R_away HO281.out (fun _ hk => hk.2)))
                   have n3_ := Aside0.mk (Kd.V_afterv (ok := (fun k_ => (P0_ k_ ∨ w.heap.size ≤ k_) ∧ some k_ ≠ (v291 : Value).ownBlock ∧ k_ ≠ gb262)) (by (with_reducible repeat (first | apply Kd.V_alloc | apply Kd.V_drewN | apply Kd.V_drew)); exact Kd.V_mono HO286.out (fun _ hk => ⟨⟨hk.1.1.1, ⟨hk.1.2, hk.1.1.2⟩⟩, hk.2⟩)) hg hat)
                   have n4_ := Aside0.mk (Kd.R_after (ok := (fun k_ => (w.heap.size ≤ k_) ∧ k_ ≠ gb262)) (by (with_reducible repeat (first | apply Kd.R_alloc | apply Kd.R_drewN | apply Kd.R_drew)); exact Kd.R_mono HO292.out (fun _ hk => ⟨⟨hk.1.1.1, hk.1.2⟩, hk.2⟩)) hg hat)
                   have n5_ := Aside0.mk (hb)
                   have n6_ := Aside0.mk (ho)
                   clear HO_0
                   clear HO_9
                   clear BK262
                   clear HO286
                   clear HO292
                   clear HB
                   clear HO281
                   have HO_0 := n0_
                   have HO_9 := n1_
                   have BK262 := n2_
                   have HO286 := n3_
                   have HO292 := n4_
                   have HB := n5_
                   have HO289 := n6_
                   clear n0_ n1_ n2_ n3_ n4_ n5_ n6_
                   clear ho hb hg hat
                   refine hK.out _ _ ⟨(blk_cell BK262.out 0).trans rfl, (blk_cell BK262.out 1).trans rfl⟩ (fun hHeld => ?_)
                   clear hK K
                   refine norm_ (a' := ?_) ?_ ?_
                   rotate_left
                   ·show Act.put _ (some 57) _ = _
                    simp only [Act.put, List.setIfInBounds_toArray, List.set_cons_zero, List.set_cons_succ, i64_w, i32_w]
                    rfl
                   exact norm_ (by simp only [putAll, Act.put, List.setIfInBounds_toArray, List.set_cons_zero, List.set_cons_succ]) (hCont (v280, v288, v291) _ ⟨hHeld, (by (with_reducible repeat (first | apply Kd.V_alloc | apply Kd.V_drewN | apply Kd.V_drew)); exact Kd.V_mono HO286.out (fun _ hk => ⟨hk.1.1, ⟨hk.2, ⟨hk.1.2.1, hk.1.2.2⟩⟩⟩)), (kR_ HO289.out), (by (with_reducible repeat (first | apply Kd.R_alloc | apply Kd.R_drewN | apply Kd.R_drew)); exact Kd.R_mono HO292.out (fun _ hk => ⟨hk.1.1, ⟨hk.2, hk.1.2⟩⟩)), (by (with_reducible repeat (first | apply Kd.V_alloc | apply Kd.V_drewN | apply Kd.V_drew)); exact Kd.V_mono HO_0.out (fun _ hk => ⟨hk.1.1, ⟨hk.2, ⟨hk.1.2.1, hk.1.2.2⟩⟩⟩)), (by (with_reducible repeat (first | apply Kd.V_alloc | apply Kd.V_drewN | apply Kd.V_drew)); exact Kd.V_mono HO_9.out (fun _ hk => ⟨hk.1.1, ⟨hk.2, ⟨hk.1.2.1, hk.1.2.2⟩⟩⟩)), (kB_ BK262.out), (by repeat (first | (with_reducible first | exact HB.out | apply below_alloc | apply pw_below_drewN | apply below_drew1 | refine below_set ?_ GE262.out) | exact HB.out))⟩)
                 rintro ⟨v280, v288, v291⟩ w58 ⟨hS_, h0_, h1_, h2_, h3_, h4_, h5_, h6_⟩
                 have n0_ : Aside0 (Kd.V k35 35 w58 w.heap.size (fun k_ => (P0_ k_ ∨ w.heap.size ≤ k_) ∧ some k_ ≠ (v288 : Value).ownBlock ∧ some k_ ≠ (v291 : Value).ownBlock ∧ k_ ≠ gb262) (.slice A0 y282.length c0) y282) := ⟨h0_⟩
                 have n1_ : Aside0 (Kd.R k35 35 w58 w.heap.size (fun k_ => (w.heap.size ≤ k_) ∧ some k_ ≠ (v291 : Value).ownBlock ∧ k_ ≠ gb262) v288 y287) := ⟨h1_⟩
                 have n2_ : Aside0 (Kd.R k35 35 w58 w.heap.size (fun k_ => (w.heap.size ≤ k_) ∧ some k_ ≠ (v288 : Value).ownBlock ∧ k_ ≠ gb262) v291 y290) := ⟨h2_⟩
                 have n3_ : Aside0 (Kd.V k35 35 w58 w.heap.size (fun k_ => (P0_ k_ ∨ w.heap.size ≤ k_) ∧ some k_ ≠ (v288 : Value).ownBlock ∧ some k_ ≠ (v291 : Value).ownBlock ∧ k_ ≠ gb262) (.slice A0 l0.length c0) l0) := ⟨h3_⟩
                 have n4_ : Aside0 (Kd.V k35 35 w58 w.heap.size (fun k_ => (P0_ k_ ∨ w.heap.size ≤ k_) ∧ some k_ ≠ (v288 : Value).ownBlock ∧ some k_ ≠ (v291 : Value).ownBlock ∧ k_ ≠ gb262) (.slice Ao50 x9_21.length co50) x9_21) := ⟨h4_⟩
                 have n5_ : Aside0 (w58.heap[gb262]? = some (.cells #[.string a2_0, .int .i64 a2_1] 35 (0, 0))) := ⟨h5_⟩
                 have n6_ : Aside0 (Below w.heap.size w w58) := ⟨h6_⟩
                 clear HO_0
                 clear HO_9
                 clear BK262
                 clear HB
                 clear h0_ h1_ h2_ h3_ h4_ h5_ h6_
                 have HO286 := n0_
                 have HO289 := n1_
                 have HO292 := n2_
                 have HO_0 := n3_
                 have HO_9 := n4_
                 have BK262 := n5_
                 have HB := n6_
                 clear n0_ n1_ n2_ n3_ n4_ n5_ n6_
                 have hHeld : w58.cell? ⟨gb262, 0, none⟩ = some (.string a2_0) ∧ w58.cell? ⟨gb262, 1, none⟩ = some (.int .i64 a2_1) := hS_
                 obtain ⟨Ao60, co60, eo60⟩ := Kd.R_slice HO292.out
                 (first | subst eo60 | (injection eo60 with f1_ f2_ f3_; have f4_ := f1_.symm; have f5_ := f3_.symm; clear f1_ f2_ f3_; subst f4_; subst f5_))
                 refine norm_ (a' := ?_) ?_ ?_
                 rotate_left
                 ·simp only [putAll, Act.put, List.setIfInBounds_toArray, List.set_cons_zero, List.set_cons_succ]
                  rfl
                 refine one_ (i := 7) (N := some 60) (tf_ 9 2) rfl rfl (one_of HT_.out (by kernel_rfl)) (by decide) (fun K hK => ?_)
                 refine Kd.R_append_rows_step k35 (w0 := w) w.heap.size (by rfl) (.tmp 57) (.tmp 59) 30 35 (.agg #[(.string ⟨#[]⟩), (.int .i64 0)]) 24 rfl Try.underlying30 info35 rfl (by decide) (by omega) v288 y287 y290 _ _ _ (fun k_ => (w.heap.size ≤ k_) ∧ some k_ ≠ (.slice Ao60 y290.length co60 : Value).ownBlock ∧ k_ ≠ gb262) (fun _ => False) rfl rfl ?aO ?aR (fun _ _ h => h) (fun _ h => h.elim) ?aF ?aB ?aS ?aL ?_
                 (case aR => repeat (first | exact (Kd.R_reads' HO292.out).2.2 | (with_reducible refine Kd.C_alloc ?_ _) | (with_reducible refine Kd.C_drewN ?_ _) | (with_reducible refine Kd.C_drew ?_)))
                 (case aB => exact (by repeat (first | (with_reducible first | exact HB.out | apply below_alloc | apply pw_below_drewN | apply below_drew1 | refine below_set ?_ GE262.out) | exact HB.out)))
                 (case aF => exact (fun k_ hk => ⟨(Nat.le_trans (below_size (by repeat (first | (with_reducible first | exact HB.out | apply below_alloc | apply pw_below_drewN | apply below_drew1 | refine below_set ?_ GE262.out) | exact HB.out))) hk), Kd.fresh' (Kd.R_lt (kR_ HO292.out)) k_ hk, Kd.freshB (g := gb262) (o := .cells #[.string a2_0, .int .i64 a2_1] 35 (0, 0)) (kB_ BK262.out) k_ hk⟩))
                 (case aO => exact (kR_ HO289.out))
                 (case aS => exact (below_size (by repeat (first | (with_reducible first | exact HB.out | apply below_alloc | apply pw_below_drewN | apply below_drew1 | refine below_set ?_ GE262.out) | exact HB.out))))
                 (case aL => have := LMc31.out; omega)
                 intro v294 w59 ho hb hg hat
                 rw [← Ny293.out] at ho
                 have n0_ := Aside0.mk (Kd.V_afterv (ok := (fun k_ => (P0_ k_ ∨ w.heap.size ≤ k_) ∧ some k_ ≠ (.slice Ao60 y290.length co60 : Value).ownBlock ∧ k_ ≠ gb262)) (by (with_reducible repeat (first | apply Kd.V_alloc | apply Kd.V_drewN | apply Kd.V_drew)); exact Kd.V_mono HO_0.out (fun _ hk => ⟨⟨hk.1, ⟨hk.2.2.1, hk.2.2.2⟩⟩, hk.2.1⟩)) hg hat)
                 have n1_ := Aside0.mk (Kd.V_afterv (ok := (fun k_ => (P0_ k_ ∨ w.heap.size ≤ k_) ∧ some k_ ≠ (.slice Ao60 y290.length co60 : Value).ownBlock ∧ k_ ≠ gb262)) (by (with_reducible repeat (first | apply Kd.V_alloc | apply Kd.V_drewN | apply Kd.V_drew)); exact Kd.V_mono HO_9.out (fun _ hk => ⟨⟨hk.1, ⟨hk.2.2.1, hk.2.2.2⟩⟩, hk.2.1⟩)) hg hat)
                 have n2_ := Aside0.mk (blk_grown (g := gb262) (o := .cells #[.string a2_0, .int .i64 a2_1] 35 (0, 0)) (kB_ BK262.out) hg (Kd.R_away HO289.out (fun _ hk => hk.2.2)))
                 have n3_ := Aside0.mk (Kd.V_afterv (ok := (fun k_ => (P0_ k_ ∨ w.heap.size ≤ k_) ∧ some k_ ≠ (.slice Ao60 y290.length co60 : Value).ownBlock ∧ k_ ≠ gb262)) (by (with_reducible repeat (first | apply Kd.V_alloc | apply Kd.V_drewN | apply Kd.V_drew)); exact Kd.V_mono HO286.out (fun _ hk => ⟨⟨hk.1, ⟨hk.2.2.1, hk.2.2.2⟩⟩, hk.2.1⟩)) hg hat)
                 have n4_ := Aside0.mk (Kd.R_after (ok := (fun k_ => (w.heap.size ≤ k_) ∧ k_ ≠ gb262)) (by (with_reducible repeat (first | apply Kd.R_alloc | apply Kd.R_drewN | apply Kd.R_drew)); exact Kd.R_mono HO292.out (fun _ hk => ⟨⟨hk.1, hk.2.2⟩, hk.2.1⟩)) hg hat)
                 have n5_ := Aside0.mk (hb)
                 have n6_ := Aside0.mk (ho)
                 clear HO_0
                 clear HO_9
                 clear BK262
                 clear HO286
                 clear HO292
                 clear HB
                 clear HO289
                 have HO_0 := n0_
                 have HO_9 := n1_
                 have BK262 := n2_
                 have HO286 := n3_
                 have HO292 := n4_
                 have HB := n5_
                 have HO295 := n6_
                 clear n0_ n1_ n2_ n3_ n4_ n5_ n6_
                 clear ho hb hg hat
                 refine hK.out _ _ ⟨(blk_cell BK262.out 0).trans rfl, (blk_cell BK262.out 1).trans rfl⟩ (fun hHeld => ?_)
                 clear hK K
                 refine norm_ (a' := ?_) ?_ ?_
                 rotate_left
                 ·show Act.put _ (some 60) _ = _
                  simp only [Act.put, List.setIfInBounds_toArray, List.set_cons_zero, List.set_cons_succ, i64_w, i32_w]
                  rfl
                 refine one_ (i := 9) (N := some 62) (tf_ 10 1) rfl rfl (one_of HT_.out (by kernel_rfl)) (by decide) (fun K hK => ?_)
                 refine Kd.R_append_rows_step k35 (w0 := w) w.heap.size (by rfl) (.tmp 60) (.tmp 61) 30 35 (.agg #[(.string ⟨#[]⟩), (.int .i64 0)]) 24 rfl Try.underlying30 info35 rfl (by decide) (by omega) v294 y293 x9_21 _ _ _ (fun k_ => (w.heap.size ≤ k_) ∧ some k_ ≠ (.slice Ao60 y290.length co60 : Value).ownBlock ∧ k_ ≠ gb262) (fun _ => False) rfl rfl ?aO ?aR (fun _ _ h => h) (fun _ h => h.elim) ?aF ?aB ?aS ?aL ?_
                 (case aR => repeat (first | exact (Kd.V_reads' HO_9.out).2.2 | (with_reducible refine Kd.C_alloc ?_ _) | (with_reducible refine Kd.C_drewN ?_ _) | (with_reducible refine Kd.C_drew ?_)))
                 (case aB => exact (by repeat (first | (with_reducible first | exact HB.out | apply below_alloc | apply pw_below_drewN | apply below_drew1 | refine below_set ?_ GE262.out) | exact HB.out)))
                 (case aF => exact (fun k_ hk => ⟨(Nat.le_trans (below_size (by repeat (first | (with_reducible first | exact HB.out | apply below_alloc | apply pw_below_drewN | apply below_drew1 | refine below_set ?_ GE262.out) | exact HB.out))) hk), Kd.fresh' (Kd.R_lt (kR_ HO292.out)) k_ hk, Kd.freshB (g := gb262) (o := .cells #[.string a2_0, .int .i64 a2_1] 35 (0, 0)) (kB_ BK262.out) k_ hk⟩))
                 (case aO => exact (kR_ HO295.out))
                 (case aS => exact (below_size (by repeat (first | (with_reducible first | exact HB.out | apply below_alloc | apply pw_below_drewN | apply below_drew1 | refine below_set ?_ GE262.out) | exact HB.out))))
                 (case aL => have := LMc32.out; omega)
                 intro v297 w61 ho hb hg hat
                 rw [← Ny296.out] at ho
                 have n0_ := Aside0.mk (Kd.V_afterv (ok := (fun k_ => (P0_ k_ ∨ w.heap.size ≤ k_) ∧ some k_ ≠ (.slice Ao60 y290.length co60 : Value).ownBlock ∧ k_ ≠ gb262)) (by (with_reducible repeat (first | apply Kd.V_alloc | apply Kd.V_drewN | apply Kd.V_drew)); exact HO_0.out) hg hat)
                 have n1_ := Aside0.mk (Kd.V_afterv (ok := (fun k_ => (P0_ k_ ∨ w.heap.size ≤ k_) ∧ some k_ ≠ (.slice Ao60 y290.length co60 : Value).ownBlock ∧ k_ ≠ gb262)) (by (with_reducible repeat (first | apply Kd.V_alloc | apply Kd.V_drewN | apply Kd.V_drew)); exact HO_9.out) hg hat)
                 have n2_ := Aside0.mk (blk_grown (g := gb262) (o := .cells #[.string a2_0, .int .i64 a2_1] 35 (0, 0)) (kB_ BK262.out) hg (Kd.R_away HO295.out (fun _ hk => hk.2.2)))
                 have n3_ := Aside0.mk (Kd.V_afterv (ok := (fun k_ => (P0_ k_ ∨ w.heap.size ≤ k_) ∧ some k_ ≠ (.slice Ao60 y290.length co60 : Value).ownBlock ∧ k_ ≠ gb262)) (by (with_reducible repeat (first | apply Kd.V_alloc | apply Kd.V_drewN | apply Kd.V_drew)); exact HO286.out) hg hat)
                 have n4_ := Aside0.mk (Kd.R_after (ok := (fun k_ => (w.heap.size ≤ k_) ∧ k_ ≠ gb262)) (kR_ HO292.out) hg hat)
                 have n5_ := Aside0.mk (hb)
                 have n6_ := Aside0.mk (ho)
                 clear HO_0
                 clear HO_9
                 clear BK262
                 clear HO286
                 clear HO292
                 clear HB
                 clear HO295
                 have HO_0 := n0_
                 have HO_9 := n1_
                 have BK262 := n2_
                 have HO286 := n3_
                 have HO292 := n4_
                 have HB := n5_
                 have HO298 := n6_
                 clear n0_ n1_ n2_ n3_ n4_ n5_ n6_
                 clear ho hb hg hat
                 refine hK.out _ _ ⟨(blk_cell BK262.out 0).trans rfl, (blk_cell BK262.out 1).trans rfl⟩ (fun hHeld => ?_)
                 clear hK K
                 refine norm_ (a' := ?_) ?_ ?_
                 rotate_left
                 ·show Act.put _ (some 62) _ = _
                  simp only [Act.put, List.setIfInBounds_toArray, List.set_cons_zero, List.set_cons_succ, i64_w, i32_w]
                  rfl
                 refine pa_ (i := 10) (N := some 10) (tf_ 11 0) ?_
                 refine done_ (done_of HT_.out (by kernel_rfl)) ?_
                 obtain ⟨Ao62, co62, eo62⟩ := Kd.R_slice HO298.out
                 subst eo62
                 try go_wp2_with (first | ((with_reducible refine gate_callee (f := 15) rfl ?_); refine goesL_ (some 65) rfl rfl Try.func15 (by kernel_rfl) rfl #[.slice Ao62 y296.length co62, .int .i64 a1] rfl sl_ ?_; (with_reducible refine (spec_BranchesValid.calls kj21 _ _ y296 a1 false _ ?side1 ?side2 A33.out).mono ?_); (case side1 => exact kC_ ((Kd.R_reads' HO298.out).2.2)); (case side2 => exact (Kd.R_reads' HO298.out).2.1); rintro e w63 ⟨rfl, hb⟩; refine ⟨_, rfl, ?_⟩; have n0_ := Aside0.mk (Kd.V_below (by (with_reducible repeat (first | apply Kd.V_alloc | apply Kd.V_drewN | apply Kd.V_drew)); exact HO_0.out) hb); have n1_ := Aside0.mk (Kd.V_below (by (with_reducible repeat (first | apply Kd.V_alloc | apply Kd.V_drewN | apply Kd.V_drew)); exact HO_9.out) hb); have n2_ := Aside0.mk (Kd.V_below (by (with_reducible repeat (first | apply Kd.V_alloc | apply Kd.V_drewN | apply Kd.V_drew)); exact HO286.out) hb); have n3_ := Aside0.mk (Kd.R_below (kR_ HO292.out) hb); have n4_ := Aside0.mk (Kd.R_below (kR_ HO298.out) hb); have n5_ := Aside0.mk (blk_below (g := gb262) (o := .cells #[.string a2_0, .int .i64 a2_1] 35 (0, 0)) (kB_ BK262.out) hb); have n6_ := Aside0.mk (below_step (by repeat (first | (with_reducible first | exact HB.out | apply below_alloc | apply pw_below_drewN | apply below_drew1 | refine below_set ?_ GE262.out) | exact HB.out)) hb); clear HO_0; clear HO_9; clear HO286; clear HO292; clear HO298; clear BK262; clear HB; have HO_0 := n0_; have HO_9 := n1_; have HO286 := n2_; have HO292 := n3_; have HO298 := n4_; have BK262 := n5_; have HB := n6_; clear n0_ n1_ n2_ n3_ n4_ n5_ n6_; (try clear hb); (try clear hk)) | ((with_reducible refine gate_dst (N := 67) rfl ?_); refine Kd.R_lit k35 _ 35 ?hg (N := 67) ?hd (xs := ([] : List (S35))) (inner := []) (ok := fun _ => True) (okp := fun _ => True) ?hr ?hp (fun _ hk => hk) trivial (Below.refl _ _) (Nat.le_refl _) (by simp) ?_; (case hd => rfl); (case hg => rfl); (case hr => first | (go_simp; done) | (go_simp; rfl)); (case hp => exact (Reps.none _ _)); intro v301 w64 ho65 hb hg_ hnew_; clear hg_ hnew_; (first | rw [← Ny300.out] at ho65 | (simp only [Int.reduceToNat] at ho65; rw [← Ny300.out] at ho65)); have n0_ := Aside0.mk (Kd.V_elder' (by (with_reducible repeat (first | apply Kd.V_alloc | apply Kd.V_drewN | apply Kd.V_drew)); exact HO_0.out) (Kd.R_base ho65) hb); have n1_ := Aside0.mk (Kd.V_elder' (by (with_reducible repeat (first | apply Kd.V_alloc | apply Kd.V_drewN | apply Kd.V_drew)); exact HO_9.out) (Kd.R_base ho65) hb); have n2_ := Aside0.mk (Kd.V_elder' (by (with_reducible repeat (first | apply Kd.V_alloc | apply Kd.V_drewN | apply Kd.V_drew)); exact HO286.out) (Kd.R_base ho65) hb); have n3_ := Aside0.mk (Kd.R_elder' (kR_ HO292.out) (Kd.R_base ho65) hb); have n4_ := Aside0.mk (Kd.R_elder' (kR_ HO298.out) (Kd.R_base ho65) hb); have n5_ := Aside0.mk (Kd.R_lower (Kd.R_newB (Kd.R_new' (Kd.R_new' (Kd.R_newM (M := fun k_ => (w.heap.size ≤ k_)) ho65 (below_size (by repeat (first | (with_reducible first | exact HB.out | apply below_alloc | apply pw_below_drewN | apply below_drew1 | refine below_set ?_ GE262.out) | exact HB.out))) (fun k_ h_ => h_)) (Kd.R_lt (kR_ HO292.out))) (Kd.R_lt (kR_ HO298.out))) (g := gb262) (o := .cells #[.string a2_0, .int .i64 a2_1] 35 (0, 0)) (kB_ BK262.out)) (below_size (by repeat (first | (with_reducible first | exact HB.out | apply below_alloc | apply pw_below_drewN | apply below_drew1 | refine below_set ?_ GE262.out) | exact HB.out)))); have n6_ := Aside0.mk (blk_below (g := gb262) (o := .cells #[.string a2_0, .int .i64 a2_1] 35 (0, 0)) (kB_ BK262.out) hb); have n7_ := Aside0.mk (below_step (by repeat (first | (with_reducible first | exact HB.out | apply below_alloc | apply pw_below_drewN | apply below_drew1 | refine below_set ?_ GE262.out) | exact HB.out)) hb); clear HO_0; clear HO_9; clear HO286; clear HO292; clear HO298; clear BK262; clear HB; have HO_0 := n0_; have HO_9 := n1_; have HO286 := n2_; have HO292 := n3_; have HO298 := n4_; have HO302 := n5_; have BK262 := n6_; have HB := n7_; clear n0_ n1_ n2_ n3_ n4_ n5_ n6_ n7_; clear hb ho65) | ((with_reducible refine gate_builtin (b := .append) (xs := #[.tmp 67, .tmp 68]) rfl ?_); at_builtin; refine Kd.R_append_rows k35 (w0 := w) w.heap.size rfl (.tmp 67) (.tmp 68) 30 35 (.agg #[(.string ⟨#[]⟩), (.int .i64 0)]) 24 rfl Try.underlying30 info35 rfl (by decide) (by omega) v301 y300 l0 _ _ _ (fun k_ => (w.heap.size ≤ k_) ∧ some k_ ≠ (.slice Ao60 y290.length co60 : Value).ownBlock ∧ some k_ ≠ (.slice Ao62 y296.length co62 : Value).ownBlock ∧ k_ ≠ gb262) (fun _ => False) rfl rfl ?aO ?aR (fun _ _ h => h) (fun _ h => h.elim) ?aF ?aB ?aS ?aL ?_; (case aR => repeat (first | exact (Kd.V_reads' HO_0.out).2.2 | (with_reducible refine Kd.C_alloc ?_ _) | (with_reducible refine Kd.C_drewN ?_ _) | (with_reducible refine Kd.C_drew ?_))); (case aB => exact (by repeat (first | (with_reducible first | exact HB.out | apply below_alloc | apply pw_below_drewN | apply below_drew1 | refine below_set ?_ GE262.out) | exact HB.out))); (case aF => exact (fun k_ hk => ⟨(Nat.le_trans (below_size (by repeat (first | (with_reducible first | exact HB.out | apply below_alloc | apply pw_below_drewN | apply below_drew1 | refine below_set ?_ GE262.out) | exact HB.out))) hk), Kd.fresh' (Kd.R_lt (kR_ HO292.out)) k_ hk, Kd.fresh' (Kd.R_lt (kR_ HO298.out)) k_ hk, Kd.freshB (g := gb262) (o := .cells #[.string a2_0, .int .i64 a2_1] 35 (0, 0)) (kB_ BK262.out) k_ hk⟩)); (case aO => exact (by (with_reducible repeat (first | apply Kd.R_alloc | apply Kd.R_drewN | apply Kd.R_drew)); exact Kd.R_mono HO302.out (fun _ hk => ⟨hk.1.1.1.1, ⟨hk.1.1.2, ⟨hk.1.2, hk.2⟩⟩⟩))); (case aS => exact (below_size (by repeat (first | (with_reducible first | exact HB.out | apply below_alloc | apply pw_below_drewN | apply below_drew1 | refine below_set ?_ GE262.out) | exact HB.out)))); (case aL => have := LMc49.out; omega); intro v304 w66 ho hb hg hat; rw [← Ny303.out] at ho; have n0_ := Aside0.mk (Kd.V_afterv (ok := (fun k_ => (P0_ k_ ∨ w.heap.size ≤ k_) ∧ some k_ ≠ (.slice Ao60 y290.length co60 : Value).ownBlock ∧ some k_ ≠ (.slice Ao62 y296.length co62 : Value).ownBlock ∧ k_ ≠ gb262)) (by (with_reducible repeat (first | apply Kd.V_alloc | apply Kd.V_drewN | apply Kd.V_drew)); exact Kd.V_mono HO_0.out (fun _ hk => ⟨⟨hk.1.1.1, ⟨hk.1.1.2.1, ⟨hk.1.2, hk.1.1.2.2⟩⟩⟩, hk.2⟩)) hg hat); have n1_ := Aside0.mk (Kd.V_afterv (ok := (fun k_ => (P0_ k_ ∨ w.heap.size ≤ k_) ∧ some k_ ≠ (.slice Ao60 y290.length co60 : Value).ownBlock ∧ some k_ ≠ (.slice Ao62 y296.length co62 : Value).ownBlock ∧ k_ ≠ gb262)) (by (with_reducible repeat (first | apply Kd.V_alloc | apply Kd.V_drewN | apply Kd.V_drew)); exact Kd.V_mono HO_9.out (fun _ hk => ⟨⟨hk.1.1.1, ⟨hk.1.1.2.1, ⟨hk.1.2, hk.1.1.2.2⟩⟩⟩, hk.2⟩)) hg hat); have n2_ := Aside0.mk (blk_grown (g := gb262) (o := .cells #[.string a2_0, .int .i64 a2_1] 35 (0, 0)) (kB_ BK262.out) hg (Kd.R_away HO302.out (fun _ hk => hk.2))); have n3_ := Aside0.mk (Kd.V_afterv (ok := (fun k_ => (P0_ k_ ∨ w.heap.size ≤ k_) ∧ some k_ ≠ (.slice Ao60 y290.length co60 : Value).ownBlock ∧ some k_ ≠ (.slice Ao62 y296.length co62 : Value).ownBlock ∧ k_ ≠ gb262)) (by (with_reducible repeat (first | apply Kd.V_alloc | apply Kd.V_drewN | apply Kd.V_drew)); exact Kd.V_mono HO286.out (fun _ hk => ⟨⟨hk.1.1.1, ⟨hk.1.1.2.1, ⟨hk.1.2, hk.1.1.2.2⟩⟩⟩, hk.2⟩)) hg hat); have n4_ := Aside0.mk (Kd.R_after (ok := (fun k_ => (w.heap.size ≤ k_) ∧ some k_ ≠ (.slice Ao62 y296.length co62 : Value).ownBlock ∧ k_ ≠ gb262)) (by (with_reducible repeat (first | apply Kd.R_alloc | apply Kd.R_drewN | apply Kd.R_drew)); exact Kd.R_mono HO292.out (fun _ hk => ⟨⟨hk.1.1.1, ⟨hk.1.2, hk.1.1.2⟩⟩, hk.2⟩)) hg hat); have n5_ := Aside0.mk (Kd.R_after (ok := (fun k_ => (w.heap.size ≤ k_) ∧ some k_ ≠ (.slice Ao60 y290.length co60 : Value).ownBlock ∧ k_ ≠ gb262)) (kR_ HO298.out) hg hat); have n6_ := Aside0.mk (hb); have n7_ := Aside0.mk (ho); clear HO_0; clear HO_9; clear BK262; clear HO286; clear HO292; clear HO298; clear HB; clear HO302; have HO_0 := n0_; have HO_9 := n1_; have BK262 := n2_; have HO286 := n3_; have HO292 := n4_; have HO298 := n5_; have HB := n6_; have HO305 := n7_; clear n0_ n1_ n2_ n3_ n4_ n5_ n6_ n7_; clear ho hb hg hat))
                 go_ret2
                 exact ⟨_, er_, by (with_reducible repeat (first | apply Kd.R_alloc | apply Kd.R_drewN | apply Kd.R_drew)); exact Kd.R_mono HO305.out (fun _ hk => hk.1), by repeat (first | (with_reducible first | exact HB.out | apply below_alloc | apply pw_below_drewN | apply below_drew1 | refine below_set ?_ GE262.out) | exact HB.out)⟩
                ·rw [if_neg c49] at H
                 exact absurd H (by simp)
              ·rw [if_neg c32] at H
               exact absurd H (by simp)
             ·rw [if_neg c31] at H
              exact absurd H (by simp)
            ·rw [if_neg c30] at H
             exact absurd H (by simp)
           ·rw [if_neg c29] at H
            exact absurd H (by simp)
          ·rw [if_neg c28] at H
           exact absurd H (by simp)
     ·rw [if_neg c16] at H
      exact absurd H (by simp)
    ·rw [if_neg c15] at H
     exact absurd H (by simp)
 ·replace c5 := Bool.eq_false_iff.mpr c5
  subst c5
  have H1 : (some ((([] : List (S35))), false)) = some (r1, r2) := by rw [if_neg (show ¬ (false = true) by decide)] at H; exact H
  clear H
  have H := H1
  clear H1
  obtain ⟨y264, hy264⟩ : ∃ y_ : List (S35), y_ = (([] : List (S35))) := ⟨_, rfl⟩
  replace H : (some (y264, false)) = some (r1, r2) := by first | (rw [hy264]; with_reducible exact H) | (have H2_ := (Option.bind_some _ _).symm.trans H; rw [hy264]; with_reducible exact H2_) | (have H2_ := (Option.bind_some _ _).symm.trans H; with_reducible exact H2_) | with_reducible exact H | (rw [hy264]; exact H) | exact H
  have Ny264 := Aside0.mk hy264
  clear hy264
  simp only [Option.some.injEq, Prod.mk.injEq] at H
  obtain ⟨rfl, rfl⟩ := H
  go_enter Try.func62, Try.ntmps62
  go_wp2_with (first | ((with_reducible refine gate_dst (N := 5) rfl ?_); refine box_event ?hg (N := 5) ?hd (cs := #[.string a2_0, .int .i64 a2_1]) (t := 35) ?hr ?_; (case hd => rfl); (case hg => rfl); (case hr => first | (go_simp; done) | (go_simp; rfl)); intro gb262 hg w67 hbox hb; have n0_ := Aside0.mk (Kd.V_below (Kd.V_elderB (by (with_reducible repeat (first | apply Kd.V_alloc | apply Kd.V_drewN | apply Kd.V_drew)); exact HO0.out) gb262 (Nat.le_of_eq hg.symm)) hb); have n1_ := Aside0.mk (below_step hb_ hb); have n2_ := Aside0.mk (hbox); have n3_ := Aside0.mk ((by rw [hg]; exact (below_size hb_) : w.heap.size ≤ gb262)); have n4_ := Aside0.mk ((by rw [hg]; exact (below_size hb_) : w.heap.size ≤ gb262)); clear HO0; clear HB; have HO0 := n0_; have HB := n1_; have BK262 := n2_; have GW262 := n3_; have GE262 := n4_; clear n0_ n1_ n2_ n3_ n4_; clear hb hbox hg) | ((with_reducible refine gate_callee (f := 15) rfl ?_); refine goesL_ (some 13) rfl rfl Try.func15 (by kernel_rfl) rfl #[.slice A0 l0.length c0, .int .i64 a1] rfl sl_ ?_; (with_reducible refine (spec_BranchesValid.calls k _ _ l0 a1 false _ ?side1 ?side2 A4.out).mono ?_); (case side1 => exact kC_ ((Kd.V_reads' HO0.out).2.2)); (case side2 => exact (Kd.V_reads' HO0.out).2.1); rintro e w68 ⟨rfl, hb⟩; refine ⟨_, rfl, ?_⟩; have n0_ := Aside0.mk (Kd.V_below (by (with_reducible repeat (first | apply Kd.V_alloc | apply Kd.V_drewN | apply Kd.V_drew)); exact HO0.out) hb); have n1_ := Aside0.mk (blk_below (g := gb262) (o := .cells #[.string a2_0, .int .i64 a2_1] 35 (0, 0)) (kB_ BK262.out) hb); have n2_ := Aside0.mk (below_step (by repeat (first | (with_reducible first | exact HB.out | apply below_alloc | apply pw_below_drewN | apply below_drew1 | refine below_set ?_ GE262.out) | exact HB.out)) hb); clear HO0; clear BK262; clear HB; have HO0 := n0_; have BK262 := n1_; have HB := n2_; clear n0_ n1_ n2_; (try clear hb); (try clear hk)) | ((with_reducible refine gate_dst (N := 15) rfl ?_); refine Kd.R_lit k35 _ 35 ?hg (N := 15) ?hd (xs := ([] : List (S35))) (inner := []) (ok := fun _ => True) (okp := fun _ => True) ?hr ?hp (fun _ hk => hk) trivial (Below.refl _ _) (Nat.le_refl _) (by simp) ?_; (case hd => rfl); (case hg => rfl); (case hr => first | (go_simp; done) | (go_simp; rfl)); (case hp => exact (Reps.none _ _)); intro v265 w69 ho70 hb hg_ hnew_; clear hg_ hnew_; (first | rw [← Ny264.out] at ho70 | (simp only [Int.reduceToNat] at ho70; rw [← Ny264.out] at ho70)); have n0_ := Aside0.mk (Kd.V_elder' (by (with_reducible repeat (first | apply Kd.V_alloc | apply Kd.V_drewN | apply Kd.V_drew)); exact HO0.out) (Kd.R_base ho70) hb); have n1_ := Aside0.mk (Kd.R_lower (Kd.R_newB (Kd.R_newM (M := fun k_ => (w.heap.size ≤ k_)) ho70 (below_size (by repeat (first | (with_reducible first | exact HB.out | apply below_alloc | apply pw_below_drewN | apply below_drew1 | refine below_set ?_ GE262.out) | exact HB.out))) (fun k_ h_ => h_)) (g := gb262) (o := .cells #[.string a2_0, .int .i64 a2_1] 35 (0, 0)) (kB_ BK262.out)) (below_size (by repeat (first | (with_reducible first | exact HB.out | apply below_alloc | apply pw_below_drewN | apply below_drew1 | refine below_set ?_ GE262.out) | exact HB.out)))); have n2_ := Aside0.mk (blk_below (g := gb262) (o := .cells #[.string a2_0, .int .i64 a2_1] 35 (0, 0)) (kB_ BK262.out) hb); have n3_ := Aside0.mk (below_step (by repeat (first | (with_reducible first | exact HB.out | apply below_alloc | apply pw_below_drewN | apply below_drew1 | refine below_set ?_ GE262.out) | exact HB.out)) hb); clear HO0; clear BK262; clear HB; have HO0 := n0_; have HO266 := n1_; have BK262 := n2_; have HB := n3_; clear n0_ n1_ n2_ n3_; clear hb ho70))
  go_ret2
  exact ⟨_, er_, by (with_reducible repeat (first | apply Kd.R_alloc | apply Kd.R_drewN | apply Kd.R_drew)); exact Kd.R_mono HO266.out (fun _ hk => hk.1.1), by repeat (first | (with_reducible first | exact HB.out | apply below_alloc | apply pw_below_drewN | apply below_drew1 | refine below_set ?_ GE262.out) | exact HB.out)⟩
end Go.Proofs.Ytglfoihpgpdooab.P
