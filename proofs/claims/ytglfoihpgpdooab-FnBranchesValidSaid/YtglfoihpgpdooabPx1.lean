-- The functions of the seat as plain Lean functions, made by the kit's print.py for all laws at once. Not trusted: Lean checks it.
import Derived.Test.YtglfoihpgpdooabPx0
namespace Go.Proofs.Ytglfoihpgpdooab.P
open Go.RowKit Go.Proofs.YtglfoihpgpdooabW.PrintWords Go.Proofs.YtglfoihpgpdooabW.PrintLast Go.Proofs.YtglfoihpgpdooabW.PrintMore
attribute [local go_sem] max2_int min2_int max_two min_two max_three min_three max_four min_four   -- for this text's walks alone
set_option linter.unusedVariables false
set_option linter.unusedSimpArgs false
/-! ### spec_l20Many: function 41 -/
def spec_l20Many.f (k : Nat) (s0_0 : List Int) (s0_1 : Int) : Option (Int × Int) := (spec_l20Rd_pick.f k s0_0 s0_1 8).bind fun bt243 => ((some (([wrap64 (1 + bt243.1), 12, 0, (-1), 13] : List Int) : List Int)).bind fun y245 => ((some (([0, 0, 0, 0, 0, 1, 2, 3, 4] : List Int) : List Int)).bind fun y248 => ((spec_l20Rd_pick.f k s0_0 bt243.2 9).bind fun bt251 => (if 0 ≤ bt251.1 then (if bt251.1 < (y248.length : Int) then (if 0 ≤ (rd y248 bt251.1) then (if (rd y248 bt251.1) < (y245.length : Int) then (some (rd y245 (rd y248 bt251.1), bt251.2)) else (none)) else (none)) else (none)) else (none)))))
theorem spec_l20Many.mono : ∀ a0 a1 k, LeO (spec_l20Many.f k a0 a1) (spec_l20Many.f (k + 1) a0 a1) := by
 intro a0 a1 k
 unfold spec_l20Many.f
 repeat' first
   | (with_reducible exact spec_l20Rd_pick.mono _ _ _ _)
   | (with_reducible exact LeO.refl _)
   | (with_reducible exact LeO.none _)
   | (with_reducible refine LeO.ite ?_ ?_)
   | (with_reducible refine LeO.bind ?_ (fun _ => ?_))
   | exact spec_l20Rd_pick.mono _ _ _ _
   | exact LeO.none _
   | refine LeO.ite ?_ ?_
   | refine LeO.bind ?_ (fun _ => ?_)
set_option maxHeartbeats 8000000 in
set_option maxRecDepth 100000 in
theorem spec_l20Many.calls (k : Nat) (g : Nat) (s0_0 : List Int) (s0_1 : Int) (r1 : Int) (r2 : Int) (w0 w : World) (hI : IsS85 w0 w g s0_0 s0_1) (hB : Below w0.heap.size w0 w) (h : spec_l20Many.f k s0_0 s0_1 = some (r1, r2)) :
  Calls Try.prog 41 #[.pointer (some ⟨g, 0, none⟩)] w fun e w' => e = .returned (.int .i64 r1) ∧ IsS85 w0 w' g s0_0 r2 ∧ Below w0.heap.size w0 w' ∧ KeepBut w w' g none := by
 have HI0 := Aside0.mk hI
 have HK := Aside0.mk (KeepBut.refl w g none)
 have HL := Aside0.mk hB.size
 clear hI
 have HW0 := Aside0.mk hB.size
 have HB := Aside0.mk hB
 clear hB
 have H : ((spec_l20Rd_pick.f k s0_0 s0_1 8).bind fun bt243 => ((some (([wrap64 (1 + bt243.1), 12, 0, (-1), 13] : List Int) : List Int)).bind fun y245 => ((some (([0, 0, 0, 0, 0, 1, 2, 3, 4] : List Int) : List Int)).bind fun y248 => ((spec_l20Rd_pick.f k s0_0 bt243.2 9).bind fun bt251 => (if 0 ≤ bt251.1 then (if bt251.1 < (y248.length : Int) then (if 0 ≤ (rd y248 bt251.1) then (if (rd y248 bt251.1) < (y245.length : Int) then (some (rd y245 (rd y248 bt251.1), bt251.2)) else (none)) else (none)) else (none)) else (none)))))) = some (r1, r2) := h
 clear h
 replace H := Option.bind_eq_some_iff.mp H
 obtain ⟨⟨t243, t244⟩, A20, H⟩ := H
 replace H : ((some (([wrap64 (1 + t243), 12, 0, (-1), 13] : List Int) : List Int)).bind fun y245 => ((some (([0, 0, 0, 0, 0, 1, 2, 3, 4] : List Int) : List Int)).bind fun y248 => ((spec_l20Rd_pick.f k s0_0 t244 9).bind fun bt251 => (if 0 ≤ bt251.1 then (if bt251.1 < (y248.length : Int) then (if 0 ≤ (rd y248 bt251.1) then (if (rd y248 bt251.1) < (y245.length : Int) then (some (rd y245 (rd y248 bt251.1), bt251.2)) else (none)) else (none)) else (none)) else (none))))) = some (r1, r2) := H
 have A2 := Aside0.mk A20
 clear A20
 obtain ⟨y245, hy245⟩ : ∃ y_ : List Int, y_ = (([wrap64 (1 + t243), 12, 0, (-1), 13] : List Int)) := ⟨_, rfl⟩
 replace H : ((some (([0, 0, 0, 0, 0, 1, 2, 3, 4] : List Int) : List Int)).bind fun y248 => ((spec_l20Rd_pick.f k s0_0 t244 9).bind fun bt251 => (if 0 ≤ bt251.1 then (if bt251.1 < (y248.length : Int) then (if 0 ≤ (rd y248 bt251.1) then (if (rd y248 bt251.1) < (y245.length : Int) then (some (rd y245 (rd y248 bt251.1), bt251.2)) else (none)) else (none)) else (none)) else (none)))) = some (r1, r2) := by first | (rw [hy245]; with_reducible exact H) | (have H2_ := (Option.bind_some _ _).symm.trans H; rw [hy245]; with_reducible exact H2_) | (have H2_ := (Option.bind_some _ _).symm.trans H; with_reducible exact H2_) | with_reducible exact H | (rw [hy245]; exact H) | exact H
 have Ny245 := Aside0.mk hy245
 clear hy245
 obtain ⟨y248, hy248⟩ : ∃ y_ : List Int, y_ = (([0, 0, 0, 0, 0, 1, 2, 3, 4] : List Int)) := ⟨_, rfl⟩
 replace H : ((spec_l20Rd_pick.f k s0_0 t244 9).bind fun bt251 => (if 0 ≤ bt251.1 then (if bt251.1 < (y248.length : Int) then (if 0 ≤ (rd y248 bt251.1) then (if (rd y248 bt251.1) < (y245.length : Int) then (some (rd y245 (rd y248 bt251.1), bt251.2)) else (none)) else (none)) else (none)) else (none))) = some (r1, r2) := by first | (rw [hy248]; with_reducible exact H) | (have H2_ := (Option.bind_some _ _).symm.trans H; rw [hy248]; with_reducible exact H2_) | (have H2_ := (Option.bind_some _ _).symm.trans H; with_reducible exact H2_) | with_reducible exact H | (rw [hy248]; exact H) | exact H
 have Ny248 := Aside0.mk hy248
 clear hy248
 replace H := Option.bind_eq_some_iff.mp H
 obtain ⟨⟨t251, t252⟩, A30, H⟩ := H
 replace H : (if 0 ≤ t251 then (if t251 < (y248.length : Int) then (if 0 ≤ (rd y248 t251) then (if (rd y248 t251) < (y245.length : Int) then (some (rd y245 (rd y248 t251), t252)) else (none)) else (none)) else (none)) else (none)) = some (r1, r2) := H
 have A3 := Aside0.mk A30
 clear A30
 by_cases c4 : 0 ≤ t251
 ·rw [if_pos c4] at H
  have c4b0 : decide (0 ≤ t251) = true := decide_eq_true c4
  clear c4
  by_cases c5 : t251 < (y248.length : Int)
  ·rw [if_pos c5] at H
   have c5b0 : decide (t251 < (y248.length : Int)) = true := decide_eq_true c5
   clear c5
   by_cases c6 : 0 ≤ (rd y248 t251)
   ·rw [if_pos c6] at H
    have c6b0 : decide (0 ≤ (rd y248 t251)) = true := decide_eq_true c6
    clear c6
    by_cases c7 : (rd y248 t251) < (y245.length : Int)
    ·rw [if_pos c7] at H
     have c7b0 : decide ((rd y248 t251) < (y245.length : Int)) = true := decide_eq_true c7
     clear c7
     simp only [Option.some.injEq, Prod.mk.injEq] at H
     obtain ⟨rfl, rfl⟩ := H
     go_enter Try.func41, Try.ntmps41
     go_wp2_with (first | ((with_reducible refine gate_callee (f := 46) rfl ?_); refine goesL_ (some 4) rfl rfl Try.func46 (by kernel_rfl) rfl #[.pointer (some ⟨g, 0, none⟩), .int .i64 8] rfl sl_ ?_; (with_reducible refine (spec_l20Rd_pick.calls k g s0_0 s0_1 8 t243 t244 w0 _ ?side1 ?side2 A2.out).mono ?_); (case side1 => repeat (first | (with_reducible first | exact HI0.out | apply IsS85.alloc | apply IsS85.drewN | apply IsS85.drew | apply IsS85.set_1) | exact HI0.out)); (case side2 => repeat (first | (with_reducible first | exact HB.out | apply below_alloc | apply pw_below_drewN | apply below_drew1 | refine below_set ?_ (IsS85.ge HI0.out)) | exact HB.out)); rintro e w8 ⟨rfl, hi, hb, hk⟩; refine ⟨_, rfl, ?_⟩; replace HK := Aside0.mk (KeepBut.trans (by repeat (first | (with_reducible first | exact HK.out | apply KeepBut.set_ | apply keep_drewN | apply keep_drew | apply keep_alloc) | exact HK.out)) hk (.inl rfl)); replace HB := Aside0.mk (hb); replace HI0 := Aside0.mk (hi); (try clear hb); (try clear hk); (try clear hi)) | ((with_reducible refine gate_dst (N := 6) rfl ?_); refine Kd.R_lit (Kd.int .i64) _ 3 ?hg (N := 6) ?hd (xs := ([wrap64 (1 + t243), 12, 0, (-1), 13] : List Int)) (inner := [.int .i64 (wrap64 (1 + t243)), .int .i64 12, .int .i64 0, .int .i64 (-1), .int .i64 13]) (ok := fun _ => True) (okp := fun _ => True) ?hr ?hp (fun _ hk => hk) trivial (Below.refl _ _) (Nat.le_refl _) (by simp) ?_; (case hd => rfl); (case hg => rfl); (case hr => first | (go_simp; done) | (go_simp; rfl)); (case hp => exact (Reps.one (show Kd.M (Kd.int .i64) _ _ _ (wrap64 (1 + t243)) [.int .i64 (wrap64 (1 + t243))] from rfl) (Reps.one (show Kd.M (Kd.int .i64) _ _ _ 12 [.int .i64 12] from rfl) (Reps.one (show Kd.M (Kd.int .i64) _ _ _ 0 [.int .i64 0] from rfl) (Reps.one (show Kd.M (Kd.int .i64) _ _ _ (-1) [.int .i64 (-1)] from rfl) (Reps.one (show Kd.M (Kd.int .i64) _ _ _ 13 [.int .i64 13] from rfl) (Reps.none _ _))))))); intro v246 w9 ho10 hb hg_ hnew_; clear hg_ hnew_; (first | rw [← Ny245.out] at ho10 | (simp only [Int.reduceToNat] at ho10; rw [← Ny245.out] at ho10)); have HO247 := Aside0.mk (Kd.R_lower ho10 (keep_size (w := w) (g := g) (row := none) (by repeat (first | (with_reducible first | exact HK.out | apply KeepBut.set_ | apply keep_drewN | apply keep_drew | apply keep_alloc) | exact HK.out)))); replace HK := Aside0.mk (KeepBut.trans (by repeat (first | (with_reducible first | exact HK.out | apply KeepBut.set_ | apply keep_drewN | apply keep_drew | apply keep_alloc) | exact HK.out)) (KeepBut.of_below hb g none) (.inl rfl)); replace HB := Aside0.mk (below_step (by repeat (first | (with_reducible first | exact HB.out | apply below_alloc | apply pw_below_drewN | apply below_drew1 | refine below_set ?_ (IsS85.ge HI0.out)) | exact HB.out)) hb); replace HI0 := Aside0.mk (IsS85.below (by repeat (first | (with_reducible first | exact HI0.out | apply IsS85.alloc | apply IsS85.drewN | apply IsS85.drew | apply IsS85.set_1) | exact HI0.out)) hb); clear hb ho10) | ((with_reducible refine gate_dst (N := 7) rfl ?_); refine Kd.R_lit (Kd.int .i64) _ 3 ?hg (N := 7) ?hd (xs := ([0, 0, 0, 0, 0, 1, 2, 3, 4] : List Int)) (inner := [.int .i64 0, .int .i64 0, .int .i64 0, .int .i64 0, .int .i64 0, .int .i64 1, .int .i64 2, .int .i64 3, .int .i64 4]) (ok := fun _ => True) (okp := fun _ => True) ?hr ?hp (fun _ hk => hk) trivial (Below.refl _ _) (Nat.le_refl _) (by simp) ?_; (case hd => rfl); (case hg => rfl); (case hr => first | (go_simp; done) | (go_simp; rfl)); (case hp => exact (Reps.one (show Kd.M (Kd.int .i64) _ _ _ 0 [.int .i64 0] from rfl) (Reps.one (show Kd.M (Kd.int .i64) _ _ _ 0 [.int .i64 0] from rfl) (Reps.one (show Kd.M (Kd.int .i64) _ _ _ 0 [.int .i64 0] from rfl) (Reps.one (show Kd.M (Kd.int .i64) _ _ _ 0 [.int .i64 0] from rfl) (Reps.one (show Kd.M (Kd.int .i64) _ _ _ 0 [.int .i64 0] from rfl) (Reps.one (show Kd.M (Kd.int .i64) _ _ _ 1 [.int .i64 1] from rfl) (Reps.one (show Kd.M (Kd.int .i64) _ _ _ 2 [.int .i64 2] from rfl) (Reps.one (show Kd.M (Kd.int .i64) _ _ _ 3 [.int .i64 3] from rfl) (Reps.one (show Kd.M (Kd.int .i64) _ _ _ 4 [.int .i64 4] from rfl) (Reps.none _ _))))))))))); intro v249 w11 ho12 hb hg_ hnew_; clear hg_ hnew_; (first | rw [← Ny248.out] at ho12 | (simp only [Int.reduceToNat] at ho12; rw [← Ny248.out] at ho12)); have HO250 := Aside0.mk (Kd.R_lower (Kd.R_new' ho12 (Kd.R_lt (kR_ HO247.out))) (keep_size (w := w) (g := g) (row := none) (by repeat (first | (with_reducible first | exact HK.out | apply KeepBut.set_ | apply keep_drewN | apply keep_drew | apply keep_alloc) | exact HK.out)))); replace HO247 := Aside0.mk (Kd.R_elder' (kR_ HO247.out) (Kd.R_base ho12) hb); replace HK := Aside0.mk (KeepBut.trans (by repeat (first | (with_reducible first | exact HK.out | apply KeepBut.set_ | apply keep_drewN | apply keep_drew | apply keep_alloc) | exact HK.out)) (KeepBut.of_below hb g none) (.inl rfl)); replace HB := Aside0.mk (below_step (by repeat (first | (with_reducible first | exact HB.out | apply below_alloc | apply pw_below_drewN | apply below_drew1 | refine below_set ?_ (IsS85.ge HI0.out)) | exact HB.out)) hb); replace HI0 := Aside0.mk (IsS85.below (by repeat (first | (with_reducible first | exact HI0.out | apply IsS85.alloc | apply IsS85.drewN | apply IsS85.drew | apply IsS85.set_1) | exact HI0.out)) hb); clear hb ho12) | ((with_reducible refine gate_callee (f := 46) rfl ?_); refine goesL_ (some 9) rfl rfl Try.func46 (by kernel_rfl) rfl #[.pointer (some ⟨g, 0, none⟩), .int .i64 9] rfl sl_ ?_; (with_reducible refine (spec_l20Rd_pick.calls k g s0_0 t244 9 t251 t252 w0 _ ?side1 ?side2 A3.out).mono ?_); (case side1 => repeat (first | (with_reducible first | exact HI0.out | apply IsS85.alloc | apply IsS85.drewN | apply IsS85.drew | apply IsS85.set_1) | exact HI0.out)); (case side2 => repeat (first | (with_reducible first | exact HB.out | apply below_alloc | apply pw_below_drewN | apply below_drew1 | refine below_set ?_ (IsS85.ge HI0.out)) | exact HB.out)); rintro e w13 ⟨rfl, hi, hb, hk⟩; refine ⟨_, rfl, ?_⟩; replace HO247 := Aside0.mk (Kd.R_mono (Kd.R_keep (IsS85.apart (show IsS85 w0 _ g s0_0 t244 from by repeat (first | (with_reducible first | exact HI0.out | apply IsS85.alloc | apply IsS85.drewN | apply IsS85.drew | apply IsS85.set_1) | exact HI0.out)) (kR_ HO247.out) (by decide)) hk (fun _ h => h.2)) (fun _ h => h.1)); replace HO250 := Aside0.mk (Kd.R_mono (Kd.R_keep (IsS85.apart (show IsS85 w0 _ g s0_0 t244 from by repeat (first | (with_reducible first | exact HI0.out | apply IsS85.alloc | apply IsS85.drewN | apply IsS85.drew | apply IsS85.set_1) | exact HI0.out)) (kR_ HO250.out) (by decide)) hk (fun _ h => h.2)) (fun _ h => h.1)); replace HK := Aside0.mk (KeepBut.trans (by repeat (first | (with_reducible first | exact HK.out | apply KeepBut.set_ | apply keep_drewN | apply keep_drew | apply keep_alloc) | exact HK.out)) hk (.inl rfl)); replace HB := Aside0.mk (hb); replace HI0 := Aside0.mk (hi); (try clear hb); (try clear hk); (try clear hi); obtain ⟨Ao14, co14, eo14⟩ := Kd.R_slice HO250.out; subst eo14; have p253 : 0 ≤ (t251 : Int) := of_decide_eq_true ma_; have q253 : t251 < (y248.length : Int) := of_decide_eq_true ma_; obtain ⟨ad253, e253, hx253_0⟩ := Kd.at_int (Kd.R_reads' HO250.out).2.2 t251 p253 q253; cases e253; replace p253 := eq_true p253; replace q253 := eq_true q253; obtain ⟨Ao15, co15, eo15⟩ := Kd.R_slice HO247.out; subst eo15; have p254 : 0 ≤ ((rd y248 t251) : Int) := of_decide_eq_true ma_; have q254 : (rd y248 t251) < (y245.length : Int) := of_decide_eq_true ma_; obtain ⟨ad254, e254, hx254_0⟩ := Kd.at_int (Kd.R_reads' HO247.out).2.2 (rd y248 t251) p254 q254; cases e254; replace p254 := eq_true p254; replace q254 := eq_true q254))
     go_ret
     exact ⟨er_, by repeat (first | (with_reducible first | exact HI0.out | apply IsS85.alloc | apply IsS85.drewN | apply IsS85.drew | apply IsS85.set_1) | exact HI0.out), by repeat (first | (with_reducible first | exact HB.out | apply below_alloc | apply pw_below_drewN | apply below_drew1 | refine below_set ?_ (IsS85.ge HI0.out)) | exact HB.out), by repeat (first | (with_reducible first | exact HK.out | apply KeepBut.set_ | apply keep_drewN | apply keep_drew | apply keep_alloc) | exact HK.out)⟩
    ·rw [if_neg c7] at H
     exact absurd H (by simp)
   ·rw [if_neg c6] at H
    exact absurd H (by simp)
  ·rw [if_neg c5] at H
   exact absurd H (by simp)
 ·rw [if_neg c4] at H
  exact absurd H (by simp)
/-! ### spec_BranchesValid: function 15 -/
def spec_BranchesValid.l0 : Nat → List (S35) → Int → Int → Option (Bool)
 | 0, _, _, _ => none
 | k + 1, x0, x1, x5 => if x5 < (x0.length : Int) then (if 0 ≤ x5 then ((spec_WordValid.f k ((rd_T35 x0 x5).f0)).bind fun t257 => (if t257 = true then ((spec_l1In.f ((rd_T35 x0 x5).f1) 0 (wrap64 (x1 - 1))).bind fun t259 => (if t259 = true then (if x5 > 0 then (if 0 ≤ (wrap64 (x5 - 1)) then (if (wrap64 (x5 - 1)) < (x0.length : Int) then (if ((Op.bytesLess (((rd_T35 x0 (wrap64 (x5 - 1))).f0).toList) (((rd_T35 x0 x5).f0).toList)) = true) then (spec_BranchesValid.l0 k x0 x1 (wrap64 (x5 + 1))) else (some false)) else (none)) else (none)) else (spec_BranchesValid.l0 k x0 x1 (wrap64 (x5 + 1)))) else (some false))) else (some false))) else (none)) else (some (decide ((x0.length : Int) ≤ 6)))
def spec_BranchesValid.f (k : Nat) (l0 : List (S35)) (a1 : Int) : Option (Bool) := (spec_l1In.f a1 0 12).bind fun t255 => (if t255 = true then (spec_BranchesValid.l0 k l0 a1 0) else (some false))
theorem spec_BranchesValid.mono_l : ∀ k, (∀ y0 y1 y2, LeO (spec_BranchesValid.l0 k y0 y1 y2) (spec_BranchesValid.l0 (k + 1) y0 y1 y2))
 | 0 => fun _ _ _ r h => by simp [spec_BranchesValid.l0] at h
 | k + 1 => by
  have ih0 := spec_BranchesValid.mono_l k
  ·intro y0 y1 y2
   unfold spec_BranchesValid.l0
   repeat' first
   | (with_reducible exact ih0 _ _ _)
   | (with_reducible exact spec_WordValid.mono _ _)
   | (with_reducible exact LeO.refl _)
   | (with_reducible exact LeO.none _)
   | (with_reducible refine LeO.ite ?_ ?_)
   | (with_reducible refine LeO.bind ?_ (fun _ => ?_))
   | exact ih0 _ _ _
   | exact spec_WordValid.mono _ _
   | exact LeO.none _
   | refine LeO.ite ?_ ?_
   | refine LeO.bind ?_ (fun _ => ?_)
theorem spec_BranchesValid.mono : ∀ a0 a1 k, LeO (spec_BranchesValid.f k a0 a1) (spec_BranchesValid.f (k + 1) a0 a1) := by
 intro a0 a1 k
 have ih0 := spec_BranchesValid.mono_l k
 unfold spec_BranchesValid.f
 repeat' first
   | (with_reducible exact ih0 _ _ _)
   | (with_reducible exact spec_WordValid.mono _ _)
   | (with_reducible exact LeO.refl _)
   | (with_reducible exact LeO.none _)
   | (with_reducible refine LeO.ite ?_ ?_)
   | (with_reducible refine LeO.bind ?_ (fun _ => ?_))
   | exact ih0 _ _ _
   | exact spec_WordValid.mono _ _
   | exact LeO.none _
   | refine LeO.ite ?_ ?_
   | refine LeO.bind ?_ (fun _ => ?_)
def spec_BranchesValid.T6 : Bool × List (List Nat × List Nat) := (true, [([], []), ([], []), ([0, 1], [0, 1]), ([2], [2]), ([3], [3]), ([4], [4]), ([5], [5]), ([6, 5], [6]), ([7], [7]), ([7], [7]), ([8, 9, 7], [7, 8, 9]), ([10, 7], [7, 10]), ([11, 7], [7, 11]), ([7], [7]), ([13, 7], [7, 13]), ([12, 14, 7, 7], [7, 12, 14]), ([15, 7], [7, 15]), ([7, 16], [7, 16]), ([17, 15], [17]), ([18], [18]), ([19, 18], [18, 19]), ([20, 18, 18], [18, 20]), ([21], [21]), ([21], [21]), ([22, 23, 21], [21, 22, 23]), ([24, 21], [21, 24]), ([25, 21], [21, 25]), ([21], [21]), ([21], [21]), ([28, 21], [21, 28]), ([27, 29, 21], [21, 27, 29]), ([30, 21], [21, 30]), ([31, 21], [21, 31]), ([26, 32, 21], [21, 26, 32]), ([21, 33, 18], [18, 21, 33]), ([18, 34], [18, 34])])
def spec_BranchesValid.B6 : List Nat := [0, 0, 3, 7, 15, 31, 63, 127, 255, 255, 1023, 2047, 4095, 255, 8447, 32767, 65535, 131071, 262143, 524287, 1048575, 2097151, 4194303, 4194303, 16777215, 33554431, 67108863, 4194303, 4194303, 272629759, 943718399, 2017460223, 4164943871, 8589934591, 17179869183, 34359738367]
theorem spec_BranchesValid.tab6 : rtab .any (opsOf Try.f15 6) = spec_BranchesValid.T6 := by kernel_rfl
theorem spec_BranchesValid.bits6 : waitsOk spec_BranchesValid.T6.2 spec_BranchesValid.B6 = true := by kernel_rfl
set_option maxHeartbeats 8000000 in
set_option maxRecDepth 100000 in
theorem spec_BranchesValid.calls (k : Nat) (A0 : Option Addr) (c0 : Nat) (l0 : List (S35)) (a1 : Int) (r : Bool) (w : World) (hr0 : Kd.C k35 w A0 l0.length l0) (hc0 : l0.length ≤ c0) (h : spec_BranchesValid.f k l0 a1 = some r) :
  Calls Try.prog 15 #[.slice A0 l0.length c0, .int .i64 a1] w fun e w' => e = .returned (.bool r) ∧ Below w.heap.size w w' := by
 have HR0 := Aside0.mk hr0
 have HC0 := Aside0.mk hc0
 clear hr0 hc0
 have HB := Aside0.mk (Below.refl w.heap.size w)
 have H : ((spec_l1In.f a1 0 12).bind fun t255 => (if t255 = true then (spec_BranchesValid.l0 k l0 a1 0) else (some false))) = some r := h
 clear h
 replace H := Option.bind_eq_some_iff.mp H
 obtain ⟨t255, A30, H⟩ := H
 replace H : (if t255 = true then (spec_BranchesValid.l0 k l0 a1 0) else (some false)) = some r := H
 have A3 := Aside0.mk A30
 clear A30
 by_cases c4 : t255 = true
 ·subst c4
  have H1 : (spec_BranchesValid.l0 k l0 a1 0) = some r := by rw [if_pos rfl] at H; exact H
  clear H
  have H := H1
  clear H1
  have H' := Aside0.mk H
  clear H
  go_enter Try.func15, Try.ntmps15
  go_wp2_with (first | ((with_reducible refine gate_callee (f := 39) rfl ?_); refine goesL_ (some 7) rfl rfl Try.func39 (by kernel_rfl) rfl #[.int .i64 a1, .int .i64 0, .int .i64 12] rfl sl_ ?_; (with_reducible refine (spec_l1In.calls a1 0 12 true _ A3.out).mono ?_); rintro e w' ⟨rfl, ⟨nd, rfl⟩⟩; refine ⟨_, rfl, ?_⟩))
  go_loopg [5] k (fun kq v5 w' => ∃ (x5_1 : Int), v5 = .int .i64 x5_1 ∧ Aside0 (spec_BranchesValid.l0 kq l0 a1 x5_1 = some r) ∧ Aside0 (kq ≤ k) ∧ Aside0 (Below w.heap.size w w'))
  case atStart => exact ⟨(0), (by first | rfl | (simp; done) | (simp [*]; done)), H', ⟨Nat.le_refl _⟩, ⟨hb_⟩⟩
  case round =>
   clear H'
   try clear c1
   try clear p2
   try clear c3
   try clear c4
   obtain ⟨x5_1, rfl, HA, HK1, HB⟩ := hrel
   cases gk with
   | zero => exact absurd HA.out (by simp [spec_BranchesValid.l0])
   | succ k1 =>
    have H := HA.out
    clear HA
    simp only [spec_BranchesValid.l0] at H
    by_cases c5 : x5_1 < (l0.length : Int)
    ·rw [if_pos c5] at H
     have c5b0 : decide (x5_1 < (l0.length : Int)) = true := decide_eq_true c5
     clear c5
     by_cases c6 : 0 ≤ x5_1
     ·rw [if_pos c6] at H
      have c6b0 : decide (0 ≤ x5_1) = true := decide_eq_true c6
      clear c6
      replace H := Option.bind_eq_some_iff.mp H
      obtain ⟨t257, A70, H⟩ := H
      replace H : (if t257 = true then ((spec_l1In.f ((rd_T35 l0 x5_1).f1) 0 (wrap64 (a1 - 1))).bind fun t259 => (if t259 = true then (if x5_1 > 0 then (if 0 ≤ (wrap64 (x5_1 - 1)) then (if (wrap64 (x5_1 - 1)) < (l0.length : Int) then (if ((Op.bytesLess (((rd_T35 l0 (wrap64 (x5_1 - 1))).f0).toList) (((rd_T35 l0 x5_1).f0).toList)) = true) then (spec_BranchesValid.l0 k1 l0 a1 (wrap64 (x5_1 + 1))) else (some false)) else (none)) else (none)) else (spec_BranchesValid.l0 k1 l0 a1 (wrap64 (x5_1 + 1)))) else (some false))) else (some false)) = some r := H
      have A7 := Aside0.mk A70
      clear A70
      by_cases c8 : t257 = true
      ·subst c8
       have H1 : ((spec_l1In.f ((rd_T35 l0 x5_1).f1) 0 (wrap64 (a1 - 1))).bind fun t259 => (if t259 = true then (if x5_1 > 0 then (if 0 ≤ (wrap64 (x5_1 - 1)) then (if (wrap64 (x5_1 - 1)) < (l0.length : Int) then (if ((Op.bytesLess (((rd_T35 l0 (wrap64 (x5_1 - 1))).f0).toList) (((rd_T35 l0 x5_1).f0).toList)) = true) then (spec_BranchesValid.l0 k1 l0 a1 (wrap64 (x5_1 + 1))) else (some false)) else (none)) else (none)) else (spec_BranchesValid.l0 k1 l0 a1 (wrap64 (x5_1 + 1)))) else (some false))) = some r := by rw [if_pos rfl] at H; exact H
       clear H
       have H := H1
       clear H1
       replace H := Option.bind_eq_some_iff.mp H
       obtain ⟨t259, A90, H⟩ := H
       replace H : (if t259 = true then (if x5_1 > 0 then (if 0 ≤ (wrap64 (x5_1 - 1)) then (if (wrap64 (x5_1 - 1)) < (l0.length : Int) then (if ((Op.bytesLess (((rd_T35 l0 (wrap64 (x5_1 - 1))).f0).toList) (((rd_T35 l0 x5_1).f0).toList)) = true) then (spec_BranchesValid.l0 k1 l0 a1 (wrap64 (x5_1 + 1))) else (some false)) else (none)) else (none)) else (spec_BranchesValid.l0 k1 l0 a1 (wrap64 (x5_1 + 1)))) else (some false)) = some r := H
       have A9 := Aside0.mk A90
       clear A90
       by_cases c10 : t259 = true
       ·subst c10
        have H1 : (if x5_1 > 0 then (if 0 ≤ (wrap64 (x5_1 - 1)) then (if (wrap64 (x5_1 - 1)) < (l0.length : Int) then (if ((Op.bytesLess (((rd_T35 l0 (wrap64 (x5_1 - 1))).f0).toList) (((rd_T35 l0 x5_1).f0).toList)) = true) then (spec_BranchesValid.l0 k1 l0 a1 (wrap64 (x5_1 + 1))) else (some false)) else (none)) else (none)) else (spec_BranchesValid.l0 k1 l0 a1 (wrap64 (x5_1 + 1)))) = some r := by rw [if_pos rfl] at H; exact H
        clear H
        have H := H1
        clear H1
        by_cases c11 : x5_1 > 0
        ·rw [if_pos c11] at H
         have c11b0 : decide (0 < x5_1) = true := decide_eq_true c11
         clear c11
         obtain ⟨ji12, hji12⟩ : ∃ j_ : Int, (wrap64 (x5_1 - 1)) = j_ := ⟨_, rfl⟩
         replace H : (if 0 ≤ (ji12) then (if (ji12) < (l0.length : Int) then (if ((Op.bytesLess (((rd_T35 l0 (ji12)).f0).toList) (((rd_T35 l0 x5_1).f0).toList)) = true) then (spec_BranchesValid.l0 k1 l0 a1 (wrap64 (x5_1 + 1))) else (some false)) else (none)) else (none)) = some r := by first | (rw [hji12] at H; exact H) | (simp only [hji12] at H ⊢; exact H)
         (try rw [hji12] at A7)
         (try rw [hji12] at A9)
         have hji12w : (IntKind.i64.wrap (x5_1 - 1)) = ji12 := (i64_w _).trans hji12
         by_cases c13 : 0 ≤ (ji12)
         ·rw [if_pos c13] at H
          have c13b0 : decide (0 ≤ (ji12)) = true := decide_eq_true c13
          clear c13
          by_cases c14 : (ji12) < (l0.length : Int)
          ·rw [if_pos c14] at H
           have c14b0 : decide ((ji12) < (l0.length : Int)) = true := decide_eq_true c14
           clear c14
           by_cases c15 : ((Op.bytesLess (((rd_T35 l0 (ji12)).f0).toList) (((rd_T35 l0 x5_1).f0).toList)) = true)
           ·rw [if_pos c15] at H
            have c15b0 : (Op.bytesLess (((rd_T35 l0 (ji12)).f0).toList) (((rd_T35 l0 x5_1).f0).toList)) = true := c15
            clear c15
            have H' := Aside0.mk H
            clear H
            try go_wp2
            have n0_ := Aside0.mk (below_drew1 HB.out)
            clear HB
            have HB := n0_
            clear n0_
            have p256 : 0 ≤ (x5_1 : Int) := of_decide_eq_true ma_
            have q256 : x5_1 < (l0.length : Int) := of_decide_eq_true ma_
            obtain ⟨ad256, e256, hx256_0, hx256_1⟩ := at_T35 HR0.out x5_1 p256 q256
            have hw256_1 := hx256_1
            have hw256_0 := hx256_0
            cases e256
            replace hx256_0 := (HB.out.cell (World.block_lt_of_cell? w _ hx256_0)).trans hx256_0
            replace hx256_1 := (HB.out.cell (World.block_lt_of_cell? w _ hx256_1)).trans hx256_1
            replace p256 := eq_true p256
            replace q256 := eq_true q256
            have p258 : 0 ≤ (x5_1 : Int) := of_decide_eq_true ma_
            have q258 : x5_1 < (l0.length : Int) := of_decide_eq_true ma_
            obtain ⟨ad258, e258, hx258_0, hx258_1⟩ := at_T35 HR0.out x5_1 p258 q258
            have hw258_1 := hx258_1
            have hw258_0 := hx258_0
            obtain rfl : ad256 = ad258 := (by injection e258)
            replace hx258_0 := (HB.out.cell (World.block_lt_of_cell? w _ hx258_0)).trans hx258_0
            replace hx258_1 := (HB.out.cell (World.block_lt_of_cell? w _ hx258_1)).trans hx258_1
            replace p258 := eq_true p258
            replace q258 := eq_true q258
            have p260 : 0 ≤ (x5_1 : Int) := of_decide_eq_true ma_
            have q260 : x5_1 < (l0.length : Int) := of_decide_eq_true ma_
            obtain ⟨ad260, e260, hx260_0, hx260_1⟩ := at_T35 HR0.out x5_1 p260 q260
            have hw260_1 := hx260_1
            have hw260_0 := hx260_0
            obtain rfl : ad256 = ad260 := (by injection e260)
            replace hx260_0 := (HB.out.cell (World.block_lt_of_cell? w _ hx260_0)).trans hx260_0
            replace hx260_1 := (HB.out.cell (World.block_lt_of_cell? w _ hx260_1)).trans hx260_1
            replace p260 := eq_true p260
            replace q260 := eq_true q260
            have p261 : 0 ≤ ((ji12) : Int) := of_decide_eq_true ma_
            have q261 : (ji12) < (l0.length : Int) := of_decide_eq_true ma_
            obtain ⟨ad261, e261, hx261_0, hx261_1⟩ := at_T35 HR0.out (ji12) p261 q261
            have hw261_1 := hx261_1
            have hw261_0 := hx261_0
            obtain rfl : ad256 = ad261 := (by injection e261)
            replace hx261_0 := (HB.out.cell (World.block_lt_of_cell? w _ hx261_0)).trans hx261_0
            replace hx261_1 := (HB.out.cell (World.block_lt_of_cell? w _ hx261_1)).trans hx261_1
            replace p261 := eq_true p261
            replace q261 := eq_true q261
            refine start_ (n := 36) (S := fun w' => w'.cell? (ad256.add ((x5_1).toNat * 2)) = some (.string ((rd_T35 l0 x5_1).f0)) ∧ w'.cell? ⟨(ad256.add ((x5_1).toNat * 2)).block, (ad256.add ((x5_1).toNat * 2)).off + 1, none⟩ = some (.int .i64 ((rd_T35 l0 x5_1).f1)) ∧ w'.cell? (ad256.add ((x5_1).toNat * 2)) = some (.string ((rd_T35 l0 x5_1).f0)) ∧ w'.cell? ⟨(ad256.add ((x5_1).toNat * 2)).block, (ad256.add ((x5_1).toNat * 2)).off + 1, none⟩ = some (.int .i64 ((rd_T35 l0 x5_1).f1)) ∧ w'.cell? (ad256.add ((x5_1).toNat * 2)) = some (.string ((rd_T35 l0 x5_1).f0)) ∧ w'.cell? ⟨(ad256.add ((x5_1).toNat * 2)).block, (ad256.add ((x5_1).toNat * 2)).off + 1, none⟩ = some (.int .i64 ((rd_T35 l0 x5_1).f1)) ∧ w'.cell? (ad256.add (((ji12)).toNat * 2)) = some (.string ((rd_T35 l0 (ji12)).f0)) ∧ w'.cell? ⟨(ad256.add (((ji12)).toNat * 2)).block, (ad256.add (((ji12)).toNat * 2)).off + 1, none⟩ = some (.int .i64 ((rd_T35 l0 (ji12)).f1))) (ds := []) (tf_ 0 36) (by kernel_rfl) rfl rfl ⟨((HB.out.cell (World.block_lt_of_cell? w _ hw256_0)).trans hw256_0), ((HB.out.cell (World.block_lt_of_cell? w _ hw256_1)).trans hw256_1), ((HB.out.cell (World.block_lt_of_cell? w _ hw258_0)).trans hw258_0), ((HB.out.cell (World.block_lt_of_cell? w _ hw258_1)).trans hw258_1), ((HB.out.cell (World.block_lt_of_cell? w _ hw260_0)).trans hw260_0), ((HB.out.cell (World.block_lt_of_cell? w _ hw260_1)).trans hw260_1), ((HB.out.cell (World.block_lt_of_cell? w _ hw261_0)).trans hw261_0), ((HB.out.cell (World.block_lt_of_cell? w _ hw261_1)).trans hw261_1)⟩ (fun hHeld => ?_); refine with_tabW spec_BranchesValid.tab6 spec_BranchesValid.bits6 (fun HT_ HW_ => ?_)
            generalize wr.drew = w16 at HB hx256_0 hx256_1 hx258_0 hx258_1 hx260_0 hx260_1 hx261_0 hx261_1 hHeld ⊢
            refine pa_ (i := 0) (N := some 15) (tf_ 1 35) ?_
            refine pa_ (i := 1) (N := some 16) (tf_ 2 34) ?_
            refine pa_ (i := 2) (N := some 17) (tf_ 3 33) ?_
            refine pa_ (i := 3) (N := some 18) (tf_ 4 32) ?_
            refine take_ (i := 4) (N := some 19) (v := ?_) (a' := ?_) (tf_ 5 31) rfl rfl (take_ofW HT_.out HW_.out (by kernel_rfl)) (fun _ _ _ h => h) (Or.inl ⟨by rfl, ?_⟩) hHeld ?_ ?_
            rotate_left
            ·rintro w' ⟨s0, s1, s2, s3, s4, s5, s6, s7⟩
             go_simp
             with_reducible rfl
            rotate_left
            ·simp only [Act.put, List.setIfInBounds_toArray, List.set_cons_zero, List.set_cons_succ, i64_w, i32_w]
             rfl
            refine one_ (i := 5) (N := some 20) (tf_ 6 30) rfl rfl (one_of HT_.out (by kernel_rfl)) (by decide) (fun K hK => ?_)
            refine goes_ Try.func40 (by kernel_rfl) rfl #[.string ((rd_T35 l0 x5_1).f0)] (by rfl) rfl rfl sl_ ?_
            with_reducible refine (spec_WordValid.calls k1 ((rd_T35 l0 x5_1).f0) true _ A7.out).mono ?_
            rintro e w' ⟨rfl, ⟨nd, rfl⟩⟩
            refine ⟨_, rfl, ?_⟩
            refine hK.out _ _ ⟨((HB.out.cell (World.block_lt_of_cell? w _ hw256_0)).trans hw256_0), ((HB.out.cell (World.block_lt_of_cell? w _ hw256_1)).trans hw256_1), ((HB.out.cell (World.block_lt_of_cell? w _ hw258_0)).trans hw258_0), ((HB.out.cell (World.block_lt_of_cell? w _ hw258_1)).trans hw258_1), ((HB.out.cell (World.block_lt_of_cell? w _ hw260_0)).trans hw260_0), ((HB.out.cell (World.block_lt_of_cell? w _ hw260_1)).trans hw260_1), ((HB.out.cell (World.block_lt_of_cell? w _ hw261_0)).trans hw261_0), ((HB.out.cell (World.block_lt_of_cell? w _ hw261_1)).trans hw261_1)⟩ (fun hHeld => ?_)
            clear hK K
            refine norm_ (a' := ?_) ?_ ?_
            rotate_left
            ·show Act.put _ (some 20) _ = _
             simp only [Act.put, List.setIfInBounds_toArray, List.set_cons_zero, List.set_cons_succ, i64_w, i32_w]
             rfl
            refine pa_ (i := 6) (N := some 21) (tf_ 7 29) ?_
            refine pa_ (i := 7) (N := some 22) (tf_ 8 28) ?_
            refine pa_ (i := 8) (N := some 23) (tf_ 9 27) ?_
            refine pa_ (i := 9) (N := some 24) (tf_ 10 26) ?_
            refine pa_ (i := 10) (N := some 25) (tf_ 11 25) ?_
            refine pa_ (i := 11) (N := some 26) (tf_ 12 24) ?_
            refine pure_ (i := 13) (N := some 28) (v := ?_) (a' := ?_) #[true, true, true, true, true, true, true, true, true, true, true, true, false, true, false, false, false, false, false, false, false, false, false, false, false, false, false, false, false, false, false, false, false, false, false, false] rfl rfl (any_of HT_.out (by kernel_rfl)) (fun _ _ _ h => h) (Or.inl ⟨by rfl, ?_⟩) ?_ ?_; rotate_left; (intro w'; go_simp; with_reducible rfl); rotate_left; (simp only [Act.put, List.setIfInBounds_toArray, List.set_cons_zero, List.set_cons_succ, i64_w, i32_w]; rfl)
            refine pure_ (i := 14) (N := some 29) (v := ?_) (a' := ?_) #[true, true, true, true, true, true, true, true, true, true, true, true, false, true, true, false, false, false, false, false, false, false, false, false, false, false, false, false, false, false, false, false, false, false, false, false] rfl rfl (any_of HT_.out (by kernel_rfl)) (fun _ _ _ h => h) (Or.inl ⟨by rfl, ?_⟩) ?_ ?_; rotate_left; (intro w'; go_simp; with_reducible rfl); rotate_left; (simp only [Act.put, List.setIfInBounds_toArray, List.set_cons_zero, List.set_cons_succ, i64_w, i32_w]; rfl)
            refine take_ (i := 12) (N := some 27) (v := ?_) (a' := ?_) (tf_ 15 21) rfl rfl (take_ofW HT_.out HW_.out (by kernel_rfl)) (fun _ _ _ h => h) (Or.inl ⟨by rfl, ?_⟩) hHeld ?_ ?_
            rotate_left
            ·rintro w' ⟨s0, s1, s2, s3, s4, s5, s6, s7⟩
             go_simp
             with_reducible rfl
            rotate_left
            ·simp only [Act.put, List.setIfInBounds_toArray, List.set_cons_zero, List.set_cons_succ, i64_w, i32_w]
             rfl
            refine one_ (i := 15) (N := some 30) (tf_ 16 20) rfl rfl (one_of HT_.out (by kernel_rfl)) (by decide) (fun K hK => ?_)
            refine goes_ Try.func39 (by kernel_rfl) rfl #[.int .i64 ((rd_T35 l0 x5_1).f1), .int .i64 0, .int .i64 (wrap64 (a1 - 1))] (by rfl) rfl rfl sl_ ?_
            with_reducible refine (spec_l1In.calls ((rd_T35 l0 x5_1).f1) 0 (wrap64 (a1 - 1)) true _ A9.out).mono ?_
            rintro e w' ⟨rfl, ⟨nd, rfl⟩⟩
            refine ⟨_, rfl, ?_⟩
            refine hK.out _ _ ⟨((HB.out.cell (World.block_lt_of_cell? w _ hw256_0)).trans hw256_0), ((HB.out.cell (World.block_lt_of_cell? w _ hw256_1)).trans hw256_1), ((HB.out.cell (World.block_lt_of_cell? w _ hw258_0)).trans hw258_0), ((HB.out.cell (World.block_lt_of_cell? w _ hw258_1)).trans hw258_1), ((HB.out.cell (World.block_lt_of_cell? w _ hw260_0)).trans hw260_0), ((HB.out.cell (World.block_lt_of_cell? w _ hw260_1)).trans hw260_1), ((HB.out.cell (World.block_lt_of_cell? w _ hw261_0)).trans hw261_0), ((HB.out.cell (World.block_lt_of_cell? w _ hw261_1)).trans hw261_1)⟩ (fun hHeld => ?_)
            clear hK K
            refine norm_ (a' := ?_) ?_ ?_
            rotate_left
            ·show Act.put _ (some 30) _ = _
             simp only [Act.put, List.setIfInBounds_toArray, List.set_cons_zero, List.set_cons_succ, i64_w, i32_w]
             rfl
            refine pa_ (i := 16) (N := some 31) (tf_ 17 19) ?_
            refine pa_ (i := 17) (N := some 32) (tf_ 18 18) ?_
            refine pa_ (i := 18) (N := some 33) (tf_ 19 17) ?_
            refine pa_ (i := 19) (N := some 34) (tf_ 20 16) ?_
            refine pa_ (i := 20) (N := some 35) (tf_ 21 15) ?_
            refine pa_ (i := 21) (N := some 36) (tf_ 22 14) ?_
            refine pa_ (i := 22) (N := some 37) (tf_ 23 13) ?_
            refine pa_ (i := 23) (N := some 38) (tf_ 24 12) ?_
            refine pa_ (i := 24) (N := some 39) (tf_ 25 11) ?_
            refine pa_ (i := 25) (N := some 40) (tf_ 26 10) ?_
            refine pure_ (i := 27) (N := some 42) (v := ?_) (a' := ?_) #[true, true, true, true, true, true, true, true, true, true, true, true, true, true, true, true, true, true, true, true, true, true, true, true, true, true, false, true, false, false, false, false, false, false, false, false] rfl rfl (any_of HT_.out (by kernel_rfl)) (fun _ _ _ h => h) (Or.inl ⟨by rfl, ?_⟩) ?_ ?_; rotate_left; (intro w'; go_simp; with_reducible rfl); rotate_left; (simp only [Act.put, List.setIfInBounds_toArray, List.set_cons_zero, List.set_cons_succ, i64_w, i32_w]; rfl)
            refine pure_ (i := 28) (N := some 43) (v := ?_) (a' := ?_) #[true, true, true, true, true, true, true, true, true, true, true, true, true, true, true, true, true, true, true, true, true, true, true, true, true, true, false, true, true, false, false, false, false, false, false, false] rfl rfl (any_of HT_.out (by kernel_rfl)) (fun _ _ _ h => h) (Or.inl ⟨by rfl, ?_⟩) ?_ ?_; rotate_left; (intro w'; go_simp; with_reducible rfl); rotate_left; (simp only [Act.put, List.setIfInBounds_toArray, List.set_cons_zero, List.set_cons_succ, i64_w, i32_w]; rfl)
            refine pure_ (i := 29) (N := some 44) (v := ?_) (a' := ?_) #[true, true, true, true, true, true, true, true, true, true, true, true, true, true, true, true, true, true, true, true, true, true, true, true, true, true, false, true, true, true, false, false, false, false, false, false] rfl rfl (any_of HT_.out (by kernel_rfl)) (fun _ _ _ h => h) (Or.inl ⟨by rfl, ?_⟩) ?_ ?_; rotate_left; (intro w'; go_simp; with_reducible rfl); rotate_left; (simp only [Act.put, List.setIfInBounds_toArray, List.set_cons_zero, List.set_cons_succ, i64_w, i32_w]; rfl)
            refine pure_ (i := 30) (N := some 45) (v := ?_) (a' := ?_) #[true, true, true, true, true, true, true, true, true, true, true, true, true, true, true, true, true, true, true, true, true, true, true, true, true, true, false, true, true, true, true, false, false, false, false, false] rfl rfl (any_of HT_.out (by kernel_rfl)) (fun _ _ _ h => h) (Or.inl ⟨by rfl, ?_⟩) ?_ ?_; rotate_left; (intro w'; go_simp; with_reducible rfl); rotate_left; (simp only [Act.put, List.setIfInBounds_toArray, List.set_cons_zero, List.set_cons_succ, i64_w, i32_w]; rfl)
            refine pure_ (i := 31) (N := some 46) (v := ?_) (a' := ?_) #[true, true, true, true, true, true, true, true, true, true, true, true, true, true, true, true, true, true, true, true, true, true, true, true, true, true, false, true, true, true, true, true, false, false, false, false] rfl rfl (any_of HT_.out (by kernel_rfl)) (fun _ _ _ h => h) (Or.inl ⟨by rfl, ?_⟩) ?_ ?_; rotate_left; (intro w'; go_simp; with_reducible rfl); rotate_left; (simp only [Act.put, List.setIfInBounds_toArray, List.set_cons_zero, List.set_cons_succ, i64_w, i32_w]; rfl)
            refine take_ (i := 26) (N := some 41) (v := ?_) (a' := ?_) (tf_ 32 4) rfl rfl (take_ofW HT_.out HW_.out (by kernel_rfl)) (fun _ _ _ h => h) (Or.inl ⟨by rfl, ?_⟩) hHeld ?_ ?_
            rotate_left
            ·rintro w' ⟨s0, s1, s2, s3, s4, s5, s6, s7⟩
             go_simp
             with_reducible rfl
            rotate_left
            ·simp only [Act.put, List.setIfInBounds_toArray, List.set_cons_zero, List.set_cons_succ, i64_w, i32_w]
             rfl
            refine take_ (i := 32) (N := some 47) (v := ?_) (a' := ?_) (tf_ 33 3) rfl rfl (take_ofW HT_.out HW_.out (by kernel_rfl)) (fun _ _ _ h => h) (Or.inl ⟨by rfl, ?_⟩) hHeld ?_ ?_
            rotate_left
            ·rintro w' ⟨s0, s1, s2, s3, s4, s5, s6, s7⟩
             go_simp
             with_reducible rfl
            rotate_left
            ·simp only [Act.put, List.setIfInBounds_toArray, List.set_cons_zero, List.set_cons_succ, i64_w, i32_w]
             rfl
            refine pa_ (i := 33) (N := some 48) (tf_ 34 2) ?_
            refine pa_ (i := 34) (N := some 49) (tf_ 35 1) ?_
            refine pa_ (i := 35) (N := some 50) (tf_ 36 0) ?_
            refine done_ (done_of HT_.out (by kernel_rfl)) ?_
            try go_wp2
            go_roundg k1
            case measure => have := HK1.out; omega
            case rel => exact ⟨(wrap64 (x5_1 + 1)), (by first | rfl | (simp; done) | (simp [*]; done)), H', ⟨by have := HK1.out; omega⟩, ⟨hb_⟩⟩
           ·rw [if_neg c15] at H
            have c15b0 : (Op.bytesLess (((rd_T35 l0 (ji12)).f0).toList) (((rd_T35 l0 x5_1).f0).toList)) = false := by simpa using c15
            clear c15
            obtain rfl := Option.some.inj H
            try go_wp2
            have n0_ := Aside0.mk (below_drew1 HB.out)
            clear HB
            have HB := n0_
            clear n0_
            have p256 : 0 ≤ (x5_1 : Int) := of_decide_eq_true ma_
            have q256 : x5_1 < (l0.length : Int) := of_decide_eq_true ma_
            obtain ⟨ad256, e256, hx256_0, hx256_1⟩ := at_T35 HR0.out x5_1 p256 q256
            have hw256_1 := hx256_1
            have hw256_0 := hx256_0
            cases e256
            replace hx256_0 := (HB.out.cell (World.block_lt_of_cell? w _ hx256_0)).trans hx256_0
            replace hx256_1 := (HB.out.cell (World.block_lt_of_cell? w _ hx256_1)).trans hx256_1
            replace p256 := eq_true p256
            replace q256 := eq_true q256
            have p258 : 0 ≤ (x5_1 : Int) := of_decide_eq_true ma_
            have q258 : x5_1 < (l0.length : Int) := of_decide_eq_true ma_
            obtain ⟨ad258, e258, hx258_0, hx258_1⟩ := at_T35 HR0.out x5_1 p258 q258
            have hw258_1 := hx258_1
            have hw258_0 := hx258_0
            obtain rfl : ad256 = ad258 := (by injection e258)
            replace hx258_0 := (HB.out.cell (World.block_lt_of_cell? w _ hx258_0)).trans hx258_0
            replace hx258_1 := (HB.out.cell (World.block_lt_of_cell? w _ hx258_1)).trans hx258_1
            replace p258 := eq_true p258
            replace q258 := eq_true q258
            have p260 : 0 ≤ (x5_1 : Int) := of_decide_eq_true ma_
            have q260 : x5_1 < (l0.length : Int) := of_decide_eq_true ma_
            obtain ⟨ad260, e260, hx260_0, hx260_1⟩ := at_T35 HR0.out x5_1 p260 q260
            have hw260_1 := hx260_1
            have hw260_0 := hx260_0
            obtain rfl : ad256 = ad260 := (by injection e260)
            replace hx260_0 := (HB.out.cell (World.block_lt_of_cell? w _ hx260_0)).trans hx260_0
            replace hx260_1 := (HB.out.cell (World.block_lt_of_cell? w _ hx260_1)).trans hx260_1
            replace p260 := eq_true p260
            replace q260 := eq_true q260
            have p261 : 0 ≤ ((ji12) : Int) := of_decide_eq_true ma_
            have q261 : (ji12) < (l0.length : Int) := of_decide_eq_true ma_
            obtain ⟨ad261, e261, hx261_0, hx261_1⟩ := at_T35 HR0.out (ji12) p261 q261
            have hw261_1 := hx261_1
            have hw261_0 := hx261_0
            obtain rfl : ad256 = ad261 := (by injection e261)
            replace hx261_0 := (HB.out.cell (World.block_lt_of_cell? w _ hx261_0)).trans hx261_0
            replace hx261_1 := (HB.out.cell (World.block_lt_of_cell? w _ hx261_1)).trans hx261_1
            replace p261 := eq_true p261
            replace q261 := eq_true q261
            refine start_ (n := 36) (S := fun w' => w'.cell? (ad256.add ((x5_1).toNat * 2)) = some (.string ((rd_T35 l0 x5_1).f0)) ∧ w'.cell? ⟨(ad256.add ((x5_1).toNat * 2)).block, (ad256.add ((x5_1).toNat * 2)).off + 1, none⟩ = some (.int .i64 ((rd_T35 l0 x5_1).f1)) ∧ w'.cell? (ad256.add ((x5_1).toNat * 2)) = some (.string ((rd_T35 l0 x5_1).f0)) ∧ w'.cell? ⟨(ad256.add ((x5_1).toNat * 2)).block, (ad256.add ((x5_1).toNat * 2)).off + 1, none⟩ = some (.int .i64 ((rd_T35 l0 x5_1).f1)) ∧ w'.cell? (ad256.add ((x5_1).toNat * 2)) = some (.string ((rd_T35 l0 x5_1).f0)) ∧ w'.cell? ⟨(ad256.add ((x5_1).toNat * 2)).block, (ad256.add ((x5_1).toNat * 2)).off + 1, none⟩ = some (.int .i64 ((rd_T35 l0 x5_1).f1)) ∧ w'.cell? (ad256.add (((ji12)).toNat * 2)) = some (.string ((rd_T35 l0 (ji12)).f0)) ∧ w'.cell? ⟨(ad256.add (((ji12)).toNat * 2)).block, (ad256.add (((ji12)).toNat * 2)).off + 1, none⟩ = some (.int .i64 ((rd_T35 l0 (ji12)).f1))) (ds := []) (tf_ 0 36) (by kernel_rfl) rfl rfl ⟨((HB.out.cell (World.block_lt_of_cell? w _ hw256_0)).trans hw256_0), ((HB.out.cell (World.block_lt_of_cell? w _ hw256_1)).trans hw256_1), ((HB.out.cell (World.block_lt_of_cell? w _ hw258_0)).trans hw258_0), ((HB.out.cell (World.block_lt_of_cell? w _ hw258_1)).trans hw258_1), ((HB.out.cell (World.block_lt_of_cell? w _ hw260_0)).trans hw260_0), ((HB.out.cell (World.block_lt_of_cell? w _ hw260_1)).trans hw260_1), ((HB.out.cell (World.block_lt_of_cell? w _ hw261_0)).trans hw261_0), ((HB.out.cell (World.block_lt_of_cell? w _ hw261_1)).trans hw261_1)⟩ (fun hHeld => ?_); refine with_tabW spec_BranchesValid.tab6 spec_BranchesValid.bits6 (fun HT_ HW_ => ?_)
            generalize wr.drew = w17 at HB hx256_0 hx256_1 hx258_0 hx258_1 hx260_0 hx260_1 hx261_0 hx261_1 hHeld ⊢
            refine pa_ (i := 0) (N := some 15) (tf_ 1 35) ?_
            refine pa_ (i := 1) (N := some 16) (tf_ 2 34) ?_
            refine pa_ (i := 2) (N := some 17) (tf_ 3 33) ?_
            refine pa_ (i := 3) (N := some 18) (tf_ 4 32) ?_
            refine take_ (i := 4) (N := some 19) (v := ?_) (a' := ?_) (tf_ 5 31) rfl rfl (take_ofW HT_.out HW_.out (by kernel_rfl)) (fun _ _ _ h => h) (Or.inl ⟨by rfl, ?_⟩) hHeld ?_ ?_
            rotate_left
            ·rintro w' ⟨s0, s1, s2, s3, s4, s5, s6, s7⟩
             go_simp
             with_reducible rfl
            rotate_left
            ·simp only [Act.put, List.setIfInBounds_toArray, List.set_cons_zero, List.set_cons_succ, i64_w, i32_w]
             rfl
            refine one_ (i := 5) (N := some 20) (tf_ 6 30) rfl rfl (one_of HT_.out (by kernel_rfl)) (by decide) (fun K hK => ?_)
            refine goes_ Try.func40 (by kernel_rfl) rfl #[.string ((rd_T35 l0 x5_1).f0)] (by rfl) rfl rfl sl_ ?_
            with_reducible refine (spec_WordValid.calls k1 ((rd_T35 l0 x5_1).f0) true _ A7.out).mono ?_
            rintro e w' ⟨rfl, ⟨nd, rfl⟩⟩
            refine ⟨_, rfl, ?_⟩
            refine hK.out _ _ ⟨((HB.out.cell (World.block_lt_of_cell? w _ hw256_0)).trans hw256_0), ((HB.out.cell (World.block_lt_of_cell? w _ hw256_1)).trans hw256_1), ((HB.out.cell (World.block_lt_of_cell? w _ hw258_0)).trans hw258_0), ((HB.out.cell (World.block_lt_of_cell? w _ hw258_1)).trans hw258_1), ((HB.out.cell (World.block_lt_of_cell? w _ hw260_0)).trans hw260_0), ((HB.out.cell (World.block_lt_of_cell? w _ hw260_1)).trans hw260_1), ((HB.out.cell (World.block_lt_of_cell? w _ hw261_0)).trans hw261_0), ((HB.out.cell (World.block_lt_of_cell? w _ hw261_1)).trans hw261_1)⟩ (fun hHeld => ?_)
            clear hK K
            refine norm_ (a' := ?_) ?_ ?_
            rotate_left
            ·show Act.put _ (some 20) _ = _
             simp only [Act.put, List.setIfInBounds_toArray, List.set_cons_zero, List.set_cons_succ, i64_w, i32_w]
             rfl
            refine pa_ (i := 6) (N := some 21) (tf_ 7 29) ?_
            refine pa_ (i := 7) (N := some 22) (tf_ 8 28) ?_
            refine pa_ (i := 8) (N := some 23) (tf_ 9 27) ?_
            refine pa_ (i := 9) (N := some 24) (tf_ 10 26) ?_
            refine pa_ (i := 10) (N := some 25) (tf_ 11 25) ?_
            refine pa_ (i := 11) (N := some 26) (tf_ 12 24) ?_
            refine pure_ (i := 13) (N := some 28) (v := ?_) (a' := ?_) #[true, true, true, true, true, true, true, true, true, true, true, true, false, true, false, false, false, false, false, false, false, false, false, false, false, false, false, false, false, false, false, false, false, false, false, false] rfl rfl (any_of HT_.out (by kernel_rfl)) (fun _ _ _ h => h) (Or.inl ⟨by rfl, ?_⟩) ?_ ?_; rotate_left; (intro w'; go_simp; with_reducible rfl); rotate_left; (simp only [Act.put, List.setIfInBounds_toArray, List.set_cons_zero, List.set_cons_succ, i64_w, i32_w]; rfl)
            refine pure_ (i := 14) (N := some 29) (v := ?_) (a' := ?_) #[true, true, true, true, true, true, true, true, true, true, true, true, false, true, true, false, false, false, false, false, false, false, false, false, false, false, false, false, false, false, false, false, false, false, false, false] rfl rfl (any_of HT_.out (by kernel_rfl)) (fun _ _ _ h => h) (Or.inl ⟨by rfl, ?_⟩) ?_ ?_; rotate_left; (intro w'; go_simp; with_reducible rfl); rotate_left; (simp only [Act.put, List.setIfInBounds_toArray, List.set_cons_zero, List.set_cons_succ, i64_w, i32_w]; rfl)
            refine take_ (i := 12) (N := some 27) (v := ?_) (a' := ?_) (tf_ 15 21) rfl rfl (take_ofW HT_.out HW_.out (by kernel_rfl)) (fun _ _ _ h => h) (Or.inl ⟨by rfl, ?_⟩) hHeld ?_ ?_
            rotate_left
            ·rintro w' ⟨s0, s1, s2, s3, s4, s5, s6, s7⟩
             go_simp
             with_reducible rfl
            rotate_left
            ·simp only [Act.put, List.setIfInBounds_toArray, List.set_cons_zero, List.set_cons_succ, i64_w, i32_w]
             rfl
            refine one_ (i := 15) (N := some 30) (tf_ 16 20) rfl rfl (one_of HT_.out (by kernel_rfl)) (by decide) (fun K hK => ?_)
            refine goes_ Try.func39 (by kernel_rfl) rfl #[.int .i64 ((rd_T35 l0 x5_1).f1), .int .i64 0, .int .i64 (wrap64 (a1 - 1))] (by rfl) rfl rfl sl_ ?_
            with_reducible refine (spec_l1In.calls ((rd_T35 l0 x5_1).f1) 0 (wrap64 (a1 - 1)) true _ A9.out).mono ?_
            rintro e w' ⟨rfl, ⟨nd, rfl⟩⟩
            refine ⟨_, rfl, ?_⟩
            refine hK.out _ _ ⟨((HB.out.cell (World.block_lt_of_cell? w _ hw256_0)).trans hw256_0), ((HB.out.cell (World.block_lt_of_cell? w _ hw256_1)).trans hw256_1), ((HB.out.cell (World.block_lt_of_cell? w _ hw258_0)).trans hw258_0), ((HB.out.cell (World.block_lt_of_cell? w _ hw258_1)).trans hw258_1), ((HB.out.cell (World.block_lt_of_cell? w _ hw260_0)).trans hw260_0), ((HB.out.cell (World.block_lt_of_cell? w _ hw260_1)).trans hw260_1), ((HB.out.cell (World.block_lt_of_cell? w _ hw261_0)).trans hw261_0), ((HB.out.cell (World.block_lt_of_cell? w _ hw261_1)).trans hw261_1)⟩ (fun hHeld => ?_)
            clear hK K
            refine norm_ (a' := ?_) ?_ ?_
            rotate_left
            ·show Act.put _ (some 30) _ = _
             simp only [Act.put, List.setIfInBounds_toArray, List.set_cons_zero, List.set_cons_succ, i64_w, i32_w]
             rfl
            refine pa_ (i := 16) (N := some 31) (tf_ 17 19) ?_
            refine pa_ (i := 17) (N := some 32) (tf_ 18 18) ?_
            refine pa_ (i := 18) (N := some 33) (tf_ 19 17) ?_
            refine pa_ (i := 19) (N := some 34) (tf_ 20 16) ?_
            refine pa_ (i := 20) (N := some 35) (tf_ 21 15) ?_
            refine pa_ (i := 21) (N := some 36) (tf_ 22 14) ?_
            refine pa_ (i := 22) (N := some 37) (tf_ 23 13) ?_
            refine pa_ (i := 23) (N := some 38) (tf_ 24 12) ?_
            refine pa_ (i := 24) (N := some 39) (tf_ 25 11) ?_
            refine pa_ (i := 25) (N := some 40) (tf_ 26 10) ?_
            refine pure_ (i := 27) (N := some 42) (v := ?_) (a' := ?_) #[true, true, true, true, true, true, true, true, true, true, true, true, true, true, true, true, true, true, true, true, true, true, true, true, true, true, false, true, false, false, false, false, false, false, false, false] rfl rfl (any_of HT_.out (by kernel_rfl)) (fun _ _ _ h => h) (Or.inl ⟨by rfl, ?_⟩) ?_ ?_; rotate_left; (intro w'; go_simp; with_reducible rfl); rotate_left; (simp only [Act.put, List.setIfInBounds_toArray, List.set_cons_zero, List.set_cons_succ, i64_w, i32_w]; rfl)
            refine pure_ (i := 28) (N := some 43) (v := ?_) (a' := ?_) #[true, true, true, true, true, true, true, true, true, true, true, true, true, true, true, true, true, true, true, true, true, true, true, true, true, true, false, true, true, false, false, false, false, false, false, false] rfl rfl (any_of HT_.out (by kernel_rfl)) (fun _ _ _ h => h) (Or.inl ⟨by rfl, ?_⟩) ?_ ?_; rotate_left; (intro w'; go_simp; with_reducible rfl); rotate_left; (simp only [Act.put, List.setIfInBounds_toArray, List.set_cons_zero, List.set_cons_succ, i64_w, i32_w]; rfl)
            refine pure_ (i := 29) (N := some 44) (v := ?_) (a' := ?_) #[true, true, true, true, true, true, true, true, true, true, true, true, true, true, true, true, true, true, true, true, true, true, true, true, true, true, false, true, true, true, false, false, false, false, false, false] rfl rfl (any_of HT_.out (by kernel_rfl)) (fun _ _ _ h => h) (Or.inl ⟨by rfl, ?_⟩) ?_ ?_; rotate_left; (intro w'; go_simp; with_reducible rfl); rotate_left; (simp only [Act.put, List.setIfInBounds_toArray, List.set_cons_zero, List.set_cons_succ, i64_w, i32_w]; rfl)
            refine pure_ (i := 30) (N := some 45) (v := ?_) (a' := ?_) #[true, true, true, true, true, true, true, true, true, true, true, true, true, true, true, true, true, true, true, true, true, true, true, true, true, true, false, true, true, true, true, false, false, false, false, false] rfl rfl (any_of HT_.out (by kernel_rfl)) (fun _ _ _ h => h) (Or.inl ⟨by rfl, ?_⟩) ?_ ?_; rotate_left; (intro w'; go_simp; with_reducible rfl); rotate_left; (simp only [Act.put, List.setIfInBounds_toArray, List.set_cons_zero, List.set_cons_succ, i64_w, i32_w]; rfl)
            refine pure_ (i := 31) (N := some 46) (v := ?_) (a' := ?_) #[true, true, true, true, true, true, true, true, true, true, true, true, true, true, true, true, true, true, true, true, true, true, true, true, true, true, false, true, true, true, true, true, false, false, false, false] rfl rfl (any_of HT_.out (by kernel_rfl)) (fun _ _ _ h => h) (Or.inl ⟨by rfl, ?_⟩) ?_ ?_; rotate_left; (intro w'; go_simp; with_reducible rfl); rotate_left; (simp only [Act.put, List.setIfInBounds_toArray, List.set_cons_zero, List.set_cons_succ, i64_w, i32_w]; rfl)
            refine take_ (i := 26) (N := some 41) (v := ?_) (a' := ?_) (tf_ 32 4) rfl rfl (take_ofW HT_.out HW_.out (by kernel_rfl)) (fun _ _ _ h => h) (Or.inl ⟨by rfl, ?_⟩) hHeld ?_ ?_
            rotate_left
            ·rintro w' ⟨s0, s1, s2, s3, s4, s5, s6, s7⟩
             go_simp
             with_reducible rfl
            rotate_left
            ·simp only [Act.put, List.setIfInBounds_toArray, List.set_cons_zero, List.set_cons_succ, i64_w, i32_w]
             rfl
            refine take_ (i := 32) (N := some 47) (v := ?_) (a' := ?_) (tf_ 33 3) rfl rfl (take_ofW HT_.out HW_.out (by kernel_rfl)) (fun _ _ _ h => h) (Or.inl ⟨by rfl, ?_⟩) hHeld ?_ ?_
            rotate_left
            ·rintro w' ⟨s0, s1, s2, s3, s4, s5, s6, s7⟩
             go_simp
             with_reducible rfl
            rotate_left
            ·simp only [Act.put, List.setIfInBounds_toArray, List.set_cons_zero, List.set_cons_succ, i64_w, i32_w]
             rfl
            refine pa_ (i := 33) (N := some 48) (tf_ 34 2) ?_
            refine pa_ (i := 34) (N := some 49) (tf_ 35 1) ?_
            refine pa_ (i := 35) (N := some 50) (tf_ 36 0) ?_
            refine done_ (done_of HT_.out (by kernel_rfl)) ?_
            try go_wp2
            go_ret
            exact ⟨by first | rfl | (simp [errW_none, errW_some] <;> rfl) | (simp only [← hji12]; first | rfl | (simp [errW_none, errW_some] <;> rfl)) | (simp [*, errW_none, errW_some] <;> rfl), hb_⟩
          ·rw [if_neg c14] at H
           exact absurd H (by simp)
         ·rw [if_neg c13] at H
          exact absurd H (by simp)
        ·rw [if_neg c11] at H
         have c11b0 : decide (0 < x5_1) = false := decide_eq_false c11
         clear c11
         have H' := Aside0.mk H
         clear H
         try go_wp2
         have n0_ := Aside0.mk (below_drew1 HB.out)
         clear HB
         have HB := n0_
         clear n0_
         have p256 : 0 ≤ (x5_1 : Int) := of_decide_eq_true ma_
         have q256 : x5_1 < (l0.length : Int) := of_decide_eq_true ma_
         obtain ⟨ad256, e256, hx256_0, hx256_1⟩ := at_T35 HR0.out x5_1 p256 q256
         have hw256_1 := hx256_1
         have hw256_0 := hx256_0
         cases e256
         replace hx256_0 := (HB.out.cell (World.block_lt_of_cell? w _ hx256_0)).trans hx256_0
         replace hx256_1 := (HB.out.cell (World.block_lt_of_cell? w _ hx256_1)).trans hx256_1
         replace p256 := eq_true p256
         replace q256 := eq_true q256
         have p258 : 0 ≤ (x5_1 : Int) := of_decide_eq_true ma_
         have q258 : x5_1 < (l0.length : Int) := of_decide_eq_true ma_
         obtain ⟨ad258, e258, hx258_0, hx258_1⟩ := at_T35 HR0.out x5_1 p258 q258
         have hw258_1 := hx258_1
         have hw258_0 := hx258_0
         obtain rfl : ad256 = ad258 := (by injection e258)
         replace hx258_0 := (HB.out.cell (World.block_lt_of_cell? w _ hx258_0)).trans hx258_0
         replace hx258_1 := (HB.out.cell (World.block_lt_of_cell? w _ hx258_1)).trans hx258_1
         replace p258 := eq_true p258
         replace q258 := eq_true q258
         refine start_ (n := 36) (S := fun w' => w'.cell? (ad256.add ((x5_1).toNat * 2)) = some (.string ((rd_T35 l0 x5_1).f0)) ∧ w'.cell? ⟨(ad256.add ((x5_1).toNat * 2)).block, (ad256.add ((x5_1).toNat * 2)).off + 1, none⟩ = some (.int .i64 ((rd_T35 l0 x5_1).f1)) ∧ w'.cell? (ad256.add ((x5_1).toNat * 2)) = some (.string ((rd_T35 l0 x5_1).f0)) ∧ w'.cell? ⟨(ad256.add ((x5_1).toNat * 2)).block, (ad256.add ((x5_1).toNat * 2)).off + 1, none⟩ = some (.int .i64 ((rd_T35 l0 x5_1).f1))) (ds := []) (tf_ 0 36) (by kernel_rfl) rfl rfl ⟨((HB.out.cell (World.block_lt_of_cell? w _ hw256_0)).trans hw256_0), ((HB.out.cell (World.block_lt_of_cell? w _ hw256_1)).trans hw256_1), ((HB.out.cell (World.block_lt_of_cell? w _ hw258_0)).trans hw258_0), ((HB.out.cell (World.block_lt_of_cell? w _ hw258_1)).trans hw258_1)⟩ (fun hHeld => ?_); refine with_tabW spec_BranchesValid.tab6 spec_BranchesValid.bits6 (fun HT_ HW_ => ?_)
         generalize wr.drew = w18 at HB hx256_0 hx256_1 hx258_0 hx258_1 hHeld ⊢
         refine pa_ (i := 0) (N := some 15) (tf_ 1 35) ?_
         refine pa_ (i := 1) (N := some 16) (tf_ 2 34) ?_
         refine pa_ (i := 2) (N := some 17) (tf_ 3 33) ?_
         refine pa_ (i := 3) (N := some 18) (tf_ 4 32) ?_
         refine take_ (i := 4) (N := some 19) (v := ?_) (a' := ?_) (tf_ 5 31) rfl rfl (take_ofW HT_.out HW_.out (by kernel_rfl)) (fun _ _ _ h => h) (Or.inl ⟨by rfl, ?_⟩) hHeld ?_ ?_
         rotate_left
         ·rintro w' ⟨s0, s1, s2, s3⟩
          go_simp
          with_reducible rfl
         rotate_left
         ·simp only [Act.put, List.setIfInBounds_toArray, List.set_cons_zero, List.set_cons_succ, i64_w, i32_w]
          rfl
         refine one_ (i := 5) (N := some 20) (tf_ 6 30) rfl rfl (one_of HT_.out (by kernel_rfl)) (by decide) (fun K hK => ?_)
         refine goes_ Try.func40 (by kernel_rfl) rfl #[.string ((rd_T35 l0 x5_1).f0)] (by rfl) rfl rfl sl_ ?_
         with_reducible refine (spec_WordValid.calls k1 ((rd_T35 l0 x5_1).f0) true _ A7.out).mono ?_
         rintro e w' ⟨rfl, ⟨nd, rfl⟩⟩
         refine ⟨_, rfl, ?_⟩
         refine hK.out _ _ ⟨((HB.out.cell (World.block_lt_of_cell? w _ hw256_0)).trans hw256_0), ((HB.out.cell (World.block_lt_of_cell? w _ hw256_1)).trans hw256_1), ((HB.out.cell (World.block_lt_of_cell? w _ hw258_0)).trans hw258_0), ((HB.out.cell (World.block_lt_of_cell? w _ hw258_1)).trans hw258_1)⟩ (fun hHeld => ?_)
         clear hK K
         refine norm_ (a' := ?_) ?_ ?_
         rotate_left
         ·show Act.put _ (some 20) _ = _
          simp only [Act.put, List.setIfInBounds_toArray, List.set_cons_zero, List.set_cons_succ, i64_w, i32_w]
          rfl
         refine pa_ (i := 6) (N := some 21) (tf_ 7 29) ?_
         refine pa_ (i := 7) (N := some 22) (tf_ 8 28) ?_
         refine pa_ (i := 8) (N := some 23) (tf_ 9 27) ?_
         refine pa_ (i := 9) (N := some 24) (tf_ 10 26) ?_
         refine pa_ (i := 10) (N := some 25) (tf_ 11 25) ?_
         refine pa_ (i := 11) (N := some 26) (tf_ 12 24) ?_
         refine pure_ (i := 13) (N := some 28) (v := ?_) (a' := ?_) #[true, true, true, true, true, true, true, true, true, true, true, true, false, true, false, false, false, false, false, false, false, false, false, false, false, false, false, false, false, false, false, false, false, false, false, false] rfl rfl (any_of HT_.out (by kernel_rfl)) (fun _ _ _ h => h) (Or.inl ⟨by rfl, ?_⟩) ?_ ?_; rotate_left; (intro w'; go_simp; with_reducible rfl); rotate_left; (simp only [Act.put, List.setIfInBounds_toArray, List.set_cons_zero, List.set_cons_succ, i64_w, i32_w]; rfl)
         refine pure_ (i := 14) (N := some 29) (v := ?_) (a' := ?_) #[true, true, true, true, true, true, true, true, true, true, true, true, false, true, true, false, false, false, false, false, false, false, false, false, false, false, false, false, false, false, false, false, false, false, false, false] rfl rfl (any_of HT_.out (by kernel_rfl)) (fun _ _ _ h => h) (Or.inl ⟨by rfl, ?_⟩) ?_ ?_; rotate_left; (intro w'; go_simp; with_reducible rfl); rotate_left; (simp only [Act.put, List.setIfInBounds_toArray, List.set_cons_zero, List.set_cons_succ, i64_w, i32_w]; rfl)
         refine take_ (i := 12) (N := some 27) (v := ?_) (a' := ?_) (tf_ 15 21) rfl rfl (take_ofW HT_.out HW_.out (by kernel_rfl)) (fun _ _ _ h => h) (Or.inl ⟨by rfl, ?_⟩) hHeld ?_ ?_
         rotate_left
         ·rintro w' ⟨s0, s1, s2, s3⟩
          go_simp
          with_reducible rfl
         rotate_left
         ·simp only [Act.put, List.setIfInBounds_toArray, List.set_cons_zero, List.set_cons_succ, i64_w, i32_w]
          rfl
         refine one_ (i := 15) (N := some 30) (tf_ 16 20) rfl rfl (one_of HT_.out (by kernel_rfl)) (by decide) (fun K hK => ?_)
         refine goes_ Try.func39 (by kernel_rfl) rfl #[.int .i64 ((rd_T35 l0 x5_1).f1), .int .i64 0, .int .i64 (wrap64 (a1 - 1))] (by rfl) rfl rfl sl_ ?_
         with_reducible refine (spec_l1In.calls ((rd_T35 l0 x5_1).f1) 0 (wrap64 (a1 - 1)) true _ A9.out).mono ?_
         rintro e w' ⟨rfl, ⟨nd, rfl⟩⟩
         refine ⟨_, rfl, ?_⟩
         refine hK.out _ _ ⟨((HB.out.cell (World.block_lt_of_cell? w _ hw256_0)).trans hw256_0), ((HB.out.cell (World.block_lt_of_cell? w _ hw256_1)).trans hw256_1), ((HB.out.cell (World.block_lt_of_cell? w _ hw258_0)).trans hw258_0), ((HB.out.cell (World.block_lt_of_cell? w _ hw258_1)).trans hw258_1)⟩ (fun hHeld => ?_)
         clear hK K
         refine norm_ (a' := ?_) ?_ ?_
         rotate_left
         ·show Act.put _ (some 30) _ = _
          simp only [Act.put, List.setIfInBounds_toArray, List.set_cons_zero, List.set_cons_succ, i64_w, i32_w]
          rfl
         refine pa_ (i := 16) (N := some 31) (tf_ 17 19) ?_
         refine pa_ (i := 17) (N := some 32) (tf_ 18 18) ?_
         refine pa_ (i := 18) (N := some 33) (tf_ 19 17) ?_
         refine pa_ (i := 19) (N := some 34) (tf_ 20 16) ?_
         refine pa_ (i := 20) (N := some 35) (tf_ 21 15) ?_
         refine pa_ (i := 21) (N := some 36) (tf_ 22 14) ?_
         refine pn_ (i := 22) (N := some 37) (tf_ 23 13) ?_
         refine pn_ (i := 23) (N := some 38) (tf_ 24 12) ?_
         refine pn_ (i := 24) (N := some 39) (tf_ 25 11) ?_
         refine pn_ (i := 25) (N := some 40) (tf_ 26 10) ?_
         refine pn_ (i := 26) (N := some 41) (tf_ 27 9) ?_
         refine pn_ (i := 27) (N := some 42) (tf_ 28 8) ?_
         refine pn_ (i := 28) (N := some 43) (tf_ 29 7) ?_
         refine pn_ (i := 29) (N := some 44) (tf_ 30 6) ?_
         refine pn_ (i := 30) (N := some 45) (tf_ 31 5) ?_
         refine pn_ (i := 31) (N := some 46) (tf_ 32 4) ?_
         refine pn_ (i := 32) (N := some 47) (tf_ 33 3) ?_
         refine pn_ (i := 33) (N := some 48) (tf_ 34 2) ?_
         refine pa_ (i := 34) (N := some 49) (tf_ 35 1) ?_
         refine pa_ (i := 35) (N := some 50) (tf_ 36 0) ?_
         refine done_ (done_of HT_.out (by kernel_rfl)) ?_
         try go_wp2
         go_roundg k1
         case measure => have := HK1.out; omega
         case rel => exact ⟨(wrap64 (x5_1 + 1)), (by first | rfl | (simp; done) | (simp [*]; done)), H', ⟨by have := HK1.out; omega⟩, ⟨hb_⟩⟩
       ·replace c10 := Bool.eq_false_iff.mpr c10
        subst c10
        have H1 : (some false) = some r := by rw [if_neg (show ¬ (false = true) by decide)] at H; exact H
        clear H
        have H := H1
        clear H1
        obtain rfl := Option.some.inj H
        try go_wp2
        have n0_ := Aside0.mk (below_drew1 HB.out)
        clear HB
        have HB := n0_
        clear n0_
        have p256 : 0 ≤ (x5_1 : Int) := of_decide_eq_true ma_
        have q256 : x5_1 < (l0.length : Int) := of_decide_eq_true ma_
        obtain ⟨ad256, e256, hx256_0, hx256_1⟩ := at_T35 HR0.out x5_1 p256 q256
        have hw256_1 := hx256_1
        have hw256_0 := hx256_0
        cases e256
        replace hx256_0 := (HB.out.cell (World.block_lt_of_cell? w _ hx256_0)).trans hx256_0
        replace hx256_1 := (HB.out.cell (World.block_lt_of_cell? w _ hx256_1)).trans hx256_1
        replace p256 := eq_true p256
        replace q256 := eq_true q256
        have p258 : 0 ≤ (x5_1 : Int) := of_decide_eq_true ma_
        have q258 : x5_1 < (l0.length : Int) := of_decide_eq_true ma_
        obtain ⟨ad258, e258, hx258_0, hx258_1⟩ := at_T35 HR0.out x5_1 p258 q258
        have hw258_1 := hx258_1
        have hw258_0 := hx258_0
        obtain rfl : ad256 = ad258 := (by injection e258)
        replace hx258_0 := (HB.out.cell (World.block_lt_of_cell? w _ hx258_0)).trans hx258_0
        replace hx258_1 := (HB.out.cell (World.block_lt_of_cell? w _ hx258_1)).trans hx258_1
        replace p258 := eq_true p258
        replace q258 := eq_true q258
        refine start_ (n := 36) (S := fun w' => w'.cell? (ad256.add ((x5_1).toNat * 2)) = some (.string ((rd_T35 l0 x5_1).f0)) ∧ w'.cell? ⟨(ad256.add ((x5_1).toNat * 2)).block, (ad256.add ((x5_1).toNat * 2)).off + 1, none⟩ = some (.int .i64 ((rd_T35 l0 x5_1).f1)) ∧ w'.cell? (ad256.add ((x5_1).toNat * 2)) = some (.string ((rd_T35 l0 x5_1).f0)) ∧ w'.cell? ⟨(ad256.add ((x5_1).toNat * 2)).block, (ad256.add ((x5_1).toNat * 2)).off + 1, none⟩ = some (.int .i64 ((rd_T35 l0 x5_1).f1))) (ds := []) (tf_ 0 36) (by kernel_rfl) rfl rfl ⟨((HB.out.cell (World.block_lt_of_cell? w _ hw256_0)).trans hw256_0), ((HB.out.cell (World.block_lt_of_cell? w _ hw256_1)).trans hw256_1), ((HB.out.cell (World.block_lt_of_cell? w _ hw258_0)).trans hw258_0), ((HB.out.cell (World.block_lt_of_cell? w _ hw258_1)).trans hw258_1)⟩ (fun hHeld => ?_); refine with_tabW spec_BranchesValid.tab6 spec_BranchesValid.bits6 (fun HT_ HW_ => ?_)
        generalize wr.drew = w19 at HB hx256_0 hx256_1 hx258_0 hx258_1 hHeld ⊢
        refine pa_ (i := 0) (N := some 15) (tf_ 1 35) ?_
        refine pa_ (i := 1) (N := some 16) (tf_ 2 34) ?_
        refine pa_ (i := 2) (N := some 17) (tf_ 3 33) ?_
        refine pa_ (i := 3) (N := some 18) (tf_ 4 32) ?_
        refine take_ (i := 4) (N := some 19) (v := ?_) (a' := ?_) (tf_ 5 31) rfl rfl (take_ofW HT_.out HW_.out (by kernel_rfl)) (fun _ _ _ h => h) (Or.inl ⟨by rfl, ?_⟩) hHeld ?_ ?_
        rotate_left
        ·rintro w' ⟨s0, s1, s2, s3⟩
         go_simp
         with_reducible rfl
        rotate_left
        ·simp only [Act.put, List.setIfInBounds_toArray, List.set_cons_zero, List.set_cons_succ, i64_w, i32_w]
         rfl
        refine one_ (i := 5) (N := some 20) (tf_ 6 30) rfl rfl (one_of HT_.out (by kernel_rfl)) (by decide) (fun K hK => ?_)
        refine goes_ Try.func40 (by kernel_rfl) rfl #[.string ((rd_T35 l0 x5_1).f0)] (by rfl) rfl rfl sl_ ?_
        with_reducible refine (spec_WordValid.calls k1 ((rd_T35 l0 x5_1).f0) true _ A7.out).mono ?_
        rintro e w' ⟨rfl, ⟨nd, rfl⟩⟩
        refine ⟨_, rfl, ?_⟩
        refine hK.out _ _ ⟨((HB.out.cell (World.block_lt_of_cell? w _ hw256_0)).trans hw256_0), ((HB.out.cell (World.block_lt_of_cell? w _ hw256_1)).trans hw256_1), ((HB.out.cell (World.block_lt_of_cell? w _ hw258_0)).trans hw258_0), ((HB.out.cell (World.block_lt_of_cell? w _ hw258_1)).trans hw258_1)⟩ (fun hHeld => ?_)
        clear hK K
        refine norm_ (a' := ?_) ?_ ?_
        rotate_left
        ·show Act.put _ (some 20) _ = _
         simp only [Act.put, List.setIfInBounds_toArray, List.set_cons_zero, List.set_cons_succ, i64_w, i32_w]
         rfl
        refine pa_ (i := 6) (N := some 21) (tf_ 7 29) ?_
        refine pa_ (i := 7) (N := some 22) (tf_ 8 28) ?_
        refine pa_ (i := 8) (N := some 23) (tf_ 9 27) ?_
        refine pa_ (i := 9) (N := some 24) (tf_ 10 26) ?_
        refine pa_ (i := 10) (N := some 25) (tf_ 11 25) ?_
        refine pa_ (i := 11) (N := some 26) (tf_ 12 24) ?_
        refine pure_ (i := 13) (N := some 28) (v := ?_) (a' := ?_) #[true, true, true, true, true, true, true, true, true, true, true, true, false, true, false, false, false, false, false, false, false, false, false, false, false, false, false, false, false, false, false, false, false, false, false, false] rfl rfl (any_of HT_.out (by kernel_rfl)) (fun _ _ _ h => h) (Or.inl ⟨by rfl, ?_⟩) ?_ ?_; rotate_left; (intro w'; go_simp; with_reducible rfl); rotate_left; (simp only [Act.put, List.setIfInBounds_toArray, List.set_cons_zero, List.set_cons_succ, i64_w, i32_w]; rfl)
        refine pure_ (i := 14) (N := some 29) (v := ?_) (a' := ?_) #[true, true, true, true, true, true, true, true, true, true, true, true, false, true, true, false, false, false, false, false, false, false, false, false, false, false, false, false, false, false, false, false, false, false, false, false] rfl rfl (any_of HT_.out (by kernel_rfl)) (fun _ _ _ h => h) (Or.inl ⟨by rfl, ?_⟩) ?_ ?_; rotate_left; (intro w'; go_simp; with_reducible rfl); rotate_left; (simp only [Act.put, List.setIfInBounds_toArray, List.set_cons_zero, List.set_cons_succ, i64_w, i32_w]; rfl)
        refine take_ (i := 12) (N := some 27) (v := ?_) (a' := ?_) (tf_ 15 21) rfl rfl (take_ofW HT_.out HW_.out (by kernel_rfl)) (fun _ _ _ h => h) (Or.inl ⟨by rfl, ?_⟩) hHeld ?_ ?_
        rotate_left
        ·rintro w' ⟨s0, s1, s2, s3⟩
         go_simp
         with_reducible rfl
        rotate_left
        ·simp only [Act.put, List.setIfInBounds_toArray, List.set_cons_zero, List.set_cons_succ, i64_w, i32_w]
         rfl
        refine one_ (i := 15) (N := some 30) (tf_ 16 20) rfl rfl (one_of HT_.out (by kernel_rfl)) (by decide) (fun K hK => ?_)
        refine goes_ Try.func39 (by kernel_rfl) rfl #[.int .i64 ((rd_T35 l0 x5_1).f1), .int .i64 0, .int .i64 (wrap64 (a1 - 1))] (by rfl) rfl rfl sl_ ?_
        with_reducible refine (spec_l1In.calls ((rd_T35 l0 x5_1).f1) 0 (wrap64 (a1 - 1)) false _ A9.out).mono ?_
        rintro e w' ⟨rfl, ⟨nd, rfl⟩⟩
        refine ⟨_, rfl, ?_⟩
        refine hK.out _ _ ⟨((HB.out.cell (World.block_lt_of_cell? w _ hw256_0)).trans hw256_0), ((HB.out.cell (World.block_lt_of_cell? w _ hw256_1)).trans hw256_1), ((HB.out.cell (World.block_lt_of_cell? w _ hw258_0)).trans hw258_0), ((HB.out.cell (World.block_lt_of_cell? w _ hw258_1)).trans hw258_1)⟩ (fun hHeld => ?_)
        clear hK K
        refine norm_ (a' := ?_) ?_ ?_
        rotate_left
        ·show Act.put _ (some 30) _ = _
         simp only [Act.put, List.setIfInBounds_toArray, List.set_cons_zero, List.set_cons_succ, i64_w, i32_w]
         rfl
        refine pa_ (i := 16) (N := some 31) (tf_ 17 19) ?_
        refine pa_ (i := 17) (N := some 32) (tf_ 18 18) ?_
        refine pa_ (i := 18) (N := some 33) (tf_ 19 17) ?_
        refine pn_ (i := 19) (N := some 34) (tf_ 20 16) ?_
        refine pn_ (i := 20) (N := some 35) (tf_ 21 15) ?_
        refine pn_ (i := 21) (N := some 36) (tf_ 22 14) ?_
        refine pn_ (i := 22) (N := some 37) (tf_ 23 13) ?_
        refine pn_ (i := 23) (N := some 38) (tf_ 24 12) ?_
        refine pn_ (i := 24) (N := some 39) (tf_ 25 11) ?_
        refine pn_ (i := 25) (N := some 40) (tf_ 26 10) ?_
        refine pn_ (i := 26) (N := some 41) (tf_ 27 9) ?_
        refine pn_ (i := 27) (N := some 42) (tf_ 28 8) ?_
        refine pn_ (i := 28) (N := some 43) (tf_ 29 7) ?_
        refine pn_ (i := 29) (N := some 44) (tf_ 30 6) ?_
        refine pn_ (i := 30) (N := some 45) (tf_ 31 5) ?_
        refine pn_ (i := 31) (N := some 46) (tf_ 32 4) ?_
        refine pn_ (i := 32) (N := some 47) (tf_ 33 3) ?_
        refine pn_ (i := 33) (N := some 48) (tf_ 34 2) ?_
        refine pn_ (i := 34) (N := some 49) (tf_ 35 1) ?_
        refine pa_ (i := 35) (N := some 50) (tf_ 36 0) ?_
        refine done_ (done_of HT_.out (by kernel_rfl)) ?_
        try go_wp2
        go_ret
        exact ⟨er_, hb_⟩
      ·replace c8 := Bool.eq_false_iff.mpr c8
       subst c8
       have H1 : (some false) = some r := by rw [if_neg (show ¬ (false = true) by decide)] at H; exact H
       clear H
       have H := H1
       clear H1
       obtain rfl := Option.some.inj H
       try go_wp2
       have n0_ := Aside0.mk (below_drew1 HB.out)
       clear HB
       have HB := n0_
       clear n0_
       have p256 : 0 ≤ (x5_1 : Int) := of_decide_eq_true ma_
       have q256 : x5_1 < (l0.length : Int) := of_decide_eq_true ma_
       obtain ⟨ad256, e256, hx256_0, hx256_1⟩ := at_T35 HR0.out x5_1 p256 q256
       have hw256_1 := hx256_1
       have hw256_0 := hx256_0
       cases e256
       replace hx256_0 := (HB.out.cell (World.block_lt_of_cell? w _ hx256_0)).trans hx256_0
       replace hx256_1 := (HB.out.cell (World.block_lt_of_cell? w _ hx256_1)).trans hx256_1
       replace p256 := eq_true p256
       replace q256 := eq_true q256
       refine start_ (n := 36) (S := fun w' => w'.cell? (ad256.add ((x5_1).toNat * 2)) = some (.string ((rd_T35 l0 x5_1).f0)) ∧ w'.cell? ⟨(ad256.add ((x5_1).toNat * 2)).block, (ad256.add ((x5_1).toNat * 2)).off + 1, none⟩ = some (.int .i64 ((rd_T35 l0 x5_1).f1))) (ds := []) (tf_ 0 36) (by kernel_rfl) rfl rfl ⟨((HB.out.cell (World.block_lt_of_cell? w _ hw256_0)).trans hw256_0), ((HB.out.cell (World.block_lt_of_cell? w _ hw256_1)).trans hw256_1)⟩ (fun hHeld => ?_); refine with_tabW spec_BranchesValid.tab6 spec_BranchesValid.bits6 (fun HT_ HW_ => ?_)
       generalize wr.drew = w20 at HB hx256_0 hx256_1 hHeld ⊢
       refine pa_ (i := 0) (N := some 15) (tf_ 1 35) ?_
       refine pa_ (i := 1) (N := some 16) (tf_ 2 34) ?_
       refine pa_ (i := 2) (N := some 17) (tf_ 3 33) ?_
       refine pa_ (i := 3) (N := some 18) (tf_ 4 32) ?_
       refine take_ (i := 4) (N := some 19) (v := ?_) (a' := ?_) (tf_ 5 31) rfl rfl (take_ofW HT_.out HW_.out (by kernel_rfl)) (fun _ _ _ h => h) (Or.inl ⟨by rfl, ?_⟩) hHeld ?_ ?_
       rotate_left
       ·rintro w' ⟨s0, s1⟩
        go_simp
        with_reducible rfl
       rotate_left
       ·simp only [Act.put, List.setIfInBounds_toArray, List.set_cons_zero, List.set_cons_succ, i64_w, i32_w]
        rfl
       refine one_ (i := 5) (N := some 20) (tf_ 6 30) rfl rfl (one_of HT_.out (by kernel_rfl)) (by decide) (fun K hK => ?_)
       refine goes_ Try.func40 (by kernel_rfl) rfl #[.string ((rd_T35 l0 x5_1).f0)] (by rfl) rfl rfl sl_ ?_
       with_reducible refine (spec_WordValid.calls k1 ((rd_T35 l0 x5_1).f0) false _ A7.out).mono ?_
       rintro e w' ⟨rfl, ⟨nd, rfl⟩⟩
       refine ⟨_, rfl, ?_⟩
       refine hK.out _ _ ⟨((HB.out.cell (World.block_lt_of_cell? w _ hw256_0)).trans hw256_0), ((HB.out.cell (World.block_lt_of_cell? w _ hw256_1)).trans hw256_1)⟩ (fun hHeld => ?_)
       clear hK K
       refine norm_ (a' := ?_) ?_ ?_
       rotate_left
       ·show Act.put _ (some 20) _ = _
        simp only [Act.put, List.setIfInBounds_toArray, List.set_cons_zero, List.set_cons_succ, i64_w, i32_w]
        rfl
       refine pa_ (i := 6) (N := some 21) (tf_ 7 29) ?_
       refine pa_ (i := 7) (N := some 22) (tf_ 8 28) ?_
       refine pn_ (i := 8) (N := some 23) (tf_ 9 27) ?_
       refine pn_ (i := 9) (N := some 24) (tf_ 10 26) ?_
       refine pn_ (i := 10) (N := some 25) (tf_ 11 25) ?_
       refine pn_ (i := 11) (N := some 26) (tf_ 12 24) ?_
       refine pn_ (i := 12) (N := some 27) (tf_ 13 23) ?_
       refine pn_ (i := 13) (N := some 28) (tf_ 14 22) ?_
       refine pn_ (i := 14) (N := some 29) (tf_ 15 21) ?_
       refine pn_ (i := 15) (N := some 30) (tf_ 16 20) ?_
       refine pn_ (i := 16) (N := some 31) (tf_ 17 19) ?_
       refine pa_ (i := 17) (N := some 32) (tf_ 18 18) ?_
       refine pa_ (i := 18) (N := some 33) (tf_ 19 17) ?_
       refine pn_ (i := 19) (N := some 34) (tf_ 20 16) ?_
       refine pn_ (i := 20) (N := some 35) (tf_ 21 15) ?_
       refine pn_ (i := 21) (N := some 36) (tf_ 22 14) ?_
       refine pn_ (i := 22) (N := some 37) (tf_ 23 13) ?_
       refine pn_ (i := 23) (N := some 38) (tf_ 24 12) ?_
       refine pn_ (i := 24) (N := some 39) (tf_ 25 11) ?_
       refine pn_ (i := 25) (N := some 40) (tf_ 26 10) ?_
       refine pn_ (i := 26) (N := some 41) (tf_ 27 9) ?_
       refine pn_ (i := 27) (N := some 42) (tf_ 28 8) ?_
       refine pn_ (i := 28) (N := some 43) (tf_ 29 7) ?_
       refine pn_ (i := 29) (N := some 44) (tf_ 30 6) ?_
       refine pn_ (i := 30) (N := some 45) (tf_ 31 5) ?_
       refine pn_ (i := 31) (N := some 46) (tf_ 32 4) ?_
       refine pn_ (i := 32) (N := some 47) (tf_ 33 3) ?_
       refine pn_ (i := 33) (N := some 48) (tf_ 34 2) ?_
       refine pn_ (i := 34) (N := some 49) (tf_ 35 1) ?_
       refine pa_ (i := 35) (N := some 50) (tf_ 36 0) ?_
       refine done_ (done_of HT_.out (by kernel_rfl)) ?_
       try go_wp2
       go_ret
       exact ⟨er_, hb_⟩
     ·rw [if_neg c6] at H
      exact absurd H (by simp)
    ·rw [if_neg c5] at H
     have c5b0 : decide (x5_1 < (l0.length : Int)) = false := decide_eq_false c5
     clear c5
     obtain rfl := Option.some.inj H
     go_wp2
     go_ret
     exact ⟨er_, hb_⟩
 ·replace c4 := Bool.eq_false_iff.mpr c4
  subst c4
  have H1 : (some false) = some r := by rw [if_neg (show ¬ (false = true) by decide)] at H; exact H
  clear H
  have H := H1
  clear H1
  obtain rfl := Option.some.inj H
  go_enter Try.func15, Try.ntmps15
  go_wp2_with (first | ((with_reducible refine gate_callee (f := 39) rfl ?_); refine goesL_ (some 7) rfl rfl Try.func39 (by kernel_rfl) rfl #[.int .i64 a1, .int .i64 0, .int .i64 12] rfl sl_ ?_; (with_reducible refine (spec_l1In.calls a1 0 12 false _ A3.out).mono ?_); rintro e w' ⟨rfl, ⟨nd, rfl⟩⟩; refine ⟨_, rfl, ?_⟩))
  go_ret
  exact ⟨er_, hb_⟩
end Go.Proofs.Ytglfoihpgpdooab.P
