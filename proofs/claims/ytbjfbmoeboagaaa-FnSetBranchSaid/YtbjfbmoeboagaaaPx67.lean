-- The functions of the seat as plain Lean functions, made by the kit's print.py for all laws at once. Not trusted: Lean checks it.
import Derived.Test.YtbjfbmoeboagaaaPx0
import Derived.Test.YtbjfbmoeboagaaaPx3
import Derived.Test.YtbjfbmoeboagaaaPx8
namespace Go.Proofs.Ytbjfbmoeboagaaa.P
open Go.RowKit Go.Proofs.YtbjfbmoeboagaaaW.PrintWords Go.Proofs.YtbjfbmoeboagaaaW.PrintLast Go.Proofs.YtbjfbmoeboagaaaW.PrintMore
attribute [local go_sem] max2_int min2_int max_two min_two max_three min_three max_four min_four   -- for this text's walks alone
set_option linter.unusedVariables false
set_option linter.unusedSimpArgs false

/-! ### spec_l20Many: function 75 -/
def spec_l20Many.f (k : Nat) (s0_0 : List Int) (s0_1 : Int) : Option (Int × Int) := (spec_l20Rd_pick.f k s0_0 s0_1 8).bind fun bt553 => ((some (([wrap64 (1 + bt553.1), 12, 0, (-1), 13] : List Int) : List Int)).bind fun y555 => ((some (([0, 0, 0, 0, 0, 1, 2, 3, 4] : List Int) : List Int)).bind fun y558 => ((spec_l20Rd_pick.f k s0_0 bt553.2 9).bind fun bt561 => (if 0 ≤ bt561.1 then (if bt561.1 < (y558.length : Int) then (if 0 ≤ (rd y558 bt561.1) then (if (rd y558 bt561.1) < (y555.length : Int) then (some (rd y555 (rd y558 bt561.1), bt561.2)) else (none)) else (none)) else (none)) else (none)))))
theorem spec_l20Many.mono : ∀ a0 a1 k, LeO (spec_l20Many.f k a0 a1) (spec_l20Many.f (k + 1) a0 a1) := by
  intro a0 a1 k
  unfold spec_l20Many.f
  repeat' first
      | (with_reducible exact spec_l20Rd_pick.mono _ _ _ _)
      | (with_reducible exact LeO.refl _)
      | (with_reducible exact LeO.none _)
      | (with_reducible refine LeO.ite ?_ ?_)
      | (with_reducible refine LeO.bind ?_ (fun _ => ?_))
      | exact spec_l20Rd_pick.mono _ _ _ _
      | exact LeO.none _
      | refine LeO.ite ?_ ?_
      | refine LeO.bind ?_ (fun _ => ?_)
set_option maxHeartbeats 8000000 in
set_option maxRecDepth 100000 in
theorem spec_l20Many.calls (k : Nat) (g : Nat) (s0_0 : List Int) (s0_1 : Int) (r1 : Int) (r2 : Int) (w0 w : World) (hI : IsS98 w0 w g s0_0 s0_1) (hB : Below w0.heap.size w0 w) (h : spec_l20Many.f k s0_0 s0_1 = some (r1, r2)) :
    Calls Try.prog 75 #[.pointer (some ⟨g, 0, none⟩)] w fun e w' => e = .returned (.int .i64 r1) ∧ IsS98 w0 w' g s0_0 r2 ∧ Below w0.heap.size w0 w' ∧ KeepBut w w' g none := by
  have HI0 := Aside0.mk hI
  have HK := Aside0.mk (KeepBut.refl w g none)
  have HL := Aside0.mk hB.size
  clear hI
  have HW0 := Aside0.mk hB.size
  have HB := Aside0.mk hB
  clear hB
  have H : ((spec_l20Rd_pick.f k s0_0 s0_1 8).bind fun bt553 => ((some (([wrap64 (1 + bt553.1), 12, 0, (-1), 13] : List Int) : List Int)).bind fun y555 => ((some (([0, 0, 0, 0, 0, 1, 2, 3, 4] : List Int) : List Int)).bind fun y558 => ((spec_l20Rd_pick.f k s0_0 bt553.2 9).bind fun bt561 => (if 0 ≤ bt561.1 then (if bt561.1 < (y558.length : Int) then (if 0 ≤ (rd y558 bt561.1) then (if (rd y558 bt561.1) < (y555.length : Int) then (some (rd y555 (rd y558 bt561.1), bt561.2)) else (none)) else (none)) else (none)) else (none)))))) = some (r1, r2) := h
  clear h
  replace H := Option.bind_eq_some_iff.mp H
  obtain ⟨⟨t553, t554⟩, A20, H⟩ := H
  replace H : ((some (([wrap64 (1 + t553), 12, 0, (-1), 13] : List Int) : List Int)).bind fun y555 => ((some (([0, 0, 0, 0, 0, 1, 2, 3, 4] : List Int) : List Int)).bind fun y558 => ((spec_l20Rd_pick.f k s0_0 t554 9).bind fun bt561 => (if 0 ≤ bt561.1 then (if bt561.1 < (y558.length : Int) then (if 0 ≤ (rd y558 bt561.1) then (if (rd y558 bt561.1) < (y555.length : Int) then (some (rd y555 (rd y558 bt561.1), bt561.2)) else (none)) else (none)) else (none)) else (none))))) = some (r1, r2) := H
  have A2 := Aside0.mk A20
  clear A20
  obtain ⟨y555, hy555⟩ : ∃ y_ : List Int, y_ = (([wrap64 (1 + t553), 12, 0, (-1), 13] : List Int)) := ⟨_, rfl⟩
  replace H : ((some (([0, 0, 0, 0, 0, 1, 2, 3, 4] : List Int) : List Int)).bind fun y558 => ((spec_l20Rd_pick.f k s0_0 t554 9).bind fun bt561 => (if 0 ≤ bt561.1 then (if bt561.1 < (y558.length : Int) then (if 0 ≤ (rd y558 bt561.1) then (if (rd y558 bt561.1) < (y555.length : Int) then (some (rd y555 (rd y558 bt561.1), bt561.2)) else (none)) else (none)) else (none)) else (none)))) = some (r1, r2) := by first | (rw [hy555]; with_reducible exact H) | (have H2_ := (Option.bind_some _ _).symm.trans H; rw [hy555]; with_reducible exact H2_) | (have H2_ := (Option.bind_some _ _).symm.trans H; with_reducible exact H2_) | with_reducible exact H | (rw [hy555]; exact H) | exact H
  have Ny555 := Aside0.mk hy555
  clear hy555
  obtain ⟨y558, hy558⟩ : ∃ y_ : List Int, y_ = (([0, 0, 0, 0, 0, 1, 2, 3, 4] : List Int)) := ⟨_, rfl⟩
  replace H : ((spec_l20Rd_pick.f k s0_0 t554 9).bind fun bt561 => (if 0 ≤ bt561.1 then (if bt561.1 < (y558.length : Int) then (if 0 ≤ (rd y558 bt561.1) then (if (rd y558 bt561.1) < (y555.length : Int) then (some (rd y555 (rd y558 bt561.1), bt561.2)) else (none)) else (none)) else (none)) else (none))) = some (r1, r2) := by first | (rw [hy558]; with_reducible exact H) | (have H2_ := (Option.bind_some _ _).symm.trans H; rw [hy558]; with_reducible exact H2_) | (have H2_ := (Option.bind_some _ _).symm.trans H; with_reducible exact H2_) | with_reducible exact H | (rw [hy558]; exact H) | exact H
  have Ny558 := Aside0.mk hy558
  clear hy558
  replace H := Option.bind_eq_some_iff.mp H
  obtain ⟨⟨t561, t562⟩, A30, H⟩ := H
  replace H : (if 0 ≤ t561 then (if t561 < (y558.length : Int) then (if 0 ≤ (rd y558 t561) then (if (rd y558 t561) < (y555.length : Int) then (some (rd y555 (rd y558 t561), t562)) else (none)) else (none)) else (none)) else (none)) = some (r1, r2) := H
  have A3 := Aside0.mk A30
  clear A30
  by_cases c4 : 0 ≤ t561
  · rw [if_pos c4] at H
    have c4b0 : decide (0 ≤ t561) = true := decide_eq_true c4
    clear c4
    by_cases c5 : t561 < (y558.length : Int)
    · rw [if_pos c5] at H
      have c5b0 : decide (t561 < (y558.length : Int)) = true := decide_eq_true c5
      clear c5
      by_cases c6 : 0 ≤ (rd y558 t561)
      · rw [if_pos c6] at H
        have c6b0 : decide (0 ≤ (rd y558 t561)) = true := decide_eq_true c6
        clear c6
        by_cases c7 : (rd y558 t561) < (y555.length : Int)
        · rw [if_pos c7] at H
          have c7b0 : decide ((rd y558 t561) < (y555.length : Int)) = true := decide_eq_true c7
          clear c7
          simp only [Option.some.injEq, Prod.mk.injEq] at H
          obtain ⟨rfl, rfl⟩ := H
          go_enter Try.func75, Try.ntmps75
          go_wp2_with (first | ((with_reducible refine gate_callee (f := 61) rfl ?_); refine goesL_ (some 4) rfl rfl Try.func61 (by kernel_rfl) rfl #[.pointer (some ⟨g, 0, none⟩), .int .i64 8] rfl (by (try simp only [List.map_toArray, List.map_cons, List.map_nil]); first | done | rfl | (simp only [List.length_drop, List.length_take]; rfl)) ?_; (with_reducible refine (spec_l20Rd_pick.calls k g s0_0 s0_1 8 t553 t554 w0 _ ?side1 ?side2 A2.out).mono ?_); (case side1 => repeat (first | (with_reducible first | exact HI0.out | apply IsS98.alloc | apply IsS98.drewN | apply IsS98.drew | apply IsS98.set_1) | exact HI0.out)); (case side2 => repeat (first | (with_reducible first | exact HB.out | apply below_alloc | apply pw_below_drewN | apply below_drew1 | refine below_set ?_ (IsS98.ge HI0.out)) | exact HB.out)); rintro e w8 ⟨rfl, hi, hb, hk⟩; refine ⟨_, rfl, ?_⟩; have n0_ := Aside0.mk (KeepBut.trans (by repeat (first | (with_reducible first | exact HK.out | apply KeepBut.set_ | apply keep_drewN | apply keep_drew | apply keep_alloc) | exact HK.out)) hk (.inl rfl)); have n1_ := Aside0.mk (hb); have n2_ := Aside0.mk (hi); clear HK; clear HB; clear HI0; have HK := n0_; have HB := n1_; have HI0 := n2_; clear n0_ n1_ n2_; (try clear hb); (try clear hb2); (try clear hk); (try clear hi)) | ((with_reducible refine gate_dst (N := 6) rfl ?_); refine Kd.R_lit (Kd.int .i64) _ 3 ?hg (N := 6) ?hd (xs := ([wrap64 (1 + t553), 12, 0, (-1), 13] : List Int)) (inner := [.int .i64 (wrap64 (1 + t553)), .int .i64 12, .int .i64 0, .int .i64 (-1), .int .i64 13]) (ok := fun _ => True) (okp := fun _ => True) ?hr ?hp (fun _ hk => hk) trivial (Below.refl _ _) (Nat.le_refl _) (by simp) ?_; (case hd => rfl); (case hg => rfl); (case hr => first | (go_simp; done) | (go_simp; rfl)); (case hp => exact (Reps.one (show Kd.M (Kd.int .i64) _ _ _ (wrap64 (1 + t553)) [.int .i64 (wrap64 (1 + t553))] from rfl) (Reps.one (show Kd.M (Kd.int .i64) _ _ _ 12 [.int .i64 12] from rfl) (Reps.one (show Kd.M (Kd.int .i64) _ _ _ 0 [.int .i64 0] from rfl) (Reps.one (show Kd.M (Kd.int .i64) _ _ _ (-1) [.int .i64 (-1)] from rfl) (Reps.one (show Kd.M (Kd.int .i64) _ _ _ 13 [.int .i64 13] from rfl) (Reps.none _ _))))))); intro v556 w9 ho10 hb hg_ hnew_; clear hg_ hnew_; (first | rw [← Ny555.out] at ho10 | (simp only [Int.reduceToNat] at ho10; rw [← Ny555.out] at ho10)); have n0_ := Aside0.mk (Kd.R_lower ho10 (keep_size (w := w) (g := g) (row := none) (by repeat (first | (with_reducible first | exact HK.out | apply KeepBut.set_ | apply keep_drewN | apply keep_drew | apply keep_alloc) | exact HK.out)))); have n1_ := Aside0.mk (IsS98.below (by repeat (first | (with_reducible first | exact HI0.out | apply IsS98.alloc | apply IsS98.drewN | apply IsS98.drew | apply IsS98.set_1) | exact HI0.out)) hb); have n2_ := Aside0.mk (KeepBut.trans (by repeat (first | (with_reducible first | exact HK.out | apply KeepBut.set_ | apply keep_drewN | apply keep_drew | apply keep_alloc) | exact HK.out)) (KeepBut.of_below hb g none) (.inl rfl)); have n3_ := Aside0.mk (below_step (by repeat (first | (with_reducible first | exact HB.out | apply below_alloc | apply pw_below_drewN | apply below_drew1 | refine below_set ?_ (IsS98.ge HI0.out)) | exact HB.out)) hb); clear HI0; clear HK; clear HB; have HO557 := n0_; have HI0 := n1_; have HK := n2_; have HB := n3_; clear n0_ n1_ n2_ n3_; clear hb ho10) | ((with_reducible refine gate_dst (N := 7) rfl ?_); refine Kd.R_lit (Kd.int .i64) _ 3 ?hg (N := 7) ?hd (xs := ([0, 0, 0, 0, 0, 1, 2, 3, 4] : List Int)) (inner := [.int .i64 0, .int .i64 0, .int .i64 0, .int .i64 0, .int .i64 0, .int .i64 1, .int .i64 2, .int .i64 3, .int .i64 4]) (ok := fun _ => True) (okp := fun _ => True) ?hr ?hp (fun _ hk => hk) trivial (Below.refl _ _) (Nat.le_refl _) (by simp) ?_; (case hd => rfl); (case hg => rfl); (case hr => first | (go_simp; done) | (go_simp; rfl)); (case hp => exact (Reps.one (show Kd.M (Kd.int .i64) _ _ _ 0 [.int .i64 0] from rfl) (Reps.one (show Kd.M (Kd.int .i64) _ _ _ 0 [.int .i64 0] from rfl) (Reps.one (show Kd.M (Kd.int .i64) _ _ _ 0 [.int .i64 0] from rfl) (Reps.one (show Kd.M (Kd.int .i64) _ _ _ 0 [.int .i64 0] from rfl) (Reps.one (show Kd.M (Kd.int .i64) _ _ _ 0 [.int .i64 0] from rfl) (Reps.one (show Kd.M (Kd.int .i64) _ _ _ 1 [.int .i64 1] from rfl) (Reps.one (show Kd.M (Kd.int .i64) _ _ _ 2 [.int .i64 2] from rfl) (Reps.one (show Kd.M (Kd.int .i64) _ _ _ 3 [.int .i64 3] from rfl) (Reps.one (show Kd.M (Kd.int .i64) _ _ _ 4 [.int .i64 4] from rfl) (Reps.none _ _))))))))))); intro v559 w11 ho12 hb hg_ hnew_; clear hg_ hnew_; (first | rw [← Ny558.out] at ho12 | (simp only [Int.reduceToNat] at ho12; rw [← Ny558.out] at ho12)); have n0_ := Aside0.mk (Kd.R_elder' (by (with_reducible repeat (first | apply Kd.R_alloc | apply Kd.R_drewN | apply Kd.R_drew)); exact HO557.out) (Kd.R_base ho12) hb); have n1_ := Aside0.mk (Kd.R_lower (Kd.R_new' ho12 (Kd.R_lt (by (with_reducible repeat (first | apply Kd.R_alloc | apply Kd.R_drewN | apply Kd.R_drew)); exact HO557.out))) (keep_size (w := w) (g := g) (row := none) (by repeat (first | (with_reducible first | exact HK.out | apply KeepBut.set_ | apply keep_drewN | apply keep_drew | apply keep_alloc) | exact HK.out)))); have n2_ := Aside0.mk (IsS98.below (by repeat (first | (with_reducible first | exact HI0.out | apply IsS98.alloc | apply IsS98.drewN | apply IsS98.drew | apply IsS98.set_1) | exact HI0.out)) hb); have n3_ := Aside0.mk (KeepBut.trans (by repeat (first | (with_reducible first | exact HK.out | apply KeepBut.set_ | apply keep_drewN | apply keep_drew | apply keep_alloc) | exact HK.out)) (KeepBut.of_below hb g none) (.inl rfl)); have n4_ := Aside0.mk (below_step (by repeat (first | (with_reducible first | exact HB.out | apply below_alloc | apply pw_below_drewN | apply below_drew1 | refine below_set ?_ (IsS98.ge HI0.out)) | exact HB.out)) hb); clear HO557; clear HI0; clear HK; clear HB; have HO557 := n0_; have HO560 := n1_; have HI0 := n2_; have HK := n3_; have HB := n4_; clear n0_ n1_ n2_ n3_ n4_; clear hb ho12) | ((with_reducible refine gate_callee (f := 61) rfl ?_); refine goesL_ (some 9) rfl rfl Try.func61 (by kernel_rfl) rfl #[.pointer (some ⟨g, 0, none⟩), .int .i64 9] rfl (by (try simp only [List.map_toArray, List.map_cons, List.map_nil]); first | done | rfl | (simp only [List.length_drop, List.length_take]; rfl)) ?_; (with_reducible refine (spec_l20Rd_pick.calls k g s0_0 t554 9 t561 t562 w0 _ ?side1 ?side2 A3.out).mono ?_); (case side1 => repeat (first | (with_reducible first | exact HI0.out | apply IsS98.alloc | apply IsS98.drewN | apply IsS98.drew | apply IsS98.set_1) | exact HI0.out)); (case side2 => repeat (first | (with_reducible first | exact HB.out | apply below_alloc | apply pw_below_drewN | apply below_drew1 | refine below_set ?_ (IsS98.ge HI0.out)) | exact HB.out)); rintro e w13 ⟨rfl, hi, hb, hk⟩; refine ⟨_, rfl, ?_⟩; have n0_ := Aside0.mk (Kd.R_mono (Kd.R_keep (IsS98.apart (show IsS98 w0 _ g s0_0 t554 from by repeat (first | (with_reducible first | exact HI0.out | apply IsS98.alloc | apply IsS98.drewN | apply IsS98.drew | apply IsS98.set_1) | exact HI0.out)) (by (with_reducible repeat (first | apply Kd.R_alloc | apply Kd.R_drewN | apply Kd.R_drew)); exact HO557.out) (by decide)) hk (fun _ h => h.2)) (fun _ h => h.1)); have n1_ := Aside0.mk (Kd.R_mono (Kd.R_keep (IsS98.apart (show IsS98 w0 _ g s0_0 t554 from by repeat (first | (with_reducible first | exact HI0.out | apply IsS98.alloc | apply IsS98.drewN | apply IsS98.drew | apply IsS98.set_1) | exact HI0.out)) (by (with_reducible repeat (first | apply Kd.R_alloc | apply Kd.R_drewN | apply Kd.R_drew)); exact HO560.out) (by decide)) hk (fun _ h => h.2)) (fun _ h => h.1)); have n2_ := Aside0.mk (KeepBut.trans (by repeat (first | (with_reducible first | exact HK.out | apply KeepBut.set_ | apply keep_drewN | apply keep_drew | apply keep_alloc) | exact HK.out)) hk (.inl rfl)); have n3_ := Aside0.mk (hb); have n4_ := Aside0.mk (hi); clear HO557; clear HO560; clear HK; clear HB; clear HI0; have HO557 := n0_; have HO560 := n1_; have HK := n2_; have HB := n3_; have HI0 := n4_; clear n0_ n1_ n2_ n3_ n4_; (try clear hb); (try clear hb2); (try clear hk); (try clear hi); obtain ⟨Ao14, co14, eo14⟩ := Kd.R_slice HO560.out; subst eo14; have p563 : 0 ≤ (t561 : Int) := of_decide_eq_true (by first | (with_reducible assumption) | assumption); have q563 : t561 < (y558.length : Int) := of_decide_eq_true (by first | (with_reducible assumption) | assumption); obtain ⟨ad563, e563, hx563_0⟩ := Kd.at_int (Kd.R_reads' HO560.out).2.2 t561 p563 q563; cases e563; replace p563 := eq_true p563; replace q563 := eq_true q563; obtain ⟨Ao15, co15, eo15⟩ := Kd.R_slice HO557.out; subst eo15; have p564 : 0 ≤ ((rd y558 t561) : Int) := of_decide_eq_true (by first | (with_reducible assumption) | assumption); have q564 : (rd y558 t561) < (y555.length : Int) := of_decide_eq_true (by first | (with_reducible assumption) | assumption); obtain ⟨ad564, e564, hx564_0⟩ := Kd.at_int (Kd.R_reads' HO557.out).2.2 (rd y558 t561) p564 q564; cases e564; replace p564 := eq_true p564; replace q564 := eq_true q564))
          go_ret
          exact ⟨by first | rfl | (simp [errW_none, errW_some] <;> rfl) | (simp [*, errW_none, errW_some] <;> rfl), by repeat (first | (with_reducible first | exact HI0.out | apply IsS98.alloc | apply IsS98.drewN | apply IsS98.drew | apply IsS98.set_1) | exact HI0.out), by repeat (first | (with_reducible first | exact HB.out | apply below_alloc | apply pw_below_drewN | apply below_drew1 | refine below_set ?_ (IsS98.ge HI0.out)) | exact HB.out), by repeat (first | (with_reducible first | exact HK.out | apply KeepBut.set_ | apply keep_drewN | apply keep_drew | apply keep_alloc) | exact HK.out)⟩
        · rw [if_neg c7] at H
          exact absurd H (by simp)
      · rw [if_neg c6] at H
        exact absurd H (by simp)
    · rw [if_neg c5] at H
      exact absurd H (by simp)
  · rw [if_neg c4] at H
    exact absurd H (by simp)

end Go.Proofs.Ytbjfbmoeboagaaa.P
