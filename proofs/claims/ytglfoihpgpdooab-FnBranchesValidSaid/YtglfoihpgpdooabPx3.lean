-- The functions of the seat as plain Lean functions, made by the kit's print.py for all laws at once. Not trusted: Lean checks it.
import Derived.Test.YtglfoihpgpdooabPx0
import Derived.Test.YtglfoihpgpdooabPx1
import Derived.Test.YtglfoihpgpdooabPx2
namespace Go.Proofs.Ytglfoihpgpdooab.P
open Go.RowKit Go.Proofs.YtglfoihpgpdooabW.PrintWords Go.Proofs.YtglfoihpgpdooabW.PrintLast Go.Proofs.YtglfoihpgpdooabW.PrintMore
attribute [local go_sem] max2_int min2_int max_two min_two max_three min_three max_four min_four   -- for this text's walks alone
set_option linter.unusedVariables false
set_option linter.unusedSimpArgs false
/-! ### spec_l20Branches: function 42 -/
mutual
def spec_l20Branches.l0 : Nat → Int → Int → List (S35) → Int → List Int → Int → Option ((List (S35)) × Int)
 | 0, _, _, _, _, _, _ => none
 | k + 1, x1, x2, x7, x8, x1000, x1001 => if x8 > 0 then (spec_l20Branches.j1 k x1 x2 x7 x8 (decide (x1 > 0)) x1000 x1001) else (spec_l20Branches.j1 k x1 x2 x7 x8 false x1000 x1001)
def spec_l20Branches.j1 : Nat → Int → Int → List (S35) → Int → Bool → List Int → Int → Option ((List (S35)) × Int)
 | 0, _, _, _, _, _, _, _ => none
 | k + 1, x1, x2, x7, x8, x19, x1000, x1001 => if x19 = true then ((spec_l20Word.f k x1000 x1001 0).bind fun bt311 => ((spec_l20Rd_pick.f k x1000 bt311.2 x1).bind fun bt313 => ((spec_SetBranch.f k x7 x1 bt311.1 bt313.1).bind fun bt315 => (spec_l20Branches.l0 k x1 x2 bt315.1 (wrap64 (x8 - 1)) x1000 bt313.2)))) else ((spec_l20Rd_odd.f k x1000 x1001 x2).bind fun bt319 => (if bt319.1 = true then ((some (([(⟨(⟨#[]⟩ : ByteArray), 0⟩ : S35), (⟨(⟨#[122]⟩ : ByteArray), x1⟩ : S35), (⟨(⟨#[122]⟩ : ByteArray), (-1)⟩ : S35), (⟨(⟨#[65]⟩ : ByteArray), 0⟩ : S35)] : List (S35)) : List (S35))).bind fun y321 => ((spec_l20Rd_pick.f k x1000 bt319.2 4).bind fun bt324 => (if 0 ≤ bt324.1 then (if bt324.1 < (y321.length : Int) then (if x7.length < 5864062014805 then (some ((x7 ++ [(⟨(rd_T35 y321 bt324.1).f0, (rd_T35 y321 bt324.1).f1⟩ : S35)]), bt324.2)) else (none)) else (none)) else (none)))) else (some (x7, bt319.2))))
end
def spec_l20Branches.f (k : Nat) (s0_0 : List Int) (s0_1 : Int) (a1 : Int) (a2 : Int) : Option ((List (S35)) × Int) := (spec_l20Rd_pick.f k s0_0 s0_1 6).bind fun bt309 => (spec_l20Branches.l0 k a1 a2 (([] : List (S35))) bt309.1 s0_0 bt309.2)
theorem spec_l20Branches.mono_l : ∀ k, (∀ y0 y1 y2 y3 y4 y5, LeO (spec_l20Branches.l0 k y0 y1 y2 y3 y4 y5) (spec_l20Branches.l0 (k + 1) y0 y1 y2 y3 y4 y5)) ∧ (∀ y0 y1 y2 y3 y4 y5 y6, LeO (spec_l20Branches.j1 k y0 y1 y2 y3 y4 y5 y6) (spec_l20Branches.j1 (k + 1) y0 y1 y2 y3 y4 y5 y6))
 | 0 => ⟨fun _ _ _ _ _ _ r h => by simp [spec_l20Branches.l0] at h, fun _ _ _ _ _ _ _ r h => by simp [spec_l20Branches.j1] at h⟩
 | k + 1 => by
  obtain ⟨ih0, ih1⟩ := spec_l20Branches.mono_l k
  refine ⟨?_, ?_⟩
  ·intro y0 y1 y2 y3 y4 y5
   unfold spec_l20Branches.l0
   repeat' first
   | (with_reducible exact ih0 _ _ _ _ _ _)
   | (with_reducible exact ih1 _ _ _ _ _ _ _)
   | (with_reducible exact spec_SetBranch.mono _ _ _ _ _)
   | (with_reducible exact spec_l20Rd_odd.mono _ _ _ _)
   | (with_reducible exact spec_l20Rd_pick.mono _ _ _ _)
   | (with_reducible exact spec_l20Word.mono _ _ _ _)
   | (with_reducible exact LeO.refl _)
   | (with_reducible exact LeO.none _)
   | (with_reducible refine LeO.ite ?_ ?_)
   | (with_reducible refine LeO.bind ?_ (fun _ => ?_))
   | exact ih0 _ _ _ _ _ _
   | exact ih1 _ _ _ _ _ _ _
   | exact spec_SetBranch.mono _ _ _ _ _
   | exact spec_l20Rd_odd.mono _ _ _ _
   | exact spec_l20Rd_pick.mono _ _ _ _
   | exact spec_l20Word.mono _ _ _ _
   | exact LeO.none _
   | refine LeO.ite ?_ ?_
   | refine LeO.bind ?_ (fun _ => ?_)
  ·intro y0 y1 y2 y3 y4 y5 y6
   unfold spec_l20Branches.j1
   repeat' first
   | (with_reducible exact ih0 _ _ _ _ _ _)
   | (with_reducible exact ih1 _ _ _ _ _ _ _)
   | (with_reducible exact spec_SetBranch.mono _ _ _ _ _)
   | (with_reducible exact spec_l20Rd_odd.mono _ _ _ _)
   | (with_reducible exact spec_l20Rd_pick.mono _ _ _ _)
   | (with_reducible exact spec_l20Word.mono _ _ _ _)
   | (with_reducible exact LeO.refl _)
   | (with_reducible exact LeO.none _)
   | (with_reducible refine LeO.ite ?_ ?_)
   | (with_reducible refine LeO.bind ?_ (fun _ => ?_))
   | exact ih0 _ _ _ _ _ _
   | exact ih1 _ _ _ _ _ _ _
   | exact spec_SetBranch.mono _ _ _ _ _
   | exact spec_l20Rd_odd.mono _ _ _ _
   | exact spec_l20Rd_pick.mono _ _ _ _
   | exact spec_l20Word.mono _ _ _ _
   | exact LeO.none _
   | refine LeO.ite ?_ ?_
   | refine LeO.bind ?_ (fun _ => ?_)
theorem spec_l20Branches.mono : ∀ a0 a1 a2 a3 k, LeO (spec_l20Branches.f k a0 a1 a2 a3) (spec_l20Branches.f (k + 1) a0 a1 a2 a3) := by
 intro a0 a1 a2 a3 k
 obtain ⟨ih0, ih1⟩ := spec_l20Branches.mono_l k
 unfold spec_l20Branches.f
 repeat' first
   | (with_reducible exact ih0 _ _ _ _ _ _)
   | (with_reducible exact ih1 _ _ _ _ _ _ _)
   | (with_reducible exact spec_SetBranch.mono _ _ _ _ _)
   | (with_reducible exact spec_l20Rd_odd.mono _ _ _ _)
   | (with_reducible exact spec_l20Rd_pick.mono _ _ _ _)
   | (with_reducible exact spec_l20Word.mono _ _ _ _)
   | (with_reducible exact LeO.refl _)
   | (with_reducible exact LeO.none _)
   | (with_reducible refine LeO.ite ?_ ?_)
   | (with_reducible refine LeO.bind ?_ (fun _ => ?_))
   | exact ih0 _ _ _ _ _ _
   | exact ih1 _ _ _ _ _ _ _
   | exact spec_SetBranch.mono _ _ _ _ _
   | exact spec_l20Rd_odd.mono _ _ _ _
   | exact spec_l20Rd_pick.mono _ _ _ _
   | exact spec_l20Word.mono _ _ _ _
   | exact LeO.none _
   | refine LeO.ite ?_ ?_
   | refine LeO.bind ?_ (fun _ => ?_)
set_option maxHeartbeats 8000000 in
set_option maxRecDepth 100000 in
theorem spec_l20Branches.calls (k : Nat) (g : Nat) (s0_0 : List Int) (s0_1 : Int) (a1 : Int) (a2 : Int) (r1 : List (S35)) (r2 : Int) (w0 w : World) (hI : IsS85 w0 w g s0_0 s0_1) (hB : Below w0.heap.size w0 w) (h : spec_l20Branches.f k s0_0 s0_1 a1 a2 = some (r1, r2)) :
  Calls Try.prog 42 #[.pointer (some ⟨g, 0, none⟩), .int .i64 a1, .int .i64 a2] w fun e w' => ∃ v0_ : Value, e = .returned (v0_) ∧ Kd.R k35 35 w' w.heap.size (fun _ => True) v0_ r1 ∧ IsS85 w0 w' g s0_0 r2 ∧ Below w0.heap.size w0 w' ∧ KeepBut w w' g none := by
 have hu35 := Try.underlying35
 have HI0 := Aside0.mk hI
 have HK := Aside0.mk (KeepBut.refl w g none)
 have HL := Aside0.mk hB.size
 clear hI
 have HW0 := Aside0.mk hB.size
 have HB := Aside0.mk hB
 clear hB
 have H : ((spec_l20Rd_pick.f k s0_0 s0_1 6).bind fun bt309 => (spec_l20Branches.l0 k a1 a2 (([] : List (S35))) bt309.1 s0_0 bt309.2)) = some (r1, r2) := h
 clear h
 obtain ⟨y306, hy306⟩ : ∃ y_ : List (S35), y_ = (([] : List (S35))) := ⟨_, rfl⟩
 replace H : ((spec_l20Rd_pick.f k s0_0 s0_1 6).bind fun bt309 => (spec_l20Branches.l0 k a1 a2 y306 bt309.1 s0_0 bt309.2)) = some (r1, r2) := by first | (rw [hy306]; with_reducible exact H) | (have H2_ := (Option.bind_some _ _).symm.trans H; rw [hy306]; with_reducible exact H2_) | (have H2_ := (Option.bind_some _ _).symm.trans H; with_reducible exact H2_) | with_reducible exact H | (rw [hy306]; exact H) | exact H
 have Ny306 := Aside0.mk hy306
 clear hy306
 replace H := Option.bind_eq_some_iff.mp H
 obtain ⟨⟨t309, t310⟩, A40, H⟩ := H
 replace H : (spec_l20Branches.l0 k a1 a2 y306 t309 s0_0 t310) = some (r1, r2) := H
 have A4 := Aside0.mk A40
 clear A40
 have H' := Aside0.mk H
 clear H
 go_enter Try.func42, Try.ntmps42
 go_wp2_with (first | ((with_reducible refine gate_dst (N := 11) rfl ?_); refine Kd.R_lit k35 _ 35 ?hg (N := 11) ?hd (xs := ([] : List (S35))) (inner := []) (ok := fun _ => True) (okp := fun _ => True) ?hr ?hp (fun _ hk => hk) trivial (Below.refl _ _) (Nat.le_refl _) (by simp) ?_; (case hd => rfl); (case hg => rfl); (case hr => first | (go_simp; done) | (go_simp; rfl)); (case hp => exact (Reps.none _ _)); intro v307 w5 ho6 hb hg_ hnew_; clear hg_ hnew_; (first | rw [← Ny306.out] at ho6 | (simp only [Int.reduceToNat] at ho6; rw [← Ny306.out] at ho6)); have HO308 := Aside0.mk (Kd.R_lower ho6 (keep_size (w := w) (g := g) (row := none) (by repeat (first | (with_reducible first | exact HK.out | apply KeepBut.set_ | apply keep_drewN | apply keep_drew | apply keep_alloc) | exact HK.out)))); replace HK := Aside0.mk (KeepBut.trans (by repeat (first | (with_reducible first | exact HK.out | apply KeepBut.set_ | apply keep_drewN | apply keep_drew | apply keep_alloc) | exact HK.out)) (KeepBut.of_below hb g none) (.inl rfl)); replace HB := Aside0.mk (below_step (by repeat (first | (with_reducible first | exact HB.out | apply below_alloc | apply pw_below_drewN | apply below_drew1 | refine below_set ?_ (IsS85.ge HI0.out)) | exact HB.out)) hb); replace HI0 := Aside0.mk (IsS85.below (by repeat (first | (with_reducible first | exact HI0.out | apply IsS85.alloc | apply IsS85.drewN | apply IsS85.drew | apply IsS85.set_1) | exact HI0.out)) hb); clear hb ho6) | ((with_reducible refine gate_callee (f := 46) rfl ?_); refine goesL_ (some 13) rfl rfl Try.func46 (by kernel_rfl) rfl #[.pointer (some ⟨g, 0, none⟩), .int .i64 6] rfl sl_ ?_; (with_reducible refine (spec_l20Rd_pick.calls k g s0_0 s0_1 6 t309 t310 w0 _ ?side1 ?side2 A4.out).mono ?_); (case side1 => repeat (first | (with_reducible first | exact HI0.out | apply IsS85.alloc | apply IsS85.drewN | apply IsS85.drew | apply IsS85.set_1) | exact HI0.out)); (case side2 => repeat (first | (with_reducible first | exact HB.out | apply below_alloc | apply pw_below_drewN | apply below_drew1 | refine below_set ?_ (IsS85.ge HI0.out)) | exact HB.out)); rintro e w7 ⟨rfl, hi, hb, hk⟩; refine ⟨_, rfl, ?_⟩; replace HO308 := Aside0.mk (Kd.R_mono (Kd.R_keep (IsS85.apart (show IsS85 w0 _ g s0_0 s0_1 from by repeat (first | (with_reducible first | exact HI0.out | apply IsS85.alloc | apply IsS85.drewN | apply IsS85.drew | apply IsS85.set_1) | exact HI0.out)) (kR_ HO308.out) (by decide)) hk (fun _ h => h.2)) (fun _ h => h.1)); replace HK := Aside0.mk (KeepBut.trans (by repeat (first | (with_reducible first | exact HK.out | apply KeepBut.set_ | apply keep_drewN | apply keep_drew | apply keep_alloc) | exact HK.out)) hk (.inl rfl)); replace HB := Aside0.mk (hb); replace HI0 := Aside0.mk (hi); (try clear hb); (try clear hk); (try clear hi)))
 go_loopg [7, 8] k (fun kq v7 v8 w' => ∃ (x7_1 : List (S35)) (x8_1 : Int) (x1001_1 : Int), v8 = .int .i64 x8_1 ∧ Aside0 (spec_l20Branches.l0 kq a1 a2 x7_1 x8_1 s0_0 x1001_1 = some (r1, r2)) ∧ Aside0 (kq ≤ k) ∧ Aside0 (Kd.R k35 35 w' w.heap.size (fun _ => True) v7 x7_1) ∧ Aside0 (IsS85 w0 w' g s0_0 x1001_1) ∧ Aside0 (KeepBut w w' g none) ∧ Aside0 (Below w0.heap.size w0 w'))
 case atStart => exact ⟨(y306), (t309), (t310), (by first | rfl | (simp; done) | (simp [*]; done)), H', ⟨Nat.le_refl _⟩, ⟨by (with_reducible repeat (first | apply Kd.R_alloc | apply Kd.R_drewN | apply Kd.R_drew)); exact HO308.out⟩, ⟨by repeat (first | (with_reducible first | exact HI0.out | apply IsS85.alloc | apply IsS85.drewN | apply IsS85.drew | apply IsS85.set_1) | exact HI0.out)⟩, ⟨by repeat (first | (with_reducible first | exact HK.out | apply KeepBut.set_ | apply keep_drewN | apply keep_drew | apply keep_alloc) | exact HK.out)⟩, ⟨by repeat (first | (with_reducible first | exact HB.out | apply below_alloc | apply pw_below_drewN | apply below_drew1 | refine below_set ?_ (IsS85.ge HI0.out)) | exact HB.out)⟩⟩
 case round =>
  clear H'
  try clear p2
  try clear c4
  obtain ⟨x7_1, x8_1, x1001_1, rfl, HA, HK1, HO_7, HI0, HK, HB⟩ := hrel
  cases gk with
  | zero => exact absurd HA.out (by simp [spec_l20Branches.l0])
  | succ k1 =>
   have H := HA.out
   clear HA
   simp only [spec_l20Branches.l0] at H
   have HC8 := Aside0.mk H
   clear H
   go_upto_region 3 with (fail)
   go_cut [19] (fun v19 wc => ∃ (kq : Nat) (x19_7 : Bool), v19 = .bool x19_7 ∧ Aside0 (spec_l20Branches.j1 kq a1 a2 x7_1 x8_1 x19_7 s0_0 x1001_1 = some (r1, r2)) ∧ Aside0 (kq ≤ k1) ∧ Aside0 (Kd.R k35 35 wc w.heap.size (fun _ => True) u7 x7_1) ∧ Aside0 (IsS85 w0 wc g s0_0 x1001_1) ∧ Aside0 (KeepBut w wc g none) ∧ Aside0 (Below w0.heap.size w0 wc))
   case first =>
    have H := HC8.out
    clear HC8
    by_cases c9 : x8_1 > 0
    ·rw [if_pos c9] at H
     have c9b0 : decide (0 < x8_1) = true := decide_eq_true c9
     clear c9
     (first | rw [c9b0] | (simp only [i64_w, i32_w]; rw [c9b0]) | skip)
     have H' := Aside0.mk H
     clear H
     go_wp2
     go_meet
     case rel => exact ⟨_, (decide (a1 > 0)), (by first | rfl | (simp; done) | (simp [*]; done)), H', ⟨by have := HK1.out; first | omega | exact Nat.le_refl _⟩, ⟨by (with_reducible repeat (first | apply Kd.R_alloc | apply Kd.R_drewN | apply Kd.R_drew)); exact HO_7.out⟩, ⟨by repeat (first | (with_reducible first | exact HI0.out | apply IsS85.alloc | apply IsS85.drewN | apply IsS85.drew | apply IsS85.set_1) | exact HI0.out)⟩, ⟨by repeat (first | (with_reducible first | exact HK.out | apply KeepBut.set_ | apply keep_drewN | apply keep_drew | apply keep_alloc) | exact HK.out)⟩, ⟨by repeat (first | (with_reducible first | exact HB.out | apply below_alloc | apply pw_below_drewN | apply below_drew1 | refine below_set ?_ (IsS85.ge HI0.out)) | exact HB.out)⟩⟩
    ·rw [if_neg c9] at H
     have c9b0 : decide (0 < x8_1) = false := decide_eq_false c9
     clear c9
     (first | rw [c9b0] | (simp only [i64_w, i32_w]; rw [c9b0]) | skip)
     have H' := Aside0.mk H
     clear H
     go_wp2
     go_meet
     case rel => exact ⟨_, (false), (by first | rfl | (simp; done) | (simp [*]; done)), H', ⟨by have := HK1.out; first | omega | exact Nat.le_refl _⟩, ⟨by (with_reducible repeat (first | apply Kd.R_alloc | apply Kd.R_drewN | apply Kd.R_drew)); exact HO_7.out⟩, ⟨by repeat (first | (with_reducible first | exact HI0.out | apply IsS85.alloc | apply IsS85.drewN | apply IsS85.drew | apply IsS85.set_1) | exact HI0.out)⟩, ⟨by repeat (first | (with_reducible first | exact HK.out | apply KeepBut.set_ | apply keep_drewN | apply keep_drew | apply keep_alloc) | exact HK.out)⟩, ⟨by repeat (first | (with_reducible first | exact HB.out | apply below_alloc | apply pw_below_drewN | apply below_drew1 | refine below_set ?_ (IsS85.ge HI0.out)) | exact HB.out)⟩⟩
   case rest =>
    clear HC8
    try clear p2
    try clear c4
    try clear c9
    try clear c9b0
    try clear p2
    obtain ⟨kq, x19_7, rfl, HA, HJ7, HO_7, HI0, HK, HB⟩ := hcut
    cases kq with
    | zero => exact absurd HA.out (by simp [spec_l20Branches.j1])
    | succ kj7 =>
     have H := HA.out
     clear HA
     simp only [spec_l20Branches.j1] at H
     by_cases c10 : x19_7 = true
     ·subst c10
      have H1 : ((spec_l20Word.f kj7 s0_0 x1001_1 0).bind fun bt311 => ((spec_l20Rd_pick.f kj7 s0_0 bt311.2 a1).bind fun bt313 => ((spec_SetBranch.f kj7 x7_1 a1 bt311.1 bt313.1).bind fun bt315 => (spec_l20Branches.l0 kj7 a1 a2 bt315.1 (wrap64 (x8_1 - 1)) s0_0 bt313.2)))) = some (r1, r2) := by rw [if_pos rfl] at H; exact H
      clear H
      have H := H1
      clear H1
      replace H := Option.bind_eq_some_iff.mp H
      obtain ⟨⟨t311, t312⟩, A110, H⟩ := H
      replace H : ((spec_l20Rd_pick.f kj7 s0_0 t312 a1).bind fun bt313 => ((spec_SetBranch.f kj7 x7_1 a1 t311 bt313.1).bind fun bt315 => (spec_l20Branches.l0 kj7 a1 a2 bt315.1 (wrap64 (x8_1 - 1)) s0_0 bt313.2))) = some (r1, r2) := H
      have A11 := Aside0.mk A110
      clear A110
      replace H := Option.bind_eq_some_iff.mp H
      obtain ⟨⟨t313, t314⟩, A120, H⟩ := H
      replace H : ((spec_SetBranch.f kj7 x7_1 a1 t311 t313).bind fun bt315 => (spec_l20Branches.l0 kj7 a1 a2 bt315.1 (wrap64 (x8_1 - 1)) s0_0 t314)) = some (r1, r2) := H
      have A12 := Aside0.mk A120
      clear A120
      replace H := Option.bind_eq_some_iff.mp H
      obtain ⟨⟨t315, t318⟩, A130, H⟩ := H
      replace H : (spec_l20Branches.l0 kj7 a1 a2 t315 (wrap64 (x8_1 - 1)) s0_0 t314) = some (r1, r2) := H
      have A13 := Aside0.mk A130
      clear A130
      have H' := Aside0.mk H
      clear H
      go_wp2_with (first | ((with_reducible refine gate_callee (f := 58) rfl ?_); refine goesL_ (some 26) rfl rfl Try.func58 (by kernel_rfl) rfl #[.pointer (some ⟨g, 0, none⟩), .int .i64 0] rfl sl_ ?_; (with_reducible refine (spec_l20Word.calls kj7 g s0_0 x1001_1 0 t311 t312 w0 _ ?side1 ?side2 A11.out).mono ?_); (case side1 => repeat (first | (with_reducible first | exact HI0.out | apply IsS85.alloc | apply IsS85.drewN | apply IsS85.drew | apply IsS85.set_1) | exact HI0.out)); (case side2 => repeat (first | (with_reducible first | exact HB.out | apply below_alloc | apply pw_below_drewN | apply below_drew1 | refine below_set ?_ (IsS85.ge HI0.out)) | exact HB.out)); rintro e w14 ⟨rfl, hi, hb, hk⟩; refine ⟨_, rfl, ?_⟩; replace HO_7 := Aside0.mk (Kd.R_mono (Kd.R_keep (IsS85.apart (show IsS85 w0 _ g s0_0 x1001_1 from by repeat (first | (with_reducible first | exact HI0.out | apply IsS85.alloc | apply IsS85.drewN | apply IsS85.drew | apply IsS85.set_1) | exact HI0.out)) (kR_ HO_7.out) (by decide)) hk (fun _ h => h.2)) (fun _ h => h.1)); replace HK := Aside0.mk (KeepBut.trans (by repeat (first | (with_reducible first | exact HK.out | apply KeepBut.set_ | apply keep_drewN | apply keep_drew | apply keep_alloc) | exact HK.out)) hk (.inl rfl)); replace HB := Aside0.mk (hb); replace HI0 := Aside0.mk (hi); (try clear hb); (try clear hk); (try clear hi)) | ((with_reducible refine gate_callee (f := 46) rfl ?_); refine goesL_ (some 29) rfl rfl Try.func46 (by kernel_rfl) rfl #[.pointer (some ⟨g, 0, none⟩), .int .i64 a1] rfl sl_ ?_; (with_reducible refine (spec_l20Rd_pick.calls kj7 g s0_0 t312 a1 t313 t314 w0 _ ?side1 ?side2 A12.out).mono ?_); (case side1 => repeat (first | (with_reducible first | exact HI0.out | apply IsS85.alloc | apply IsS85.drewN | apply IsS85.drew | apply IsS85.set_1) | exact HI0.out)); (case side2 => repeat (first | (with_reducible first | exact HB.out | apply below_alloc | apply pw_below_drewN | apply below_drew1 | refine below_set ?_ (IsS85.ge HI0.out)) | exact HB.out)); rintro e w15 ⟨rfl, hi, hb, hk⟩; refine ⟨_, rfl, ?_⟩; replace HO_7 := Aside0.mk (Kd.R_mono (Kd.R_keep (IsS85.apart (show IsS85 w0 _ g s0_0 t312 from by repeat (first | (with_reducible first | exact HI0.out | apply IsS85.alloc | apply IsS85.drewN | apply IsS85.drew | apply IsS85.set_1) | exact HI0.out)) (kR_ HO_7.out) (by decide)) hk (fun _ h => h.2)) (fun _ h => h.1)); replace HK := Aside0.mk (KeepBut.trans (by repeat (first | (with_reducible first | exact HK.out | apply KeepBut.set_ | apply keep_drewN | apply keep_drew | apply keep_alloc) | exact HK.out)) hk (.inl rfl)); replace HB := Aside0.mk (hb); replace HI0 := Aside0.mk (hi); (try clear hb); (try clear hk); (try clear hi); obtain ⟨Ao16, co16, eo16⟩ := Kd.R_slice HO_7.out; subst eo16) | ((with_reducible refine gate_callee (f := 62) rfl ?_); refine goesL_ (some 31) rfl rfl Try.func62 (by kernel_rfl) rfl #[.slice Ao16 x7_1.length co16, .int .i64 a1, .agg #[.string t311, .int .i64 t313]] rfl sl_ ?_; (with_reducible refine (spec_SetBranch.calls kj7 (fun k_ => some k_ = (.slice Ao16 x7_1.length co16 : Value).ownBlock) _ _ x7_1 a1 t311 t313 t315 t318 _ ?side1 A13.out).mono ?_); (case side1 => exact Kd.R_V (Kd.R_tight rfl (IsS85.apart HI0.out (HO_7.out) (by decide)))); rintro e w17 ⟨v316, rfl, ho0, hb⟩; refine ⟨_, rfl, ?_⟩; have HO317 := Aside0.mk (Kd.R_lower (Kd.R_new' (Kd.R_mono (ok' := fun k_ => True) ho0 (fun _ hk_ => trivial)) (Kd.R_lt (kR_ HO_7.out))) (keep_size (w := w) (g := g) (row := none) (by repeat (first | (with_reducible first | exact HK.out | apply KeepBut.set_ | apply keep_drewN | apply keep_drew | apply keep_alloc) | exact HK.out)))); replace HO_7 := Aside0.mk (Kd.R_elder' (kR_ HO_7.out) (Kd.R_base ho0) hb); replace HK := Aside0.mk (KeepBut.trans (by repeat (first | (with_reducible first | exact HK.out | apply KeepBut.set_ | apply keep_drewN | apply keep_drew | apply keep_alloc) | exact HK.out)) (KeepBut.of_below hb g none) (.inl rfl)); replace HB := Aside0.mk (below_step (by repeat (first | (with_reducible first | exact HB.out | apply below_alloc | apply pw_below_drewN | apply below_drew1 | refine below_set ?_ (IsS85.ge HI0.out)) | exact HB.out)) hb); replace HI0 := Aside0.mk (IsS85.below (by repeat (first | (with_reducible first | exact HI0.out | apply IsS85.alloc | apply IsS85.drewN | apply IsS85.drew | apply IsS85.set_1) | exact HI0.out)) hb); (try clear hb); (try clear hk); (try clear hi); (try clear ho0)))
      go_roundg kj7
      case measure => have := HK1.out; have := HJ7.out; omega
      case rel => exact ⟨(t315), (wrap64 (x8_1 - 1)), (t314), (by first | rfl | (simp; done) | (simp [*]; done)), H', ⟨by have := HK1.out; have := HJ7.out; omega⟩, ⟨by (with_reducible repeat (first | apply Kd.R_alloc | apply Kd.R_drewN | apply Kd.R_drew)); exact Kd.R_mono HO317.out (fun _ hk => trivial)⟩, ⟨by repeat (first | (with_reducible first | exact HI0.out | apply IsS85.alloc | apply IsS85.drewN | apply IsS85.drew | apply IsS85.set_1) | exact HI0.out)⟩, ⟨by repeat (first | (with_reducible first | exact HK.out | apply KeepBut.set_ | apply keep_drewN | apply keep_drew | apply keep_alloc) | exact HK.out)⟩, ⟨by repeat (first | (with_reducible first | exact HB.out | apply below_alloc | apply pw_below_drewN | apply below_drew1 | refine below_set ?_ (IsS85.ge HI0.out)) | exact HB.out)⟩⟩
     ·replace c10 := Bool.eq_false_iff.mpr c10
      subst c10
      have H1 : ((spec_l20Rd_odd.f kj7 s0_0 x1001_1 a2).bind fun bt319 => (if bt319.1 = true then ((some (([(⟨(⟨#[]⟩ : ByteArray), 0⟩ : S35), (⟨(⟨#[122]⟩ : ByteArray), a1⟩ : S35), (⟨(⟨#[122]⟩ : ByteArray), (-1)⟩ : S35), (⟨(⟨#[65]⟩ : ByteArray), 0⟩ : S35)] : List (S35)) : List (S35))).bind fun y321 => ((spec_l20Rd_pick.f kj7 s0_0 bt319.2 4).bind fun bt324 => (if 0 ≤ bt324.1 then (if bt324.1 < (y321.length : Int) then (if x7_1.length < 5864062014805 then (some ((x7_1 ++ [(⟨(rd_T35 y321 bt324.1).f0, (rd_T35 y321 bt324.1).f1⟩ : S35)]), bt324.2)) else (none)) else (none)) else (none)))) else (some (x7_1, bt319.2)))) = some (r1, r2) := by rw [if_neg (show ¬ (false = true) by decide)] at H; exact H
      clear H
      have H := H1
      clear H1
      replace H := Option.bind_eq_some_iff.mp H
      obtain ⟨⟨t319, t320⟩, A180, H⟩ := H
      replace H : (if t319 = true then ((some (([(⟨(⟨#[]⟩ : ByteArray), 0⟩ : S35), (⟨(⟨#[122]⟩ : ByteArray), a1⟩ : S35), (⟨(⟨#[122]⟩ : ByteArray), (-1)⟩ : S35), (⟨(⟨#[65]⟩ : ByteArray), 0⟩ : S35)] : List (S35)) : List (S35))).bind fun y321 => ((spec_l20Rd_pick.f kj7 s0_0 t320 4).bind fun bt324 => (if 0 ≤ bt324.1 then (if bt324.1 < (y321.length : Int) then (if x7_1.length < 5864062014805 then (some ((x7_1 ++ [(⟨(rd_T35 y321 bt324.1).f0, (rd_T35 y321 bt324.1).f1⟩ : S35)]), bt324.2)) else (none)) else (none)) else (none)))) else (some (x7_1, t320))) = some (r1, r2) := H
      have A18 := Aside0.mk A180
      clear A180
      by_cases c19 : t319 = true
      ·subst c19
       have H1 : ((some (([(⟨(⟨#[]⟩ : ByteArray), 0⟩ : S35), (⟨(⟨#[122]⟩ : ByteArray), a1⟩ : S35), (⟨(⟨#[122]⟩ : ByteArray), (-1)⟩ : S35), (⟨(⟨#[65]⟩ : ByteArray), 0⟩ : S35)] : List (S35)) : List (S35))).bind fun y321 => ((spec_l20Rd_pick.f kj7 s0_0 t320 4).bind fun bt324 => (if 0 ≤ bt324.1 then (if bt324.1 < (y321.length : Int) then (if x7_1.length < 5864062014805 then (some ((x7_1 ++ [(⟨(rd_T35 y321 bt324.1).f0, (rd_T35 y321 bt324.1).f1⟩ : S35)]), bt324.2)) else (none)) else (none)) else (none)))) = some (r1, r2) := by rw [if_pos rfl] at H; exact H
       clear H
       have H := H1
       clear H1
       obtain ⟨y321, hy321⟩ : ∃ y_ : List (S35), y_ = (([(⟨(⟨#[]⟩ : ByteArray), 0⟩ : S35), (⟨(⟨#[122]⟩ : ByteArray), a1⟩ : S35), (⟨(⟨#[122]⟩ : ByteArray), (-1)⟩ : S35), (⟨(⟨#[65]⟩ : ByteArray), 0⟩ : S35)] : List (S35))) := ⟨_, rfl⟩
       replace H : ((spec_l20Rd_pick.f kj7 s0_0 t320 4).bind fun bt324 => (if 0 ≤ bt324.1 then (if bt324.1 < (y321.length : Int) then (if x7_1.length < 5864062014805 then (some ((x7_1 ++ [(⟨(rd_T35 y321 bt324.1).f0, (rd_T35 y321 bt324.1).f1⟩ : S35)]), bt324.2)) else (none)) else (none)) else (none))) = some (r1, r2) := by first | (rw [hy321]; with_reducible exact H) | (have H2_ := (Option.bind_some _ _).symm.trans H; rw [hy321]; with_reducible exact H2_) | (have H2_ := (Option.bind_some _ _).symm.trans H; with_reducible exact H2_) | with_reducible exact H | (rw [hy321]; exact H) | exact H
       have Ny321 := Aside0.mk hy321
       clear hy321
       replace H := Option.bind_eq_some_iff.mp H
       obtain ⟨⟨t324, t325⟩, A200, H⟩ := H
       replace H : (if 0 ≤ t324 then (if t324 < (y321.length : Int) then (if x7_1.length < 5864062014805 then (some ((x7_1 ++ [(⟨(rd_T35 y321 t324).f0, (rd_T35 y321 t324).f1⟩ : S35)]), t325)) else (none)) else (none)) else (none)) = some (r1, r2) := H
       have A20 := Aside0.mk A200
       clear A200
       by_cases c21 : 0 ≤ t324
       ·rw [if_pos c21] at H
        have c21b0 : decide (0 ≤ t324) = true := decide_eq_true c21
        clear c21
        by_cases c22 : t324 < (y321.length : Int)
        ·rw [if_pos c22] at H
         have c22b0 : decide (t324 < (y321.length : Int)) = true := decide_eq_true c22
         clear c22
         by_cases c23 : x7_1.length < 5864062014805
         ·rw [if_pos c23] at H
          have LMc23 := Aside0.mk c23
          clear c23
          obtain ⟨y327, hy327⟩ : ∃ y_ : List (S35), y_ = (x7_1 ++ [(⟨(rd_T35 y321 t324).f0, (rd_T35 y321 t324).f1⟩ : S35)]) := ⟨_, rfl⟩
          replace H : (some (y327, t325)) = some (r1, r2) := by first | (rw [hy327]; with_reducible exact H) | (have H2_ := (Option.bind_some _ _).symm.trans H; rw [hy327]; with_reducible exact H2_) | (have H2_ := (Option.bind_some _ _).symm.trans H; with_reducible exact H2_) | with_reducible exact H | (rw [hy327]; exact H) | exact H
          have Ny327 := Aside0.mk hy327
          clear hy327
          simp only [Option.some.injEq, Prod.mk.injEq] at H
          obtain ⟨rfl, rfl⟩ := H
          go_wp2_with (first | ((with_reducible refine gate_callee (f := 59) rfl ?_); refine goesL_ (some 37) rfl rfl Try.func59 (by kernel_rfl) rfl #[.pointer (some ⟨g, 0, none⟩), .int .i64 a2] rfl sl_ ?_; (with_reducible refine (spec_l20Rd_odd.calls kj7 g s0_0 x1001_1 a2 true t320 w0 _ ?side1 ?side2 A18.out).mono ?_); (case side1 => repeat (first | (with_reducible first | exact HI0.out | apply IsS85.alloc | apply IsS85.drewN | apply IsS85.drew | apply IsS85.set_1) | exact HI0.out)); (case side2 => repeat (first | (with_reducible first | exact HB.out | apply below_alloc | apply pw_below_drewN | apply below_drew1 | refine below_set ?_ (IsS85.ge HI0.out)) | exact HB.out)); rintro e w24 ⟨rfl, hi, hb, hk⟩; refine ⟨_, rfl, ?_⟩; replace HO_7 := Aside0.mk (Kd.R_mono (Kd.R_keep (IsS85.apart (show IsS85 w0 _ g s0_0 x1001_1 from by repeat (first | (with_reducible first | exact HI0.out | apply IsS85.alloc | apply IsS85.drewN | apply IsS85.drew | apply IsS85.set_1) | exact HI0.out)) (kR_ HO_7.out) (by decide)) hk (fun _ h => h.2)) (fun _ h => h.1)); replace HK := Aside0.mk (KeepBut.trans (by repeat (first | (with_reducible first | exact HK.out | apply KeepBut.set_ | apply keep_drewN | apply keep_drew | apply keep_alloc) | exact HK.out)) hk (.inl rfl)); replace HB := Aside0.mk (hb); replace HI0 := Aside0.mk (hi); (try clear hb); (try clear hk); (try clear hi)) | ((with_reducible refine gate_dst (N := 44) rfl ?_); refine Kd.R_lit k35 _ 35 ?hg (N := 44) ?hd (xs := ([(⟨(⟨#[]⟩ : ByteArray), 0⟩ : S35), (⟨(⟨#[122]⟩ : ByteArray), a1⟩ : S35), (⟨(⟨#[122]⟩ : ByteArray), (-1)⟩ : S35), (⟨(⟨#[65]⟩ : ByteArray), 0⟩ : S35)] : List (S35))) (inner := [.string (⟨#[]⟩ : ByteArray), .int .i64 0, .string (⟨#[122]⟩ : ByteArray), .int .i64 a1, .string (⟨#[122]⟩ : ByteArray), .int .i64 (-1), .string (⟨#[65]⟩ : ByteArray), .int .i64 0]) (ok := fun _ => True) (okp := fun _ => True) ?hr ?hp (fun _ hk => hk) trivial (Below.refl _ _) (Nat.le_refl _) (by simp) ?_; (case hd => rfl); (case hg => rfl); (case hr => first | (go_simp; done) | (go_simp; rfl)); (case hp => exact (Reps.c2 (show Kd.M k35 _ _ _ (⟨(⟨#[]⟩ : ByteArray), 0⟩ : S35) [.string (⟨#[]⟩ : ByteArray), .int .i64 0] from (k35_mkM _ _ _ (⟨(⟨#[]⟩ : ByteArray), 0⟩ : S35) )) (Reps.c2 (show Kd.M k35 _ _ _ (⟨(⟨#[122]⟩ : ByteArray), a1⟩ : S35) [.string (⟨#[122]⟩ : ByteArray), .int .i64 a1] from (k35_mkM _ _ _ (⟨(⟨#[122]⟩ : ByteArray), a1⟩ : S35) )) (Reps.c2 (show Kd.M k35 _ _ _ (⟨(⟨#[122]⟩ : ByteArray), (-1)⟩ : S35) [.string (⟨#[122]⟩ : ByteArray), .int .i64 (-1)] from (k35_mkM _ _ _ (⟨(⟨#[122]⟩ : ByteArray), (-1)⟩ : S35) )) (Reps.c2 (show Kd.M k35 _ _ _ (⟨(⟨#[65]⟩ : ByteArray), 0⟩ : S35) [.string (⟨#[65]⟩ : ByteArray), .int .i64 0] from (k35_mkM _ _ _ (⟨(⟨#[65]⟩ : ByteArray), 0⟩ : S35) )) (Reps.none _ _)))))); intro v322 w25 ho26 hb hg_ hnew_; clear hg_ hnew_; (first | rw [← Ny321.out] at ho26 | (simp only [Int.reduceToNat] at ho26; rw [← Ny321.out] at ho26)); have HO323 := Aside0.mk (Kd.R_lower (Kd.R_new' ho26 (Kd.R_lt (kR_ HO_7.out))) (keep_size (w := w) (g := g) (row := none) (by repeat (first | (with_reducible first | exact HK.out | apply KeepBut.set_ | apply keep_drewN | apply keep_drew | apply keep_alloc) | exact HK.out)))); replace HO_7 := Aside0.mk (Kd.R_elder' (kR_ HO_7.out) (Kd.R_base ho26) hb); replace HK := Aside0.mk (KeepBut.trans (by repeat (first | (with_reducible first | exact HK.out | apply KeepBut.set_ | apply keep_drewN | apply keep_drew | apply keep_alloc) | exact HK.out)) (KeepBut.of_below hb g none) (.inl rfl)); replace HB := Aside0.mk (below_step (by repeat (first | (with_reducible first | exact HB.out | apply below_alloc | apply pw_below_drewN | apply below_drew1 | refine below_set ?_ (IsS85.ge HI0.out)) | exact HB.out)) hb); replace HI0 := Aside0.mk (IsS85.below (by repeat (first | (with_reducible first | exact HI0.out | apply IsS85.alloc | apply IsS85.drewN | apply IsS85.drew | apply IsS85.set_1) | exact HI0.out)) hb); clear hb ho26) | ((with_reducible refine gate_callee (f := 46) rfl ?_); refine goesL_ (some 46) rfl rfl Try.func46 (by kernel_rfl) rfl #[.pointer (some ⟨g, 0, none⟩), .int .i64 4] rfl sl_ ?_; (with_reducible refine (spec_l20Rd_pick.calls kj7 g s0_0 t320 4 t324 t325 w0 _ ?side1 ?side2 A20.out).mono ?_); (case side1 => repeat (first | (with_reducible first | exact HI0.out | apply IsS85.alloc | apply IsS85.drewN | apply IsS85.drew | apply IsS85.set_1) | exact HI0.out)); (case side2 => repeat (first | (with_reducible first | exact HB.out | apply below_alloc | apply pw_below_drewN | apply below_drew1 | refine below_set ?_ (IsS85.ge HI0.out)) | exact HB.out)); rintro e w27 ⟨rfl, hi, hb, hk⟩; refine ⟨_, rfl, ?_⟩; replace HO_7 := Aside0.mk (Kd.R_mono (Kd.R_keep (IsS85.apart (show IsS85 w0 _ g s0_0 t320 from by repeat (first | (with_reducible first | exact HI0.out | apply IsS85.alloc | apply IsS85.drewN | apply IsS85.drew | apply IsS85.set_1) | exact HI0.out)) (kR_ HO_7.out) (by decide)) hk (fun _ h => h.2)) (fun _ h => h.1)); replace HO323 := Aside0.mk (Kd.R_mono (Kd.R_keep (IsS85.apart (show IsS85 w0 _ g s0_0 t320 from by repeat (first | (with_reducible first | exact HI0.out | apply IsS85.alloc | apply IsS85.drewN | apply IsS85.drew | apply IsS85.set_1) | exact HI0.out)) (kR_ HO323.out) (by decide)) hk (fun _ h => h.2)) (fun _ h => h.1)); replace HK := Aside0.mk (KeepBut.trans (by repeat (first | (with_reducible first | exact HK.out | apply KeepBut.set_ | apply keep_drewN | apply keep_drew | apply keep_alloc) | exact HK.out)) hk (.inl rfl)); replace HB := Aside0.mk (hb); replace HI0 := Aside0.mk (hi); (try clear hb); (try clear hk); (try clear hi); obtain ⟨Ao28, co28, eo28⟩ := Kd.R_slice HO323.out; subst eo28; have p326 : 0 ≤ (t324 : Int) := of_decide_eq_true ma_; have q326 : t324 < (y321.length : Int) := of_decide_eq_true ma_; obtain ⟨ad326, e326, hx326_0, hx326_1⟩ := at_T35 (Kd.R_reads' HO323.out).2.2 t324 p326 q326; cases e326; replace p326 := eq_true p326; replace q326 := eq_true q326) | ((with_reducible refine gate_builtin (b := .append) (xs := #[.tmp 38, .tmp 49]) rfl ?_); at_builtin; refine Kd.R_append k35 w.heap.size rfl (.tmp 38) (.tmp 49) 30 35 (.agg #[(.string ⟨#[]⟩), (.int .i64 0)]) 24 rfl Try.underlying30 info35 rfl (by decide) (by omega) u7 x7_1 (⟨(rd_T35 y321 t324).f0, (rd_T35 y321 t324).f1⟩ : S35) [.string ((rd_T35 y321 t324).f0), .int .i64 ((rd_T35 y321 t324).f1)] (fun k_ => some k_ ≠ (.slice (some ad326) y321.length co28 : Value).ownBlock) (fun _ => False) rfl rfl ?aP (fun _ hk => hk.elim) ?aF ?aO (Below.refl _ _) ?aS ?aL ?_; (case aP => exact k35_mkM _ _ _ (⟨(rd_T35 y321 t324).f0, (rd_T35 y321 t324).f1⟩ : S35)); (case aF => exact (fun k_ hk => Kd.fresh' (Kd.R_lt (kR_ HO323.out)) k_ hk)); (case aO => exact (by (with_reducible repeat (first | apply Kd.R_alloc | apply Kd.R_drewN | apply Kd.R_drew)); exact Kd.R_mono HO_7.out (fun _ hk => hk.2))); (case aS => exact (keep_size (w := w) (g := g) (row := none) (by repeat (first | (with_reducible first | exact HK.out | apply KeepBut.set_ | apply keep_drewN | apply keep_drew | apply keep_alloc) | exact HK.out)))); (case aL => have := LMc23.out; omega); intro v328 w29 ho hb hg hat; rw [← Ny327.out] at ho; have n0_ := Aside0.mk (IsS85.grown (by repeat (first | (with_reducible first | exact HI0.out | apply IsS85.alloc | apply IsS85.drewN | apply IsS85.drew | apply IsS85.set_1) | exact HI0.out)) hg (IsS85.own_ne HI0.out HO_7.out (by decide))); have n1_ := Aside0.mk (Kd.R_after (ok := (fun _ => True)) (kR_ HO323.out) hg hat); have n2_ := Aside0.mk (below_weaken (by repeat (first | (with_reducible first | exact HB.out | apply below_alloc | apply pw_below_drewN | apply below_drew1 | refine below_set ?_ (IsS85.ge HI0.out)) | exact HB.out)) HL.out hb); have n3_ := Aside0.mk (KeepBut.trans (by repeat (first | (with_reducible first | exact HK.out | apply KeepBut.set_ | apply keep_drewN | apply keep_drew | apply keep_alloc) | exact HK.out)) (KeepBut.of_grown hg g) (Kd.R_base2 HO_7.out)); have n4_ := Aside0.mk (ho); clear HI0; clear HO323; clear HB; clear HK; clear HO_7; have HI0 := n0_; have HO323 := n1_; have HB := n2_; have HK := n3_; have HO329 := n4_; clear n0_ n1_ n2_ n3_ n4_; clear ho hb hg hat))
          go_ret
          exact ⟨_, er_, by (with_reducible repeat (first | apply Kd.R_alloc | apply Kd.R_drewN | apply Kd.R_drew)); exact Kd.R_mono HO329.out (fun _ hk => trivial), by repeat (first | (with_reducible first | exact HI0.out | apply IsS85.alloc | apply IsS85.drewN | apply IsS85.drew | apply IsS85.set_1) | exact HI0.out), by repeat (first | (with_reducible first | exact HB.out | apply below_alloc | apply pw_below_drewN | apply below_drew1 | refine below_set ?_ (IsS85.ge HI0.out)) | exact HB.out), by repeat (first | (with_reducible first | exact HK.out | apply KeepBut.set_ | apply keep_drewN | apply keep_drew | apply keep_alloc) | exact HK.out)⟩
         ·rw [if_neg c23] at H
          exact absurd H (by simp)
        ·rw [if_neg c22] at H
         exact absurd H (by simp)
       ·rw [if_neg c21] at H
        exact absurd H (by simp)
      ·replace c19 := Bool.eq_false_iff.mpr c19
       subst c19
       have H1 : (some (x7_1, t320)) = some (r1, r2) := by rw [if_neg (show ¬ (false = true) by decide)] at H; exact H
       clear H
       have H := H1
       clear H1
       simp only [Option.some.injEq, Prod.mk.injEq] at H
       obtain ⟨rfl, rfl⟩ := H
       go_wp2_with (first | ((with_reducible refine gate_callee (f := 59) rfl ?_); refine goesL_ (some 37) rfl rfl Try.func59 (by kernel_rfl) rfl #[.pointer (some ⟨g, 0, none⟩), .int .i64 a2] rfl sl_ ?_; (with_reducible refine (spec_l20Rd_odd.calls kj7 g s0_0 x1001_1 a2 false t320 w0 _ ?side1 ?side2 A18.out).mono ?_); (case side1 => repeat (first | (with_reducible first | exact HI0.out | apply IsS85.alloc | apply IsS85.drewN | apply IsS85.drew | apply IsS85.set_1) | exact HI0.out)); (case side2 => repeat (first | (with_reducible first | exact HB.out | apply below_alloc | apply pw_below_drewN | apply below_drew1 | refine below_set ?_ (IsS85.ge HI0.out)) | exact HB.out)); rintro e w30 ⟨rfl, hi, hb, hk⟩; refine ⟨_, rfl, ?_⟩; replace HO_7 := Aside0.mk (Kd.R_mono (Kd.R_keep (IsS85.apart (show IsS85 w0 _ g s0_0 x1001_1 from by repeat (first | (with_reducible first | exact HI0.out | apply IsS85.alloc | apply IsS85.drewN | apply IsS85.drew | apply IsS85.set_1) | exact HI0.out)) (kR_ HO_7.out) (by decide)) hk (fun _ h => h.2)) (fun _ h => h.1)); replace HK := Aside0.mk (KeepBut.trans (by repeat (first | (with_reducible first | exact HK.out | apply KeepBut.set_ | apply keep_drewN | apply keep_drew | apply keep_alloc) | exact HK.out)) hk (.inl rfl)); replace HB := Aside0.mk (hb); replace HI0 := Aside0.mk (hi); (try clear hb); (try clear hk); (try clear hi)))
       go_ret
       exact ⟨_, er_, by (with_reducible repeat (first | apply Kd.R_alloc | apply Kd.R_drewN | apply Kd.R_drew)); exact HO_7.out, by repeat (first | (with_reducible first | exact HI0.out | apply IsS85.alloc | apply IsS85.drewN | apply IsS85.drew | apply IsS85.set_1) | exact HI0.out), by repeat (first | (with_reducible first | exact HB.out | apply below_alloc | apply pw_below_drewN | apply below_drew1 | refine below_set ?_ (IsS85.ge HI0.out)) | exact HB.out), by repeat (first | (with_reducible first | exact HK.out | apply KeepBut.set_ | apply keep_drewN | apply keep_drew | apply keep_alloc) | exact HK.out)⟩
/-! ### spec_DrawBranchesValid: function 13 -/
def spec_DrawBranchesValid.f (k : Nat) (l0 : List Int) : Option ((List (S35)) × Int) := (spec_l20Open.f l0).bind fun bt330 => ((spec_l20Many.f k bt330.1 bt330.2).bind fun bt333 => ((spec_l20Branches.f k bt330.1 bt333.2 bt333.1 2).bind fun bt335 => (some (bt335.1, bt333.1))))
theorem spec_DrawBranchesValid.mono : ∀ a0 k, LeO (spec_DrawBranchesValid.f k a0) (spec_DrawBranchesValid.f (k + 1) a0) := by
 intro a0 k
 unfold spec_DrawBranchesValid.f
 repeat' first
   | (with_reducible exact spec_l20Branches.mono _ _ _ _ _)
   | (with_reducible exact spec_l20Many.mono _ _ _)
   | (with_reducible exact LeO.refl _)
   | (with_reducible exact LeO.none _)
   | (with_reducible refine LeO.ite ?_ ?_)
   | (with_reducible refine LeO.bind ?_ (fun _ => ?_))
   | exact spec_l20Branches.mono _ _ _ _ _
   | exact spec_l20Many.mono _ _ _
   | exact LeO.none _
   | refine LeO.ite ?_ ?_
   | refine LeO.bind ?_ (fun _ => ?_)
set_option maxHeartbeats 8000000 in
set_option maxRecDepth 100000 in
theorem spec_DrawBranchesValid.calls (k : Nat) (A0 : Option Addr) (c0 : Nat) (l0 : List Int) (r1 : List (S35)) (r2 : Int) (w : World) (hr0 : Kd.C (Kd.int .u8) w A0 l0.length l0) (hc0 : l0.length ≤ c0) (h : spec_DrawBranchesValid.f k l0 = some (r1, r2)) :
  Calls Try.prog 13 #[.slice A0 l0.length c0] w fun e w' => ∃ v0_ : Value, e = .returned (.tuple #[v0_, .int .i64 r2]) ∧ Kd.R k35 35 w' w.heap.size (fun _ => True) v0_ r1 ∧ Below w.heap.size w w' := by
 have HR0 := Aside0.mk hr0
 have HC0 := Aside0.mk hc0
 clear hr0 hc0
 have HB := Aside0.mk (Below.refl w.heap.size w)
 have H : ((spec_l20Open.f l0).bind fun bt330 => ((spec_l20Many.f k bt330.1 bt330.2).bind fun bt333 => ((spec_l20Branches.f k bt330.1 bt333.2 bt333.1 2).bind fun bt335 => (some (bt335.1, bt333.1))))) = some (r1, r2) := h
 clear h
 replace H := Option.bind_eq_some_iff.mp H
 obtain ⟨⟨t330, t331⟩, A20, H⟩ := H
 replace H : ((spec_l20Many.f k t330 t331).bind fun bt333 => ((spec_l20Branches.f k t330 bt333.2 bt333.1 2).bind fun bt335 => (some (bt335.1, bt333.1)))) = some (r1, r2) := H
 have A2 := Aside0.mk A20
 clear A20
 replace H := Option.bind_eq_some_iff.mp H
 obtain ⟨⟨t333, t334⟩, A30, H⟩ := H
 replace H : ((spec_l20Branches.f k t330 t334 t333 2).bind fun bt335 => (some (bt335.1, t333))) = some (r1, r2) := H
 have A3 := Aside0.mk A30
 clear A30
 replace H := Option.bind_eq_some_iff.mp H
 obtain ⟨⟨t335, t338⟩, A40, H⟩ := H
 replace H : (some (t335, t333)) = some (r1, r2) := H
 have A4 := Aside0.mk A40
 clear A40
 simp only [Option.some.injEq, Prod.mk.injEq] at H
 obtain ⟨rfl, rfl⟩ := H
 go_enter Try.func13, Try.ntmps13
 go_wp2_with (first | ((with_reducible refine gate_callee (f := 36) rfl ?_); refine goesL_ (some 7) rfl rfl Try.func36 (by kernel_rfl) rfl #[.slice A0 l0.length c0] rfl sl_ ?_; (with_reducible refine (spec_l20Open.calls _ _ l0 t330 t331 w _ ?side1 ?side2 ?side3 A2.out).mono ?_); (case side1 => repeat (first | (with_reducible first | exact HB.out | apply below_alloc | apply pw_below_drewN | apply below_drew1) | exact HB.out)); (case side2 => exact HR0.out); (case side3 => exact HC0.out); rintro e w5 ⟨g332, rfl, hi, hb, hb2⟩; refine ⟨_, rfl, ?_⟩; replace HB := Aside0.mk (hb); have HI332 := Aside0.mk (hi); (try clear hb); (try clear hb2); (try clear hk); (try clear hi)) | ((with_reducible refine gate_callee (f := 41) rfl ?_); refine goesL_ (some 9) rfl rfl Try.func41 (by kernel_rfl) rfl #[.pointer (some ⟨g332, 0, none⟩)] rfl sl_ ?_; (with_reducible refine (spec_l20Many.calls k g332 t330 t331 t333 t334 w _ ?side1 ?side2 A3.out).mono ?_); (case side1 => repeat (first | (with_reducible first | exact HI332.out | apply IsS85.alloc | apply IsS85.drewN | apply IsS85.drew | apply IsS85.set_1) | exact HI332.out)); (case side2 => repeat (first | (with_reducible first | exact HB.out | apply below_alloc | apply pw_below_drewN | apply below_drew1 | refine below_set ?_ (IsS85.ge HI332.out)) | exact HB.out)); rintro e w6 ⟨rfl, hi, hb, hk⟩; refine ⟨_, rfl, ?_⟩; replace HB := Aside0.mk (hb); replace HI332 := Aside0.mk (hi); (try clear hb); (try clear hb2); (try clear hk); (try clear hi)) | ((with_reducible refine gate_callee (f := 42) rfl ?_); refine goesL_ (some 12) rfl rfl Try.func42 (by kernel_rfl) rfl #[.pointer (some ⟨g332, 0, none⟩), .int .i64 t333, .int .i64 2] rfl sl_ ?_; (with_reducible refine (spec_l20Branches.calls k g332 t330 t334 t333 2 t335 t338 w _ ?side1 ?side2 A4.out).mono ?_); (case side1 => repeat (first | (with_reducible first | exact HI332.out | apply IsS85.alloc | apply IsS85.drewN | apply IsS85.drew | apply IsS85.set_1) | exact HI332.out)); (case side2 => repeat (first | (with_reducible first | exact HB.out | apply below_alloc | apply pw_below_drewN | apply below_drew1 | refine below_set ?_ (IsS85.ge HI332.out)) | exact HB.out)); rintro e w7 ⟨v336, rfl, ho0, hi, hb, hk⟩; refine ⟨_, rfl, ?_⟩; have HO337 := Aside0.mk (Kd.R_lower ho0 (below_size (by repeat (first | (with_reducible first | exact HB.out | apply below_alloc | apply pw_below_drewN | apply below_drew1 | refine below_set ?_ (IsS85.ge HI332.out)) | exact HB.out)))); replace HB := Aside0.mk (hb); replace HI332 := Aside0.mk (hi); (try clear hb); (try clear hb2); (try clear hk); (try clear hi); (try clear ho0)))
 go_ret2
 exact ⟨_, er_, by (with_reducible repeat (first | apply Kd.R_alloc | apply Kd.R_drewN | apply Kd.R_drew)); exact HO337.out, by repeat (first | (with_reducible first | exact HB.out | apply below_alloc | apply pw_below_drewN | apply below_drew1 | refine below_set ?_ (IsS85.ge HI332.out)) | exact HB.out)⟩
/-! ### impl_BranchesValid: function 14 -/
mutual
def impl_BranchesValid.j0 : Nat → List (S35) → Int → Bool → Option (Bool)
 | 0, _, _, _ => none
 | k + 1, x0, x1, x17 => if x17 = true then (some false) else (impl_BranchesValid.l0 k x0 x1 x0 (x0.length : Int) 0)
def impl_BranchesValid.l0 : Nat → List (S35) → Int → List (S35) → Int → Int → Option (Bool)
 | 0, _, _, _, _, _ => none
 | k + 1, x0, x1, x18, x19, x20 => if x20 < x19 then (if 0 ≤ x20 then (if x20 < (x18.length : Int) then ((impl_WordValid.f k ((rd_T35 x18 x20).f0)).bind fun t341 => (if t341 = true then (if ((rd_T35 x18 x20).f1) < 0 then (impl_BranchesValid.j2 k x0 x1 x20 x18 x19 x20 true ((rd_T35 x18 x20).f0) ((rd_T35 x18 x20).f1)) else (impl_BranchesValid.j2 k x0 x1 x20 x18 x19 x20 (decide (((rd_T35 x18 x20).f1) ≥ x1)) ((rd_T35 x18 x20).f0) ((rd_T35 x18 x20).f1))) else (impl_BranchesValid.j2 k x0 x1 x20 x18 x19 x20 true ((rd_T35 x18 x20).f0) ((rd_T35 x18 x20).f1)))) else (none)) else (none)) else (some true)
def impl_BranchesValid.j2 : Nat → List (S35) → Int → Int → List (S35) → Int → Int → Bool → ByteArray → Int → Option (Bool)
 | 0, _, _, _, _, _, _, _, _, _ => none
 | k + 1, x0, x1, x5, x18, x19, x20, x39, x341000, x341001 => if x39 = true then (some false) else (if x5 > 0 then (if 0 ≤ (wrap64 (x5 - 1)) then (if (wrap64 (x5 - 1)) < (x0.length : Int) then (if ((Op.bytesLess (((rd_T35 x0 (wrap64 (x5 - 1))).f0).toList) x341000.toList) = true) then (impl_BranchesValid.l0 k x0 x1 x18 x19 (wrap64 (x20 + 1))) else (some false)) else (none)) else (none)) else (impl_BranchesValid.l0 k x0 x1 x18 x19 (wrap64 (x20 + 1))))
end
def impl_BranchesValid.f (k : Nat) (l0 : List (S35)) (a1 : Int) : Option (Bool) := if a1 < 0 then (impl_BranchesValid.j0 k l0 a1 true) else (if a1 > 12 then (impl_BranchesValid.j0 k l0 a1 true) else (impl_BranchesValid.j0 k l0 a1 (decide ((l0.length : Int) > 6))))
theorem impl_BranchesValid.mono_l : ∀ k, (∀ y0 y1 y2, LeO (impl_BranchesValid.j0 k y0 y1 y2) (impl_BranchesValid.j0 (k + 1) y0 y1 y2)) ∧ (∀ y0 y1 y2 y3 y4, LeO (impl_BranchesValid.l0 k y0 y1 y2 y3 y4) (impl_BranchesValid.l0 (k + 1) y0 y1 y2 y3 y4)) ∧ (∀ y0 y1 y2 y3 y4 y5 y6 y7 y8, LeO (impl_BranchesValid.j2 k y0 y1 y2 y3 y4 y5 y6 y7 y8) (impl_BranchesValid.j2 (k + 1) y0 y1 y2 y3 y4 y5 y6 y7 y8))
 | 0 => ⟨fun _ _ _ r h => by simp [impl_BranchesValid.j0] at h, fun _ _ _ _ _ r h => by simp [impl_BranchesValid.l0] at h, fun _ _ _ _ _ _ _ _ _ r h => by simp [impl_BranchesValid.j2] at h⟩
 | k + 1 => by
  obtain ⟨ih0, ih1, ih2⟩ := impl_BranchesValid.mono_l k
  refine ⟨?_, ?_, ?_⟩
  ·intro y0 y1 y2
   unfold impl_BranchesValid.j0
   repeat' first
   | (with_reducible exact ih0 _ _ _)
   | (with_reducible exact ih1 _ _ _ _ _)
   | (with_reducible exact ih2 _ _ _ _ _ _ _ _ _)
   | (with_reducible exact impl_WordValid.mono _ _)
   | (with_reducible exact LeO.refl _)
   | (with_reducible exact LeO.none _)
   | (with_reducible refine LeO.ite ?_ ?_)
   | (with_reducible refine LeO.bind ?_ (fun _ => ?_))
   | exact ih0 _ _ _
   | exact ih1 _ _ _ _ _
   | exact ih2 _ _ _ _ _ _ _ _ _
   | exact impl_WordValid.mono _ _
   | exact LeO.none _
   | refine LeO.ite ?_ ?_
   | refine LeO.bind ?_ (fun _ => ?_)
  ·intro y0 y1 y2 y3 y4
   unfold impl_BranchesValid.l0
   repeat' first
   | (with_reducible exact ih0 _ _ _)
   | (with_reducible exact ih1 _ _ _ _ _)
   | (with_reducible exact ih2 _ _ _ _ _ _ _ _ _)
   | (with_reducible exact impl_WordValid.mono _ _)
   | (with_reducible exact LeO.refl _)
   | (with_reducible exact LeO.none _)
   | (with_reducible refine LeO.ite ?_ ?_)
   | (with_reducible refine LeO.bind ?_ (fun _ => ?_))
   | exact ih0 _ _ _
   | exact ih1 _ _ _ _ _
   | exact ih2 _ _ _ _ _ _ _ _ _
   | exact impl_WordValid.mono _ _
   | exact LeO.none _
   | refine LeO.ite ?_ ?_
   | refine LeO.bind ?_ (fun _ => ?_)
  ·intro y0 y1 y2 y3 y4 y5 y6 y7 y8
   unfold impl_BranchesValid.j2
   repeat' first
   | (with_reducible exact ih0 _ _ _)
   | (with_reducible exact ih1 _ _ _ _ _)
   | (with_reducible exact ih2 _ _ _ _ _ _ _ _ _)
   | (with_reducible exact impl_WordValid.mono _ _)
   | (with_reducible exact LeO.refl _)
   | (with_reducible exact LeO.none _)
   | (with_reducible refine LeO.ite ?_ ?_)
   | (with_reducible refine LeO.bind ?_ (fun _ => ?_))
   | exact ih0 _ _ _
   | exact ih1 _ _ _ _ _
   | exact ih2 _ _ _ _ _ _ _ _ _
   | exact impl_WordValid.mono _ _
   | exact LeO.none _
   | refine LeO.ite ?_ ?_
   | refine LeO.bind ?_ (fun _ => ?_)
theorem impl_BranchesValid.mono : ∀ a0 a1 k, LeO (impl_BranchesValid.f k a0 a1) (impl_BranchesValid.f (k + 1) a0 a1) := by
 intro a0 a1 k
 obtain ⟨ih0, ih1, ih2⟩ := impl_BranchesValid.mono_l k
 unfold impl_BranchesValid.f
 repeat' first
   | (with_reducible exact ih0 _ _ _)
   | (with_reducible exact ih1 _ _ _ _ _)
   | (with_reducible exact ih2 _ _ _ _ _ _ _ _ _)
   | (with_reducible exact impl_WordValid.mono _ _)
   | (with_reducible exact LeO.refl _)
   | (with_reducible exact LeO.none _)
   | (with_reducible refine LeO.ite ?_ ?_)
   | (with_reducible refine LeO.bind ?_ (fun _ => ?_))
   | exact ih0 _ _ _
   | exact ih1 _ _ _ _ _
   | exact ih2 _ _ _ _ _ _ _ _ _
   | exact impl_WordValid.mono _ _
   | exact LeO.none _
   | refine LeO.ite ?_ ?_
   | refine LeO.bind ?_ (fun _ => ?_)
set_option maxHeartbeats 8000000 in
set_option maxRecDepth 100000 in
theorem impl_BranchesValid.calls (k : Nat) (A0 : Option Addr) (c0 : Nat) (l0 : List (S35)) (a1 : Int) (r : Bool) (w : World) (hr0 : Kd.C k35 w A0 l0.length l0) (hc0 : l0.length ≤ c0) (h : impl_BranchesValid.f k l0 a1 = some r) :
  Calls Try.prog 14 #[.slice A0 l0.length c0, .int .i64 a1] w fun e w' => e = .returned (.bool r) ∧ Below w.heap.size w w' := by
 have hu35 := Try.underlying35
 have HR0 := Aside0.mk hr0
 have HC0 := Aside0.mk hc0
 clear hr0 hc0
 have HB := Aside0.mk (Below.refl w.heap.size w)
 have H : (if a1 < 0 then (impl_BranchesValid.j0 k l0 a1 true) else (if a1 > 12 then (impl_BranchesValid.j0 k l0 a1 true) else (impl_BranchesValid.j0 k l0 a1 (decide ((l0.length : Int) > 6))))) = some r := h
 clear h
 have HC3 := Aside0.mk H
 clear H
 go_enter Try.func14, Try.ntmps14
 go_upto_region 1 with (fail)
 repeat (go_quiet (fail); go_upto_region 1 with (fail))
 go_cut [17] (fun v17 wc => ∃ (kq : Nat) (x17_2 : Bool), v17 = .bool x17_2 ∧ Aside0 (impl_BranchesValid.j0 kq l0 a1 x17_2 = some r) ∧ Aside0 (kq ≤ k) ∧ Aside0 (Below w.heap.size w wc))
 case first =>
  have H := HC3.out
  clear HC3
  by_cases c4 : a1 < 0
  ·rw [if_pos c4] at H
   have c4b0 : decide (a1 < 0) = true := decide_eq_true c4
   clear c4
   (first | rw [c4b0] | (simp only [i64_w, i32_w]; rw [c4b0]) | skip)
   have H' := Aside0.mk H
   clear H
   go_wp2
   repeat (go_quiet (fail); try go_wp2)
   go_meet
   case rel => exact ⟨_, (true), (by first | rfl | (simp; done) | (simp [*]; done)), H', ⟨by first | omega | exact Nat.le_refl _⟩, ⟨hb_⟩⟩
  ·rw [if_neg c4] at H
   have c4b0 : decide (a1 < 0) = false := decide_eq_false c4
   clear c4
   (first | rw [c4b0] | (simp only [i64_w, i32_w]; rw [c4b0]) | skip)
   by_cases c5 : a1 > 12
   ·rw [if_pos c5] at H
    have c5b0 : decide (12 < a1) = true := decide_eq_true c5
    clear c5
    have H' := Aside0.mk H
    clear H
    go_wp2
    repeat (go_quiet (fail); try go_wp2)
    go_meet
    case rel => exact ⟨_, (true), (by first | rfl | (simp; done) | (simp [*]; done)), H', ⟨by first | omega | exact Nat.le_refl _⟩, ⟨hb_⟩⟩
   ·rw [if_neg c5] at H
    have c5b0 : decide (12 < a1) = false := decide_eq_false c5
    clear c5
    have H' := Aside0.mk H
    clear H
    go_wp2
    repeat (go_quiet (fail); try go_wp2)
    go_meet
    case rel => exact ⟨_, (decide ((l0.length : Int) > 6)), (by first | rfl | (simp; done) | (simp [*]; done)), H', ⟨by first | omega | exact Nat.le_refl _⟩, ⟨hb_⟩⟩
 case rest =>
  clear HC3
  try clear c1
  try clear p2
  try clear c4
  try clear c4b0
  try clear c5
  try clear c5b0
  obtain ⟨kq, x17_2, rfl, HA, HJ2, HB⟩ := hcut
  cases kq with
  | zero => exact absurd HA.out (by simp [impl_BranchesValid.j0])
  | succ kj2 =>
   have H := HA.out
   clear HA
   simp only [impl_BranchesValid.j0] at H
   by_cases c6 : x17_2 = true
   ·subst c6
    have H1 : (some false) = some r := by rw [if_pos rfl] at H; exact H
    clear H
    have H := H1
    clear H1
    obtain rfl := Option.some.inj H
    go_wp2
    repeat (go_quiet (fail); try go_wp2)
    go_ret
    exact ⟨er_, hb_⟩
   ·replace c6 := Bool.eq_false_iff.mpr c6
    subst c6
    have H1 : (impl_BranchesValid.l0 kj2 l0 a1 l0 (l0.length : Int) 0) = some r := by rw [if_neg (show ¬ (false = true) by decide)] at H; exact H
    clear H
    have H := H1
    clear H1
    have H' := Aside0.mk H
    clear H
    go_wp2
    repeat (go_quiet (fail); try go_wp2)
    go_loopg [20] kj2 (fun kq v20 w' => ∃ (x20_2 : Int), v20 = .int .i64 x20_2 ∧ Aside0 (impl_BranchesValid.l0 kq l0 a1 l0 (l0.length : Int) x20_2 = some r) ∧ Aside0 (kq ≤ kj2) ∧ Aside0 (Below w.heap.size w w'))
    case atStart => exact ⟨(0), (by first | rfl | (simp; done) | (simp [*]; done)), H', ⟨Nat.le_refl _⟩, ⟨hb_⟩⟩
    case round =>
     clear H'
     try clear c1
     try clear p2
     try clear c4
     try clear c4b0
     try clear c5
     try clear c5b0
     try clear c6
     try clear p2
     obtain ⟨x20_2, rfl, HA, HK2, HB⟩ := hrel
     cases gk with
     | zero => exact absurd HA.out (by simp [impl_BranchesValid.l0])
     | succ k2 =>
      have H := HA.out
      clear HA
      simp only [impl_BranchesValid.l0] at H
      by_cases c7 : x20_2 < (l0.length : Int)
      ·rw [if_pos c7] at H
       have c7b0 : decide (x20_2 < (l0.length : Int)) = true := decide_eq_true c7
       clear c7
       by_cases c8 : 0 ≤ x20_2
       ·rw [if_pos c8] at H
        have c8b0 : decide (0 ≤ x20_2) = true := decide_eq_true c8
        clear c8
        by_cases c9 : x20_2 < (l0.length : Int)
        ·rw [if_pos c9] at H
         have c9b0 : decide (x20_2 < (l0.length : Int)) = true := decide_eq_true c9
         clear c9
         have HC10 := Aside0.mk H
         clear H
         have p339 : 0 ≤ (x20_2 : Int) := of_decide_eq_true ma_
         have q339 : x20_2 < (l0.length : Int) := of_decide_eq_true ma_
         obtain ⟨ad339, e339, hx339_0, hx339_1⟩ := at_T35 HR0.out x20_2 p339 q339
         cases e339
         replace hx339_0 := (HB.out.cell (World.block_lt_of_cell? w _ hx339_0)).trans hx339_0
         replace hx339_1 := (HB.out.cell (World.block_lt_of_cell? w _ hx339_1)).trans hx339_1
         replace p339 := eq_true p339
         replace q339 := eq_true q339
         go_upto_region 6 with (first | ((with_reducible refine gate_dst (N := 6) rfl ?_); (try (refine gate_guard (by rfl) ?_; dsimp only)); refine box_event ?hg (N := 6) ?hd (cs := #[.string (⟨#[]⟩ : ByteArray), .int .i64 0]) (t := 35) ?hr ?_; (case hd => rfl); (case hg => rfl); (case hr => first | (go_simp; done) | (go_simp; rfl)); intro gb340 hg w11 hbox hb; have n0_ := Aside0.mk (below_step hb_ hb); have n1_ := Aside0.mk (hbox); have n2_ := Aside0.mk ((by rw [hg]; exact (below_size hb_) : w.heap.size ≤ gb340)); have n3_ := Aside0.mk ((by rw [hg]; exact (below_size hb_) : w.heap.size ≤ gb340)); clear HB; have HB := n0_; have BK340 := n1_; have GW340 := n2_; have GE340 := n3_; clear n0_ n1_ n2_ n3_; clear hb hbox hg; have hcz12_0 : w11.cell? ⟨gb340, 0, none⟩ = some (.string (⟨#[]⟩ : ByteArray)) := (blk_cell BK340.out 0).trans rfl; have hcz12_1 : w11.cell? ⟨gb340, 1, none⟩ = some (.int .i64 0) := (blk_cell BK340.out 1).trans rfl; have hfz12_0 := blk_frozen BK340.out 0; have hfz12_1 := blk_frozen BK340.out 1))
         repeat (go_quiet (first | ((with_reducible refine gate_dst (N := 6) rfl ?_); (try (refine gate_guard (by rfl) ?_; dsimp only)); refine box_event ?hg (N := 6) ?hd (cs := #[.string (⟨#[]⟩ : ByteArray), .int .i64 0]) (t := 35) ?hr ?_; (case hd => rfl); (case hg => rfl); (case hr => first | (go_simp; done) | (go_simp; rfl)); intro gb340 hg w11 hbox hb; have n0_ := Aside0.mk (below_step hb_ hb); have n1_ := Aside0.mk (hbox); have n2_ := Aside0.mk ((by rw [hg]; exact (below_size hb_) : w.heap.size ≤ gb340)); have n3_ := Aside0.mk ((by rw [hg]; exact (below_size hb_) : w.heap.size ≤ gb340)); clear HB; have HB := n0_; have BK340 := n1_; have GW340 := n2_; have GE340 := n3_; clear n0_ n1_ n2_ n3_; clear hb hbox hg; have hcz12_0 : w11.cell? ⟨gb340, 0, none⟩ = some (.string (⟨#[]⟩ : ByteArray)) := (blk_cell BK340.out 0).trans rfl; have hcz12_1 : w11.cell? ⟨gb340, 1, none⟩ = some (.int .i64 0) := (blk_cell BK340.out 1).trans rfl; have hfz12_0 := blk_frozen BK340.out 0; have hfz12_1 := blk_frozen BK340.out 1)); go_upto_region 6 with (first | ((with_reducible refine gate_dst (N := 6) rfl ?_); (try (refine gate_guard (by rfl) ?_; dsimp only)); refine box_event ?hg (N := 6) ?hd (cs := #[.string (⟨#[]⟩ : ByteArray), .int .i64 0]) (t := 35) ?hr ?_; (case hd => rfl); (case hg => rfl); (case hr => first | (go_simp; done) | (go_simp; rfl)); intro gb340 hg w11 hbox hb; have n0_ := Aside0.mk (below_step hb_ hb); have n1_ := Aside0.mk (hbox); have n2_ := Aside0.mk ((by rw [hg]; exact (below_size hb_) : w.heap.size ≤ gb340)); have n3_ := Aside0.mk ((by rw [hg]; exact (below_size hb_) : w.heap.size ≤ gb340)); clear HB; have HB := n0_; have BK340 := n1_; have GW340 := n2_; have GE340 := n3_; clear n0_ n1_ n2_ n3_; clear hb hbox hg; have hcz12_0 : w11.cell? ⟨gb340, 0, none⟩ = some (.string (⟨#[]⟩ : ByteArray)) := (blk_cell BK340.out 0).trans rfl; have hcz12_1 : w11.cell? ⟨gb340, 1, none⟩ = some (.int .i64 0) := (blk_cell BK340.out 1).trans rfl; have hfz12_0 := blk_frozen BK340.out 0; have hfz12_1 := blk_frozen BK340.out 1)))
         (try simp only [Act.put, List.setIfInBounds_toArray, List.set_cons_zero, List.set_cons_succ])
         go_cut [39] (fun v39 wc => ∃ (kq : Nat) (x39_9 : Bool), v39 = .bool x39_9 ∧ Aside0 (impl_BranchesValid.j2 kq l0 a1 x20_2 l0 (l0.length : Int) x20_2 x39_9 ((rd_T35 l0 x20_2).f0) ((rd_T35 l0 x20_2).f1) = some r) ∧ Aside0 (kq ≤ k2) ∧ Aside0 (wc.heap[gb340]? = some (.cells #[.string ((rd_T35 l0 x20_2).f0), .int .i64 ((rd_T35 l0 x20_2).f1)] 35 (0, 0))) ∧ Aside0 (Below w.heap.size w wc))
         case first =>
          have H := HC10.out
          clear HC10
          replace H := Option.bind_eq_some_iff.mp H
          obtain ⟨t341, A130, H⟩ := H
          replace H : (if t341 = true then (if ((rd_T35 l0 x20_2).f1) < 0 then (impl_BranchesValid.j2 k2 l0 a1 x20_2 l0 (l0.length : Int) x20_2 true ((rd_T35 l0 x20_2).f0) ((rd_T35 l0 x20_2).f1)) else (impl_BranchesValid.j2 k2 l0 a1 x20_2 l0 (l0.length : Int) x20_2 (decide (((rd_T35 l0 x20_2).f1) ≥ a1)) ((rd_T35 l0 x20_2).f0) ((rd_T35 l0 x20_2).f1))) else (impl_BranchesValid.j2 k2 l0 a1 x20_2 l0 (l0.length : Int) x20_2 true ((rd_T35 l0 x20_2).f0) ((rd_T35 l0 x20_2).f1))) = some r := H
          have A13 := Aside0.mk A130
          clear A130
          by_cases c14 : t341 = true
          ·subst c14
           have H1 : (if ((rd_T35 l0 x20_2).f1) < 0 then (impl_BranchesValid.j2 k2 l0 a1 x20_2 l0 (l0.length : Int) x20_2 true ((rd_T35 l0 x20_2).f0) ((rd_T35 l0 x20_2).f1)) else (impl_BranchesValid.j2 k2 l0 a1 x20_2 l0 (l0.length : Int) x20_2 (decide (((rd_T35 l0 x20_2).f1) ≥ a1)) ((rd_T35 l0 x20_2).f0) ((rd_T35 l0 x20_2).f1))) = some r := by rw [if_pos rfl] at H; exact H
           clear H
           have H := H1
           clear H1
           by_cases c15 : ((rd_T35 l0 x20_2).f1) < 0
           ·rw [if_pos c15] at H
            have c15b0 : decide (((rd_T35 l0 x20_2).f1) < 0) = true := decide_eq_true c15
            clear c15
            (first | rw [c15b0] | (simp only [i64_w, i32_w]; rw [c15b0]) | skip)
            have H' := Aside0.mk H
            clear H
            have hcz16_0 : w11.cell? ⟨gb340, 0, none⟩ = some (.string (⟨#[]⟩ : ByteArray)) := (blk_cell BK340.out 0).trans rfl
            have hcz16_1 : w11.cell? ⟨gb340, 1, none⟩ = some (.int .i64 0) := (blk_cell BK340.out 1).trans rfl
            have hfz16_0 := blk_frozen BK340.out 0
            have hfz16_1 := blk_frozen BK340.out 1
            go_wp2_with (first | (go_at_call 38; (with_reducible refine (impl_WordValid.calls k2 ((rd_T35 l0 x20_2).f0) true _ A13.out).mono ?_); rintro e w' ⟨rfl, ⟨nd, rfl⟩⟩; (try first | exact ⟨rfl, _, World.drewN_drewN _ _ _⟩ | exact ⟨rfl, _, Eq.trans (World.drewN_drewN _ _ _) (congrArg (World.drewN _) (Nat.add_assoc _ _ _))⟩)))
            repeat (go_quiet (first | (go_at_call 38; (with_reducible refine (impl_WordValid.calls k2 ((rd_T35 l0 x20_2).f0) true _ A13.out).mono ?_); rintro e w' ⟨rfl, ⟨nd, rfl⟩⟩; (try first | exact ⟨rfl, _, World.drewN_drewN _ _ _⟩ | exact ⟨rfl, _, Eq.trans (World.drewN_drewN _ _ _) (congrArg (World.drewN _) (Nat.add_assoc _ _ _))⟩))); try go_wp2_with (first | (go_at_call 38; (with_reducible refine (impl_WordValid.calls k2 ((rd_T35 l0 x20_2).f0) true _ A13.out).mono ?_); rintro e w' ⟨rfl, ⟨nd, rfl⟩⟩; (try first | exact ⟨rfl, _, World.drewN_drewN _ _ _⟩ | exact ⟨rfl, _, Eq.trans (World.drewN_drewN _ _ _) (congrArg (World.drewN _) (Nat.add_assoc _ _ _))⟩))))
            go_meet
            case rel => exact ⟨_, (true), (by first | rfl | (simp; done) | (simp [*]; done)), H', ⟨by have := HJ2.out; have := HK2.out; first | omega | exact Nat.le_refl _⟩, ⟨by (with_reducible repeat (first | refine blk_drewN ?_ _ | refine blk_drew ?_ | refine blk_alloc ?_ _)); refine blk_put (cs := #[.string ((rd_T35 l0 x20_2).f0), .int .i64 0]) ?_ 1 _ rfl; (with_reducible repeat (first | refine blk_drewN ?_ _ | refine blk_drew ?_ | refine blk_alloc ?_ _)); refine blk_put (cs := #[.string (⟨#[]⟩ : ByteArray), .int .i64 0]) ?_ 0 _ rfl; (with_reducible repeat (first | refine blk_drewN ?_ _ | refine blk_drew ?_ | refine blk_alloc ?_ _)); exact BK340.out⟩, ⟨by repeat (first | (with_reducible first | exact HB.out | apply below_alloc | apply pw_below_drewN | apply below_drew1 | refine below_set ?_ GE340.out) | exact HB.out)⟩⟩
           ·rw [if_neg c15] at H
            have c15b0 : decide (((rd_T35 l0 x20_2).f1) < 0) = false := decide_eq_false c15
            clear c15
            (first | rw [c15b0] | (simp only [i64_w, i32_w]; rw [c15b0]) | skip)
            have H' := Aside0.mk H
            clear H
            have hcz17_0 : w11.cell? ⟨gb340, 0, none⟩ = some (.string (⟨#[]⟩ : ByteArray)) := (blk_cell BK340.out 0).trans rfl
            have hcz17_1 : w11.cell? ⟨gb340, 1, none⟩ = some (.int .i64 0) := (blk_cell BK340.out 1).trans rfl
            have hfz17_0 := blk_frozen BK340.out 0
            have hfz17_1 := blk_frozen BK340.out 1
            go_wp2_with (first | (go_at_call 38; (with_reducible refine (impl_WordValid.calls k2 ((rd_T35 l0 x20_2).f0) true _ A13.out).mono ?_); rintro e w' ⟨rfl, ⟨nd, rfl⟩⟩; (try first | exact ⟨rfl, _, World.drewN_drewN _ _ _⟩ | exact ⟨rfl, _, Eq.trans (World.drewN_drewN _ _ _) (congrArg (World.drewN _) (Nat.add_assoc _ _ _))⟩)))
            repeat (go_quiet (first | (go_at_call 38; (with_reducible refine (impl_WordValid.calls k2 ((rd_T35 l0 x20_2).f0) true _ A13.out).mono ?_); rintro e w' ⟨rfl, ⟨nd, rfl⟩⟩; (try first | exact ⟨rfl, _, World.drewN_drewN _ _ _⟩ | exact ⟨rfl, _, Eq.trans (World.drewN_drewN _ _ _) (congrArg (World.drewN _) (Nat.add_assoc _ _ _))⟩))); try go_wp2_with (first | (go_at_call 38; (with_reducible refine (impl_WordValid.calls k2 ((rd_T35 l0 x20_2).f0) true _ A13.out).mono ?_); rintro e w' ⟨rfl, ⟨nd, rfl⟩⟩; (try first | exact ⟨rfl, _, World.drewN_drewN _ _ _⟩ | exact ⟨rfl, _, Eq.trans (World.drewN_drewN _ _ _) (congrArg (World.drewN _) (Nat.add_assoc _ _ _))⟩))))
            go_meet
            case rel => exact ⟨_, (decide (((rd_T35 l0 x20_2).f1) ≥ a1)), (by first | rfl | (simp; done) | (simp [*]; done)), H', ⟨by have := HJ2.out; have := HK2.out; first | omega | exact Nat.le_refl _⟩, ⟨by (with_reducible repeat (first | refine blk_drewN ?_ _ | refine blk_drew ?_ | refine blk_alloc ?_ _)); refine blk_put (cs := #[.string ((rd_T35 l0 x20_2).f0), .int .i64 0]) ?_ 1 _ rfl; (with_reducible repeat (first | refine blk_drewN ?_ _ | refine blk_drew ?_ | refine blk_alloc ?_ _)); refine blk_put (cs := #[.string (⟨#[]⟩ : ByteArray), .int .i64 0]) ?_ 0 _ rfl; (with_reducible repeat (first | refine blk_drewN ?_ _ | refine blk_drew ?_ | refine blk_alloc ?_ _)); exact BK340.out⟩, ⟨by repeat (first | (with_reducible first | exact HB.out | apply below_alloc | apply pw_below_drewN | apply below_drew1 | refine below_set ?_ GE340.out) | exact HB.out)⟩⟩
          ·replace c14 := Bool.eq_false_iff.mpr c14
           subst c14
           have H1 : (impl_BranchesValid.j2 k2 l0 a1 x20_2 l0 (l0.length : Int) x20_2 true ((rd_T35 l0 x20_2).f0) ((rd_T35 l0 x20_2).f1)) = some r := by rw [if_neg (show ¬ (false = true) by decide)] at H; exact H
           clear H
           have H := H1
           clear H1
           have H' := Aside0.mk H
           clear H
           have hcz18_0 : w11.cell? ⟨gb340, 0, none⟩ = some (.string (⟨#[]⟩ : ByteArray)) := (blk_cell BK340.out 0).trans rfl
           have hcz18_1 : w11.cell? ⟨gb340, 1, none⟩ = some (.int .i64 0) := (blk_cell BK340.out 1).trans rfl
           have hfz18_0 := blk_frozen BK340.out 0
           have hfz18_1 := blk_frozen BK340.out 1
           go_wp2_with (first | (go_at_call 38; (with_reducible refine (impl_WordValid.calls k2 ((rd_T35 l0 x20_2).f0) false _ A13.out).mono ?_); rintro e w' ⟨rfl, ⟨nd, rfl⟩⟩; (try first | exact ⟨rfl, _, World.drewN_drewN _ _ _⟩ | exact ⟨rfl, _, Eq.trans (World.drewN_drewN _ _ _) (congrArg (World.drewN _) (Nat.add_assoc _ _ _))⟩)))
           repeat (go_quiet (first | (go_at_call 38; (with_reducible refine (impl_WordValid.calls k2 ((rd_T35 l0 x20_2).f0) false _ A13.out).mono ?_); rintro e w' ⟨rfl, ⟨nd, rfl⟩⟩; (try first | exact ⟨rfl, _, World.drewN_drewN _ _ _⟩ | exact ⟨rfl, _, Eq.trans (World.drewN_drewN _ _ _) (congrArg (World.drewN _) (Nat.add_assoc _ _ _))⟩))); try go_wp2_with (first | (go_at_call 38; (with_reducible refine (impl_WordValid.calls k2 ((rd_T35 l0 x20_2).f0) false _ A13.out).mono ?_); rintro e w' ⟨rfl, ⟨nd, rfl⟩⟩; (try first | exact ⟨rfl, _, World.drewN_drewN _ _ _⟩ | exact ⟨rfl, _, Eq.trans (World.drewN_drewN _ _ _) (congrArg (World.drewN _) (Nat.add_assoc _ _ _))⟩))))
           go_meet
           case rel => exact ⟨_, (true), (by first | rfl | (simp; done) | (simp [*]; done)), H', ⟨by have := HJ2.out; have := HK2.out; first | omega | exact Nat.le_refl _⟩, ⟨by (with_reducible repeat (first | refine blk_drewN ?_ _ | refine blk_drew ?_ | refine blk_alloc ?_ _)); refine blk_put (cs := #[.string ((rd_T35 l0 x20_2).f0), .int .i64 0]) ?_ 1 _ rfl; (with_reducible repeat (first | refine blk_drewN ?_ _ | refine blk_drew ?_ | refine blk_alloc ?_ _)); refine blk_put (cs := #[.string (⟨#[]⟩ : ByteArray), .int .i64 0]) ?_ 0 _ rfl; (with_reducible repeat (first | refine blk_drewN ?_ _ | refine blk_drew ?_ | refine blk_alloc ?_ _)); exact BK340.out⟩, ⟨by repeat (first | (with_reducible first | exact HB.out | apply below_alloc | apply pw_below_drewN | apply below_drew1 | refine below_set ?_ GE340.out) | exact HB.out)⟩⟩
         case rest =>
          clear HC10
          try clear c1
          try clear p2
          try clear p3
          try clear q3
          try clear hx3
          try clear c4
          try clear c4b0
          try clear c5
          try clear c5b0
          try clear c6
          try clear c7
          try clear c7b0
          try clear c8
          try clear c8b0
          try clear c9
          try clear c9b0
          try clear c14
          try clear c15
          try clear c15b0
          try clear hcz12_0
          try clear hcz12_1
          try clear hcz16_0
          try clear hcz16_1
          try clear hcz17_0
          try clear hcz17_1
          try clear hcz18_0
          try clear hcz18_1
          try clear hfz12_0
          try clear hfz12_1
          try clear hfz16_0
          try clear hfz16_1
          try clear hfz17_0
          try clear hfz17_1
          try clear hfz18_0
          try clear hfz18_1
          try clear hx339_0
          try clear hx339_1
          try clear p2
          try clear p339
          try clear q339
          obtain ⟨kq, x39_9, rfl, HA, HJ9, BK340, HB⟩ := hcut
          cases kq with
          | zero => exact absurd HA.out (by simp [impl_BranchesValid.j2])
          | succ kj9 =>
           have H := HA.out
           clear HA
           simp only [impl_BranchesValid.j2] at H
           by_cases c19 : x39_9 = true
           ·subst c19
            have H1 : (some false) = some r := by rw [if_pos rfl] at H; exact H
            clear H
            have H := H1
            clear H1
            obtain rfl := Option.some.inj H
            go_wp2
            repeat (go_quiet (fail); try go_wp2)
            go_ret
            exact ⟨er_, by repeat (first | (with_reducible first | exact HB.out | apply below_alloc | apply pw_below_drewN | apply below_drew1 | refine below_set ?_ GE340.out) | exact HB.out)⟩
           ·replace c19 := Bool.eq_false_iff.mpr c19
            subst c19
            have H1 : (if x20_2 > 0 then (if 0 ≤ (wrap64 (x20_2 - 1)) then (if (wrap64 (x20_2 - 1)) < (l0.length : Int) then (if ((Op.bytesLess (((rd_T35 l0 (wrap64 (x20_2 - 1))).f0).toList) ((rd_T35 l0 x20_2).f0).toList) = true) then (impl_BranchesValid.l0 kj9 l0 a1 l0 (l0.length : Int) (wrap64 (x20_2 + 1))) else (some false)) else (none)) else (none)) else (impl_BranchesValid.l0 kj9 l0 a1 l0 (l0.length : Int) (wrap64 (x20_2 + 1)))) = some r := by rw [if_neg (show ¬ (false = true) by decide)] at H; exact H
            clear H
            have H := H1
            clear H1
            by_cases c20 : x20_2 > 0
            ·rw [if_pos c20] at H
             have c20b0 : decide (0 < x20_2) = true := decide_eq_true c20
             clear c20
             obtain ⟨ji21, hji21⟩ : ∃ j_ : Int, (wrap64 (x20_2 - 1)) = j_ := ⟨_, rfl⟩
             replace H : (if 0 ≤ (ji21) then (if (ji21) < (l0.length : Int) then (if ((Op.bytesLess (((rd_T35 l0 (ji21)).f0).toList) ((rd_T35 l0 x20_2).f0).toList) = true) then (impl_BranchesValid.l0 kj9 l0 a1 l0 (l0.length : Int) (wrap64 (x20_2 + 1))) else (some false)) else (none)) else (none)) = some r := by first | (rw [hji21] at H; exact H) | (simp only [hji21] at H ⊢; exact H)
             have hji21w : (IntKind.i64.wrap (x20_2 - 1)) = ji21 := (i64_w _).trans hji21
             by_cases c22 : 0 ≤ (ji21)
             ·rw [if_pos c22] at H
              have c22b0 : decide (0 ≤ (ji21)) = true := decide_eq_true c22
              clear c22
              by_cases c23 : (ji21) < (l0.length : Int)
              ·rw [if_pos c23] at H
               have c23b0 : decide ((ji21) < (l0.length : Int)) = true := decide_eq_true c23
               clear c23
               by_cases c24 : ((Op.bytesLess (((rd_T35 l0 (ji21)).f0).toList) ((rd_T35 l0 x20_2).f0).toList) = true)
               ·rw [if_pos c24] at H
                have c24b0 : (Op.bytesLess (((rd_T35 l0 (ji21)).f0).toList) ((rd_T35 l0 x20_2).f0).toList) = true := c24
                clear c24
                have H' := Aside0.mk H
                clear H
                have p342 : 0 ≤ ((ji21) : Int) := of_decide_eq_true ma_
                have q342 : (ji21) < (l0.length : Int) := of_decide_eq_true ma_
                obtain ⟨ad342, e342, hx342_0, hx342_1⟩ := at_T35 HR0.out (ji21) p342 q342
                obtain rfl : ad339 = ad342 := (by injection e342)
                replace hx342_0 := (HB.out.cell (World.block_lt_of_cell? w _ hx342_0)).trans hx342_0
                replace hx342_1 := (HB.out.cell (World.block_lt_of_cell? w _ hx342_1)).trans hx342_1
                replace p342 := eq_true p342
                replace q342 := eq_true q342
                have hcz25_0 : wc.cell? ⟨gb340, 0, none⟩ = some (.string ((rd_T35 l0 x20_2).f0)) := (blk_cell BK340.out 0).trans rfl
                have hcz25_1 : wc.cell? ⟨gb340, 1, none⟩ = some (.int .i64 ((rd_T35 l0 x20_2).f1)) := (blk_cell BK340.out 1).trans rfl
                have hfz25_0 := blk_frozen BK340.out 0
                have hfz25_1 := blk_frozen BK340.out 1
                go_wp2
                repeat (go_quiet (fail); try go_wp2)
                go_roundg kj9
                case measure => have := HJ2.out; have := HK2.out; have := HJ9.out; omega
                case rel => exact ⟨(wrap64 (x20_2 + 1)), (by first | rfl | (simp; done) | (simp [*]; done)), H', ⟨by have := HJ2.out; have := HK2.out; have := HJ9.out; omega⟩, ⟨by repeat (first | (with_reducible first | exact HB.out | apply below_alloc | apply pw_below_drewN | apply below_drew1 | refine below_set ?_ GE340.out) | exact HB.out)⟩⟩
               ·rw [if_neg c24] at H
                have c24b0 : (Op.bytesLess (((rd_T35 l0 (ji21)).f0).toList) ((rd_T35 l0 x20_2).f0).toList) = false := by simpa using c24
                clear c24
                obtain rfl := Option.some.inj H
                have p342 : 0 ≤ ((ji21) : Int) := of_decide_eq_true ma_
                have q342 : (ji21) < (l0.length : Int) := of_decide_eq_true ma_
                obtain ⟨ad342, e342, hx342_0, hx342_1⟩ := at_T35 HR0.out (ji21) p342 q342
                obtain rfl : ad339 = ad342 := (by injection e342)
                replace hx342_0 := (HB.out.cell (World.block_lt_of_cell? w _ hx342_0)).trans hx342_0
                replace hx342_1 := (HB.out.cell (World.block_lt_of_cell? w _ hx342_1)).trans hx342_1
                replace p342 := eq_true p342
                replace q342 := eq_true q342
                have hcz26_0 : wc.cell? ⟨gb340, 0, none⟩ = some (.string ((rd_T35 l0 x20_2).f0)) := (blk_cell BK340.out 0).trans rfl
                have hcz26_1 : wc.cell? ⟨gb340, 1, none⟩ = some (.int .i64 ((rd_T35 l0 x20_2).f1)) := (blk_cell BK340.out 1).trans rfl
                have hfz26_0 := blk_frozen BK340.out 0
                have hfz26_1 := blk_frozen BK340.out 1
                go_wp2
                repeat (go_quiet (fail); try go_wp2)
                go_ret
                exact ⟨by first | rfl | (simp [errW_none, errW_some] <;> rfl) | (simp only [← hji21]; first | rfl | (simp [errW_none, errW_some] <;> rfl)) | (simp [*, errW_none, errW_some] <;> rfl), by repeat (first | (with_reducible first | exact HB.out | apply below_alloc | apply pw_below_drewN | apply below_drew1 | refine below_set ?_ GE340.out) | exact HB.out)⟩
              ·rw [if_neg c23] at H
               exact absurd H (by simp)
             ·rw [if_neg c22] at H
              exact absurd H (by simp)
            ·rw [if_neg c20] at H
             have c20b0 : decide (0 < x20_2) = false := decide_eq_false c20
             clear c20
             have H' := Aside0.mk H
             clear H
             go_wp2
             repeat (go_quiet (fail); try go_wp2)
             go_roundg kj9
             case measure => have := HJ2.out; have := HK2.out; have := HJ9.out; omega
             case rel => exact ⟨(wrap64 (x20_2 + 1)), (by first | rfl | (simp; done) | (simp [*]; done)), H', ⟨by have := HJ2.out; have := HK2.out; have := HJ9.out; omega⟩, ⟨by repeat (first | (with_reducible first | exact HB.out | apply below_alloc | apply pw_below_drewN | apply below_drew1 | refine below_set ?_ GE340.out) | exact HB.out)⟩⟩
        ·rw [if_neg c9] at H
         exact absurd H (by simp)
       ·rw [if_neg c8] at H
        exact absurd H (by simp)
      ·rw [if_neg c7] at H
       have c7b0 : decide (x20_2 < (l0.length : Int)) = false := decide_eq_false c7
       clear c7
       obtain rfl := Option.some.inj H
       go_wp2
       repeat (go_quiet (fail); try go_wp2)
       go_ret
       exact ⟨er_, hb_⟩
/-! ### laws_FnBranchesValid: function 4 -/
def laws_FnBranchesValid.j0 : Nat → List (S35) → Int → Bool → Option (Bool)
 | 0, _, _, _ => none
 | k + 1, x3, x4, x28 => if x28 = true then ((laws_alive.f k).bind fun t349 => (some t349)) else (if 1 ≤ (x3.length : Int) then ((impl_BranchesValid.f k (x3.drop 1) x4).bind fun t354 => (if t354 = true then (if 0 < (x3.length : Int) then ((some (([(⟨(rd_T35 x3 0).f0, (rd_T35 x3 0).f1⟩ : S35)] : List (S35)) : List (S35))).bind fun y356 => (if y356.length + x3.length < 5864062014805 then ((impl_BranchesValid.f k (y356 ++ x3) x4).bind fun t362 => (if t362 = true then (some false) else ((impl_BranchesValid.f k x3 0).bind fun t363 => (some (!t363))))) else (none))) else (none)) else (some false))) else (none))
def laws_FnBranchesValid.f (k : Nat) (l0 : List Int) : Option (Bool) := if (l0.length : Int) > 1048576 then (some true) else ((spec_DrawBranchesValid.f k l0).bind fun bt343 => ((impl_BranchesValid.f k bt343.1 bt343.2).bind fun t347 => ((spec_BranchesValid.f k bt343.1 bt343.2).bind fun t348 => (if (t347 != t348) = true then (some false) else (if t347 = true then (laws_FnBranchesValid.j0 k bt343.1 bt343.2 ((bt343.1.length : Int) == 0)) else (laws_FnBranchesValid.j0 k bt343.1 bt343.2 true))))))
theorem laws_FnBranchesValid.mono_l : ∀ k, (∀ y0 y1 y2, LeO (laws_FnBranchesValid.j0 k y0 y1 y2) (laws_FnBranchesValid.j0 (k + 1) y0 y1 y2))
 | 0 => fun _ _ _ r h => by simp [laws_FnBranchesValid.j0] at h
 | k + 1 => by
  have ih0 := laws_FnBranchesValid.mono_l k
  ·intro y0 y1 y2
   unfold laws_FnBranchesValid.j0
   repeat' first
   | (with_reducible exact ih0 _ _ _)
   | (with_reducible exact impl_BranchesValid.mono _ _ _)
   | (with_reducible exact laws_alive.mono _)
   | (with_reducible exact spec_BranchesValid.mono _ _ _)
   | (with_reducible exact spec_DrawBranchesValid.mono _ _)
   | (with_reducible exact LeO.refl _)
   | (with_reducible exact LeO.none _)
   | (with_reducible refine LeO.ite ?_ ?_)
   | (with_reducible refine LeO.bind ?_ (fun _ => ?_))
   | exact ih0 _ _ _
   | exact impl_BranchesValid.mono _ _ _
   | exact laws_alive.mono _
   | exact spec_BranchesValid.mono _ _ _
   | exact spec_DrawBranchesValid.mono _ _
   | exact LeO.none _
   | refine LeO.ite ?_ ?_
   | refine LeO.bind ?_ (fun _ => ?_)
theorem laws_FnBranchesValid.mono : ∀ a0 k, LeO (laws_FnBranchesValid.f k a0) (laws_FnBranchesValid.f (k + 1) a0) := by
 intro a0 k
 have ih0 := laws_FnBranchesValid.mono_l k
 unfold laws_FnBranchesValid.f
 repeat' first
   | (with_reducible exact ih0 _ _ _)
   | (with_reducible exact impl_BranchesValid.mono _ _ _)
   | (with_reducible exact laws_alive.mono _)
   | (with_reducible exact spec_BranchesValid.mono _ _ _)
   | (with_reducible exact spec_DrawBranchesValid.mono _ _)
   | (with_reducible exact LeO.refl _)
   | (with_reducible exact LeO.none _)
   | (with_reducible refine LeO.ite ?_ ?_)
   | (with_reducible refine LeO.bind ?_ (fun _ => ?_))
   | exact ih0 _ _ _
   | exact impl_BranchesValid.mono _ _ _
   | exact laws_alive.mono _
   | exact spec_BranchesValid.mono _ _ _
   | exact spec_DrawBranchesValid.mono _ _
   | exact LeO.none _
   | refine LeO.ite ?_ ?_
   | refine LeO.bind ?_ (fun _ => ?_)
set_option maxHeartbeats 8000000 in
set_option maxRecDepth 100000 in
theorem laws_FnBranchesValid.calls (k : Nat) (A0 : Option Addr) (c0 : Nat) (l0 : List Int) (r : Bool) (w : World) (hr0 : Kd.C (Kd.int .u8) w A0 l0.length l0) (hc0 : l0.length ≤ c0) (h : laws_FnBranchesValid.f k l0 = some r) (hrt : r = true) :
  Calls Try.prog 4 #[.slice A0 l0.length c0] w fun e w' => e = .returned (.bool r) ∧ Below w.heap.size w w' := by
 have hu35 := Try.underlying35
 have HR0 := Aside0.mk hr0
 have HC0 := Aside0.mk hc0
 clear hr0 hc0
 have HB := Aside0.mk (Below.refl w.heap.size w)
 have H : (if (l0.length : Int) > 1048576 then (some true) else ((spec_DrawBranchesValid.f k l0).bind fun bt343 => ((impl_BranchesValid.f k bt343.1 bt343.2).bind fun t347 => ((spec_BranchesValid.f k bt343.1 bt343.2).bind fun t348 => (if (t347 != t348) = true then (some false) else (if t347 = true then (laws_FnBranchesValid.j0 k bt343.1 bt343.2 ((bt343.1.length : Int) == 0)) else (laws_FnBranchesValid.j0 k bt343.1 bt343.2 true))))))) = some r := h
 clear h
 by_cases c2 : (l0.length : Int) > 1048576
 ·rw [if_pos c2] at H
  have c2b0 : decide (1048576 < (l0.length : Int)) = true := decide_eq_true c2
  have c2b1 : decide (1048576 < l0.length) = true := decide_eq_true (by omega)
  clear c2
  obtain rfl := Option.some.inj H
  go_enter Try.func4, Try.ntmps4
  go_wp2
  go_ret
  exact ⟨er_, hb_⟩
 ·rw [if_neg c2] at H
  have c2b0 : decide (1048576 < (l0.length : Int)) = false := decide_eq_false c2
  have c2b1 : decide (1048576 < l0.length) = false := decide_eq_false (by omega)
  clear c2
  replace H := Option.bind_eq_some_iff.mp H
  obtain ⟨⟨t343, t344⟩, A30, H⟩ := H
  replace H : ((impl_BranchesValid.f k t343 t344).bind fun t347 => ((spec_BranchesValid.f k t343 t344).bind fun t348 => (if (t347 != t348) = true then (some false) else (if t347 = true then (laws_FnBranchesValid.j0 k t343 t344 ((t343.length : Int) == 0)) else (laws_FnBranchesValid.j0 k t343 t344 true))))) = some r := H
  have A3 := Aside0.mk A30
  clear A30
  replace H := Option.bind_eq_some_iff.mp H
  obtain ⟨t347, A40, H⟩ := H
  replace H : ((spec_BranchesValid.f k t343 t344).bind fun t348 => (if (t347 != t348) = true then (some false) else (if t347 = true then (laws_FnBranchesValid.j0 k t343 t344 ((t343.length : Int) == 0)) else (laws_FnBranchesValid.j0 k t343 t344 true)))) = some r := H
  have A4 := Aside0.mk A40
  clear A40
  replace H := Option.bind_eq_some_iff.mp H
  obtain ⟨t348, A50, H⟩ := H
  replace H : (if (t347 != t348) = true then (some false) else (if t347 = true then (laws_FnBranchesValid.j0 k t343 t344 ((t343.length : Int) == 0)) else (laws_FnBranchesValid.j0 k t343 t344 true))) = some r := H
  have A5 := Aside0.mk A50
  clear A50
  by_cases c6 : (t347 != t348) = true
  ·rw [if_pos c6] at H
   have c6b0 : (t347 != t348) = true := c6
   (try (have c6b1 : decide (t347 = t348) = false := by simpa using c6))
   (try (have c6b2 : (t347 == t348) = false := by simpa using c6))
   (try (have c6b3 : ¬ (t347 = t348) := by simpa using c6))
   clear c6
   exact absurd H (by subst hrt; decide)
  ·rw [if_neg c6] at H
   have c6b0 : (t347 != t348) = false := by simpa using c6
   (try (have c6b1 : decide (t347 = t348) = true := by simpa using c6))
   (try (have c6b2 : (t347 == t348) = true := by simpa using c6))
   clear c6
   have HC11 := Aside0.mk H
   clear H
   go_enter Try.func4, Try.ntmps4
   go_upto_region 7 with (first | ((with_reducible refine gate_callee (f := 13) rfl ?_); refine goesL_ (some 11) rfl rfl Try.func13 (by kernel_rfl) rfl #[.slice A0 l0.length c0] rfl sl_ ?_; (with_reducible refine (spec_DrawBranchesValid.calls k _ _ l0 t343 t344 _ ?side1 ?side2 A3.out).mono ?_); (case side1 => exact kC_ HR0.out); (case side2 => exact HC0.out); rintro e w12 ⟨v345, rfl, ho0, hb⟩; refine ⟨_, rfl, ?_⟩; have HO346 := Aside0.mk (Kd.R_lower ho0 (below_size hb_)); replace HB := Aside0.mk (below_step hb_ hb); (try clear hb); (try clear ho0); obtain ⟨Ao13, co13, eo13⟩ := Kd.R_slice HO346.out; subst eo13) | ((with_reducible refine gate_callee (f := 14) rfl ?_); refine goesL_ (some 16) rfl rfl Try.func14 (by kernel_rfl) rfl #[.slice Ao13 t343.length co13, .int .i64 t344] rfl sl_ ?_; (with_reducible refine (impl_BranchesValid.calls k _ _ t343 t344 t347 _ ?side1 ?side2 A4.out).mono ?_); (case side1 => exact kC_ ((Kd.R_reads' HO346.out).2.2)); (case side2 => exact (Kd.R_reads' HO346.out).2.1); rintro e w14 ⟨rfl, hb⟩; refine ⟨_, rfl, ?_⟩; replace HO346 := Aside0.mk (Kd.R_below (kR_ HO346.out) hb); replace HB := Aside0.mk (below_step hb_ hb); (try clear hb)) | ((with_reducible refine gate_callee (f := 15) rfl ?_); refine goesL_ (some 20) rfl rfl Try.func15 (by kernel_rfl) rfl #[.slice Ao13 t343.length co13, .int .i64 t344] rfl sl_ ?_; (with_reducible refine (spec_BranchesValid.calls k _ _ t343 t344 t348 _ ?side1 ?side2 A5.out).mono ?_); (case side1 => exact kC_ ((Kd.R_reads' HO346.out).2.2)); (case side2 => exact (Kd.R_reads' HO346.out).2.1); rintro e w15 ⟨rfl, hb⟩; refine ⟨_, rfl, ?_⟩; replace HO346 := Aside0.mk (Kd.R_below (kR_ HO346.out) hb); replace HB := Aside0.mk (below_step hb_ hb); (try clear hb)))
   (try simp only [Act.put, List.setIfInBounds_toArray, List.set_cons_zero, List.set_cons_succ])
   go_cut [28] (fun v28 wc => ∃ (kq : Nat) (x28_10 : Bool), v28 = .bool x28_10 ∧ Aside0 (laws_FnBranchesValid.j0 kq t343 t344 x28_10 = some r) ∧ Aside0 (kq ≤ k) ∧ Aside0 (Kd.R k35 35 wc w.heap.size (fun _ => True) (.slice Ao13 t343.length co13) t343) ∧ Aside0 (Below w.heap.size w wc))
   case first =>
    have H := HC11.out
    clear HC11
    by_cases c16 : t347 = true
    ·subst c16
     have H1 : (laws_FnBranchesValid.j0 k t343 t344 ((t343.length : Int) == 0)) = some r := by rw [if_pos rfl] at H; exact H
     clear H
     have H := H1
     clear H1
     have H' := Aside0.mk H
     clear H
     go_wp2
     go_meet
     case rel => exact ⟨_, (((t343.length : Int) == 0)), (by first | rfl | (simp; done) | (simp [*]; done)), H', ⟨by first | omega | exact Nat.le_refl _⟩, ⟨by (with_reducible repeat (first | apply Kd.R_alloc | apply Kd.R_drewN | apply Kd.R_drew)); exact HO346.out⟩, ⟨hb_⟩⟩
    ·replace c16 := Bool.eq_false_iff.mpr c16
     subst c16
     have H1 : (laws_FnBranchesValid.j0 k t343 t344 true) = some r := by rw [if_neg (show ¬ (false = true) by decide)] at H; exact H
     clear H
     have H := H1
     clear H1
     have H' := Aside0.mk H
     clear H
     go_wp2
     go_meet
     case rel => exact ⟨_, (true), (by first | rfl | (simp; done) | (simp [*]; done)), H', ⟨by first | omega | exact Nat.le_refl _⟩, ⟨by (with_reducible repeat (first | apply Kd.R_alloc | apply Kd.R_drewN | apply Kd.R_drew)); exact HO346.out⟩, ⟨hb_⟩⟩
   case rest =>
    clear HC11
    try clear c1
    try clear c2
    try clear c2b0
    try clear c2b1
    try clear p2
    try clear c4
    try clear c6
    try clear c6b0
    try clear c6b1
    try clear c6b2
    try clear c13
    try clear c14
    try clear c15
    try clear c16
    obtain ⟨kq, x28_10, rfl, HA, HJ10, HO_3, HB⟩ := hcut
    cases kq with
    | zero => exact absurd HA.out (by simp [laws_FnBranchesValid.j0])
    | succ kj10 =>
     have H := HA.out
     clear HA
     simp only [laws_FnBranchesValid.j0] at H
     by_cases c17 : x28_10 = true
     ·subst c17
      have H1 : ((laws_alive.f kj10).bind fun t349 => (some t349)) = some r := by rw [if_pos rfl] at H; exact H
      clear H
      have H := H1
      clear H1
      replace H := Option.bind_eq_some_iff.mp H
      obtain ⟨t349, A180, H⟩ := H
      replace H : (some t349) = some r := H
      have A18 := Aside0.mk A180
      clear A180
      obtain rfl := Option.some.inj H
      go_wp2_with (first | ((with_reducible refine gate_callee (f := 12) rfl ?_); refine goesL_ (some 29) rfl rfl Try.func12 (by kernel_rfl) rfl #[] rfl sl_ ?_; (with_reducible refine (laws_alive.calls kj10  t349 _ A18.out).mono ?_); rintro e w' ⟨rfl, ⟨nd, rfl⟩⟩; refine ⟨_, rfl, ?_⟩))
      go_ret
      exact ⟨er_, hb_⟩
     ·replace c17 := Bool.eq_false_iff.mpr c17
      subst c17
      have H1 : (if 1 ≤ (t343.length : Int) then ((impl_BranchesValid.f kj10 (t343.drop 1) t344).bind fun t354 => (if t354 = true then (if 0 < (t343.length : Int) then ((some (([(⟨(rd_T35 t343 0).f0, (rd_T35 t343 0).f1⟩ : S35)] : List (S35)) : List (S35))).bind fun y356 => (if y356.length + t343.length < 5864062014805 then ((impl_BranchesValid.f kj10 (y356 ++ t343) t344).bind fun t362 => (if t362 = true then (some false) else ((impl_BranchesValid.f kj10 t343 0).bind fun t363 => (some (!t363))))) else (none))) else (none)) else (some false))) else (none)) = some r := by rw [if_neg (show ¬ (false = true) by decide)] at H; exact H
      clear H
      have H := H1
      clear H1
      by_cases c19 : 1 ≤ (t343.length : Int)
      ·rw [if_pos c19] at H
       have c19b0 := eq_true c19
       have c19b1 : decide (1 ≤ (t343.length : Int)) = true := decide_eq_true c19
       clear c19
       obtain ⟨y350, hy350⟩ : ∃ y_ : List (S35), y_ = (t343.drop 1) := ⟨_, rfl⟩
       replace H : ((impl_BranchesValid.f kj10 y350 t344).bind fun t354 => (if t354 = true then (if 0 < (t343.length : Int) then ((some (([(⟨(rd_T35 t343 0).f0, (rd_T35 t343 0).f1⟩ : S35)] : List (S35)) : List (S35))).bind fun y356 => (if y356.length + t343.length < 5864062014805 then ((impl_BranchesValid.f kj10 (y356 ++ t343) t344).bind fun t362 => (if t362 = true then (some false) else ((impl_BranchesValid.f kj10 t343 0).bind fun t363 => (some (!t363))))) else (none))) else (none)) else (some false))) = some r := by first | (rw [hy350]; with_reducible exact H) | (have H2_ := (Option.bind_some _ _).symm.trans H; rw [hy350]; with_reducible exact H2_) | (have H2_ := (Option.bind_some _ _).symm.trans H; with_reducible exact H2_) | with_reducible exact H | (rw [hy350]; exact H) | exact H
       have Ny350 := Aside0.mk hy350
       clear hy350
       replace H := Option.bind_eq_some_iff.mp H
       obtain ⟨t354, A200, H⟩ := H
       replace H : (if t354 = true then (if 0 < (t343.length : Int) then ((some (([(⟨(rd_T35 t343 0).f0, (rd_T35 t343 0).f1⟩ : S35)] : List (S35)) : List (S35))).bind fun y356 => (if y356.length + t343.length < 5864062014805 then ((impl_BranchesValid.f kj10 (y356 ++ t343) t344).bind fun t362 => (if t362 = true then (some false) else ((impl_BranchesValid.f kj10 t343 0).bind fun t363 => (some (!t363))))) else (none))) else (none)) else (some false)) = some r := H
       have A20 := Aside0.mk A200
       clear A200
       by_cases c21 : t354 = true
       ·subst c21
        have H1 : (if 0 < (t343.length : Int) then ((some (([(⟨(rd_T35 t343 0).f0, (rd_T35 t343 0).f1⟩ : S35)] : List (S35)) : List (S35))).bind fun y356 => (if y356.length + t343.length < 5864062014805 then ((impl_BranchesValid.f kj10 (y356 ++ t343) t344).bind fun t362 => (if t362 = true then (some false) else ((impl_BranchesValid.f kj10 t343 0).bind fun t363 => (some (!t363))))) else (none))) else (none)) = some r := by rw [if_pos rfl] at H; exact H
        clear H
        have H := H1
        clear H1
        by_cases c22 : 0 < (t343.length : Int)
        ·rw [if_pos c22] at H
         have c22b0 : decide (0 < (t343.length : Int)) = true := decide_eq_true c22
         have c22b1 : decide (0 < t343.length) = true := decide_eq_true (by omega)
         clear c22
         obtain ⟨y356, hy356⟩ : ∃ y_ : List (S35), y_ = (([(⟨(rd_T35 t343 0).f0, (rd_T35 t343 0).f1⟩ : S35)] : List (S35))) := ⟨_, rfl⟩
         replace H : (if y356.length + t343.length < 5864062014805 then ((impl_BranchesValid.f kj10 (y356 ++ t343) t344).bind fun t362 => (if t362 = true then (some false) else ((impl_BranchesValid.f kj10 t343 0).bind fun t363 => (some (!t363))))) else (none)) = some r := by first | (rw [hy356]; with_reducible exact H) | (have H2_ := (Option.bind_some _ _).symm.trans H; rw [hy356]; with_reducible exact H2_) | (have H2_ := (Option.bind_some _ _).symm.trans H; with_reducible exact H2_) | with_reducible exact H | (rw [hy356]; exact H) | exact H
         have Ny356 := Aside0.mk hy356
         clear hy356
         by_cases c23 : y356.length + t343.length < 5864062014805
         ·rw [if_pos c23] at H
          have LMc23 := Aside0.mk c23
          clear c23
          obtain ⟨y359, hy359⟩ : ∃ y_ : List (S35), y_ = (y356 ++ t343) := ⟨_, rfl⟩
          replace H : ((impl_BranchesValid.f kj10 y359 t344).bind fun t362 => (if t362 = true then (some false) else ((impl_BranchesValid.f kj10 t343 0).bind fun t363 => (some (!t363))))) = some r := by first | (rw [hy359]; with_reducible exact H) | (have H2_ := (Option.bind_some _ _).symm.trans H; rw [hy359]; with_reducible exact H2_) | (have H2_ := (Option.bind_some _ _).symm.trans H; with_reducible exact H2_) | with_reducible exact H | (rw [hy359]; exact H) | exact H
          have Ny359 := Aside0.mk hy359
          clear hy359
          replace H := Option.bind_eq_some_iff.mp H
          obtain ⟨t362, A240, H⟩ := H
          replace H : (if t362 = true then (some false) else ((impl_BranchesValid.f kj10 t343 0).bind fun t363 => (some (!t363)))) = some r := H
          have A24 := Aside0.mk A240
          clear A240
          by_cases c25 : t362 = true
          ·subst c25
           have H1 : (some false) = some r := by rw [if_pos rfl] at H; exact H
           clear H
           have H := H1
           clear H1
           exact absurd H (by subst hrt; decide)
          ·replace c25 := Bool.eq_false_iff.mpr c25
           subst c25
           have H1 : ((impl_BranchesValid.f kj10 t343 0).bind fun t363 => (some (!t363))) = some r := by rw [if_neg (show ¬ (false = true) by decide)] at H; exact H
           clear H
           have H := H1
           clear H1
           replace H := Option.bind_eq_some_iff.mp H
           obtain ⟨t363, A330, H⟩ := H
           replace H : (some (!t363)) = some r := H
           have A33 := Aside0.mk A330
           clear A330
           obtain rfl := Option.some.inj H
           have q34 : (1 : Int) ≤ ((t343.length : Int) : Int) := of_decide_eq_true ma_
           obtain ⟨i034, hi034, _, hsz34, _⟩ := info_parts info35
           have hroom34 : t343.length ≤ co13 := (Kd.R_reads' HO_3.out).2.1
           have hC34 : Kd.C k35 _ Ao13 t343.length t343 := (Kd.R_reads' HO_3.out).2.2
           have hcut34 := cut_from (P := Try.prog) 30 35 .i64 Try.underlying30 hi034 2 hsz34 Ao13 t343.length co13 1 (by omega) q34
           have hr34 := Kd.C_drop (m := (1 : Int).toNat) (c := co13) hC34 (by omega) hroom34
           obtain ⟨A34, hA34⟩ : ∃ A1, A1 = (if co13 = (1 : Int).toNat then Ao13 else (Ao13 : Option Addr).map (·.add ((1 : Int).toNat * 2))) := ⟨_, rfl⟩
           obtain ⟨c34, hc34⟩ : ∃ c1, c1 = co13 - (1 : Int).toNat := ⟨_, rfl⟩
           have hy34 : y350.length = t343.length - (1 : Int).toNat := (by rw [Ny350.out, List.length_drop] <;> omega)
           rw [show (t343).drop (1 : Int).toNat = y350 from Ny350.out.symm] at hr34
           replace hr34 : Kd.C k35 _ A34 y350.length y350 := (by rw [hA34]; exact hr34)
           rw [← hy34, ← hA34, ← hc34] at hcut34
           have HR353 := Aside0.mk hr34
           have HC353 := Aside0.mk (show y350.length ≤ c34 from by rw [hy34, hc34]; exact Nat.sub_le_sub_right hroom34 _)
           clear hr34 hC34 hroom34 hi034 hsz34 hc34
           have KY34 := Aside0.mk hy34
           have KA34 := Aside0.mk hA34
           clear hy34 hA34
           have KL34 := Aside0.mk (show 1 ≤ t343.length from by omega)
           replace q34 := eq_true q34
           go_wp2_with (first | ((with_reducible refine gate_callee (f := 14) rfl ?_); refine goesL_ (some 33) rfl rfl Try.func14 (by kernel_rfl) rfl #[.slice A34 y350.length c34, .int .i64 t344] rfl sl_ ?_; (with_reducible refine (impl_BranchesValid.calls kj10 _ _ y350 t344 true _ ?side1 ?side2 A20.out).mono ?_); (case side1 => repeat (first | exact (by repeat (first | (with_reducible exact HR353.out) | (with_reducible refine Kd.C_alloc ?_ _) | (with_reducible refine Kd.C_drewN ?_ _) | (with_reducible refine Kd.C_drew ?_) | exact HR353.out)) | (with_reducible refine Kd.C_alloc ?_ _) | (with_reducible refine Kd.C_drewN ?_ _) | (with_reducible refine Kd.C_drew ?_))); (case side2 => exact HC353.out); rintro e w35 ⟨rfl, hb⟩; refine ⟨_, rfl, ?_⟩; replace HO_3 := Aside0.mk (Kd.R_below (kR_ HO_3.out) hb); replace HR353 := Aside0.mk (Kd.C_below (by repeat (first | (with_reducible exact HR353.out) | (with_reducible refine Kd.C_alloc ?_ _) | (with_reducible refine Kd.C_drewN ?_ _) | (with_reducible refine Kd.C_drew ?_) | exact HR353.out)) hb); replace HB := Aside0.mk (below_step hb_ hb); (try clear hb); (try clear hk); have p355 : 0 ≤ (0 : Int) := (by omega); have q355 : 0 < (t343.length : Int) := of_decide_eq_true ma_; obtain ⟨ad355, e355, hx355_0, hx355_1⟩ := at_T35 (Kd.R_reads' HO_3.out).2.2 0 p355 q355; cases e355; have qi355 : (0 < t343.length) = True := eq_true (by omega); (try rw [show ((0 : Int)).toNat = 0 from rfl] at hx355_0); (try rw [show 0 * 2 = 0 from rfl] at hx355_0); (try rw [Addr.add_zero'] at hx355_0); (try rw [show ((0 : Int)).toNat = 0 from rfl] at hx355_1); (try rw [show 0 * 2 = 0 from rfl] at hx355_1); (try rw [Addr.add_zero'] at hx355_1); replace p355 := eq_true p355; replace q355 := eq_true q355) | ((with_reducible refine gate_dst (N := 38) rfl ?_); (try (refine gate_guard (by rfl) ?_; dsimp only)); refine Kd.R_lit k35 _ 35 ?hg (N := 38) ?hd (xs := ([(⟨(rd_T35 t343 0).f0, (rd_T35 t343 0).f1⟩ : S35)] : List (S35))) (inner := [.string ((rd_T35 t343 0).f0), .int .i64 ((rd_T35 t343 0).f1)]) (ok := fun _ => True) (okp := fun _ => True) ?hr ?hp (fun _ hk => hk) trivial (Below.refl _ _) (Nat.le_refl _) (by simp) ?_; (case hd => rfl); (case hg => rfl); (case hr => first | (go_simp; done) | (go_simp; rfl)); (case hp => exact (Reps.c2 (show Kd.M k35 _ _ _ (⟨(rd_T35 t343 0).f0, (rd_T35 t343 0).f1⟩ : S35) [.string ((rd_T35 t343 0).f0), .int .i64 ((rd_T35 t343 0).f1)] from (k35_mkM _ _ _ (⟨(rd_T35 t343 0).f0, (rd_T35 t343 0).f1⟩ : S35) )) (Reps.none _ _))); intro v357 w36 ho37 hb hg_ hnew_; clear hg_ hnew_; (first | rw [← Ny356.out] at ho37 | (simp only [Int.reduceToNat] at ho37; rw [← Ny356.out] at ho37)); have HO358 := Aside0.mk (Kd.R_lower (Kd.R_new' ho37 (Kd.R_lt (kR_ HO_3.out))) (below_size hb_)); replace HO_3 := Aside0.mk (Kd.R_elder' (kR_ HO_3.out) (Kd.R_base ho37) hb); replace HR353 := Aside0.mk (Kd.C_below (by repeat (first | (with_reducible exact HR353.out) | (with_reducible refine Kd.C_alloc ?_ _) | (with_reducible refine Kd.C_drewN ?_ _) | (with_reducible refine Kd.C_drew ?_) | exact HR353.out)) hb); replace HB := Aside0.mk (below_step hb_ hb); clear hb ho37) | ((with_reducible refine gate_builtin (b := .append) (xs := #[.tmp 38, .tmp 39]) rfl ?_); (try (refine gate_guard (by rfl) ?_; dsimp only)); at_builtin; refine Kd.R_append_rows k35 (w0 := w) w.heap.size rfl (.tmp 38) (.tmp 39) 30 35 (.agg #[(.string ⟨#[]⟩), (.int .i64 0)]) 24 rfl Try.underlying30 info35 rfl (by decide) (by omega) v357 y356 t343 _ _ _ (fun k_ => some k_ ≠ (.slice (some ad355) t343.length co13 : Value).ownBlock) (fun _ => False) rfl rfl ?aO ?aR (fun _ _ h => h) (fun _ h => h.elim) ?aF ?aB ?aS ?aL ?_; (case aR => repeat (first | exact (Kd.R_reads' HO_3.out).2.2 | (with_reducible refine Kd.C_alloc ?_ _) | (with_reducible refine Kd.C_drewN ?_ _) | (with_reducible refine Kd.C_drew ?_))); (case aB => exact hb_); (case aF => exact (fun k_ hk => Kd.fresh' (Kd.R_lt (kR_ HO_3.out)) k_ hk)); (case aO => exact (by (with_reducible repeat (first | apply Kd.R_alloc | apply Kd.R_drewN | apply Kd.R_drew)); exact Kd.R_mono HO358.out (fun _ hk => hk.2))); (case aS => exact (below_size hb_)); (case aL => have := LMc23.out; omega); intro v360 w38 ho hb hg hat; rw [← Ny359.out] at ho; have n0_ := Aside0.mk (Kd.R_after (ok := (fun _ => True)) (kR_ HO_3.out) hg hat); have n1_ := Aside0.mk (hb); have n2_ := Aside0.mk ((show Kd.C k35 w38 A34 y350.length y350 from by rw [Ny350.out, KA34.out]; exact Kd.C_drop (m := 1) (c := co13) ((Kd.R_reads' (Kd.R_after (ok := (fun _ => True)) (kR_ HO_3.out) hg hat)).2.2) KL34.out ((Kd.R_reads' (Kd.R_after (ok := (fun _ => True)) (kR_ HO_3.out) hg hat)).2.1))); have n3_ := Aside0.mk (ho); clear HO_3; clear HB; clear HR353; clear HO358; have HO_3 := n0_; have HB := n1_; have HR353 := n2_; have HO361 := n3_; clear n0_ n1_ n2_ n3_; clear ho hb hg hat; obtain ⟨Ao39, co39, eo39⟩ := Kd.R_slice HO361.out; subst eo39) | (go_at_call 14; (with_reducible refine (impl_BranchesValid.calls kj10 _ _ y359 t344 false _ ?side1 ?side2 A24.out).mono ?_); (case side1 => exact kC_ ((Kd.R_reads' HO361.out).2.2)); (case side2 => exact (Kd.R_reads' HO361.out).2.1); rintro e w40 ⟨rfl, hb⟩; replace HO_3 := Aside0.mk (Kd.R_below (kR_ HO_3.out) hb); replace HO361 := Aside0.mk (Kd.R_below (kR_ HO361.out) hb); replace HR353 := Aside0.mk (Kd.C_below (by repeat (first | (with_reducible exact HR353.out) | (with_reducible refine Kd.C_alloc ?_ _) | (with_reducible refine Kd.C_drewN ?_ _) | (with_reducible refine Kd.C_drew ?_) | exact HR353.out)) hb); replace HB := Aside0.mk (below_step hb_ hb); (try clear hb); (try clear hk)) | (go_at_call 14; (with_reducible refine (impl_BranchesValid.calls kj10 _ _ t343 0 t363 _ ?side1 ?side2 A33.out).mono ?_); (case side1 => exact kC_ ((Kd.R_reads' HO_3.out).2.2)); (case side2 => exact (Kd.R_reads' HO_3.out).2.1); rintro e w41 ⟨rfl, hb⟩; replace HO_3 := Aside0.mk (Kd.R_below (kR_ HO_3.out) hb); replace HO361 := Aside0.mk (Kd.R_below (kR_ HO361.out) hb); replace HR353 := Aside0.mk (Kd.C_below (by repeat (first | (with_reducible exact HR353.out) | (with_reducible refine Kd.C_alloc ?_ _) | (with_reducible refine Kd.C_drewN ?_ _) | (with_reducible refine Kd.C_drew ?_) | exact HR353.out)) hb); replace HB := Aside0.mk (below_step hb_ hb); (try clear hb); (try clear hk)))
           go_ret
           exact ⟨er_, hb_⟩
         ·rw [if_neg c23] at H
          exact absurd H (by simp)
        ·rw [if_neg c22] at H
         exact absurd H (by simp)
       ·replace c21 := Bool.eq_false_iff.mpr c21
        subst c21
        have H1 : (some false) = some r := by rw [if_neg (show ¬ (false = true) by decide)] at H; exact H
        clear H
        have H := H1
        clear H1
        exact absurd H (by subst hrt; decide)
      ·rw [if_neg c19] at H
       exact absurd H (by simp)

/-- THE ONE PURE STATEMENT of laws_FnBranchesValid: yours. -/
def laws_FnBranchesValid.Pure : Prop := ∀ (l0 : List Int), l0.length ≤ maxLen → l0.length * 1 ≤ 140737488351232 → (∀ x ∈ l0, (Lit.int .u8 x).wf = true) → ∃ k, laws_FnBranchesValid.f k l0 = some true
theorem laws_FnBranchesValid.walk (P : laws_FnBranchesValid.Pure) (a0 : Option Addr) (len0 cap0 : Nat) (z0 : List Int) (w : World) (w0 : (a0 = none ∧ len0 = 0 ∧ cap0 = 0 ∧ z0 = []) ∨ ∃ x, a0 = some x ∧ len0 ≤ cap0 ∧ cap0 ≤ maxLen ∧ z0.length = cap0 ∧ (∀ i, i < z0.length → w.cell? (x.add i) = some (.int .u8 (z0.getD i 0))) ∧ ∀ n ∈ z0, (Lit.int .u8 n).wf = true) (y0 : len0 * 1 ≤ 140737488351232) :
  Calls Try.prog 4 #[.slice a0 len0 cap0] w fun e w' => e = .returned (.bool true) ∧ Below w.heap.size w w' := by
 obtain ⟨l0, rfl, hr0, hm0, hw0, hc0⟩ := ReadsInt.ofRowC w0
 obtain ⟨k, h⟩ := P l0 hm0 y0 hw0
 refine (laws_FnBranchesValid.calls k _ _ l0 true w (Kd.C_of_reads (d := (0 : Int)) (h1 := fun _ => rfl) hr0) hc0 h rfl).mono ?_
 rintro e w' ⟨rfl, hd⟩
 exact ⟨rfl, hd⟩
end Go.Proofs.Ytglfoihpgpdooab.P
