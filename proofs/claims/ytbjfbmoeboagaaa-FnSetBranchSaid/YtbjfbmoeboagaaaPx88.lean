-- The functions of the seat as plain Lean functions, made by the kit's print.py for all laws at once. Not trusted: Lean checks it.
import Derived.Test.YtbjfbmoeboagaaaPx0
import Derived.Test.YtbjfbmoeboagaaaPx32
import Derived.Test.YtbjfbmoeboagaaaPx36
import Derived.Test.YtbjfbmoeboagaaaPx74
import Derived.Test.YtbjfbmoeboagaaaPx87
namespace Go.Proofs.Ytbjfbmoeboagaaa.P
open Go.RowKit Go.Proofs.YtbjfbmoeboagaaaW.PrintWords Go.Proofs.YtbjfbmoeboagaaaW.PrintLast Go.Proofs.YtbjfbmoeboagaaaW.PrintMore
attribute [local go_sem] max2_int min2_int max_two min_two max_three min_three max_four min_four   -- for this text's walks alone
set_option linter.unusedVariables false
set_option linter.unusedSimpArgs false

/-! ### impl_SetBranch: function 57 -/
def impl_SetBranch.j0 : Nat → List (S64) → Int → List (S64) → Option ((List (S64)) × Bool)
  | 0, _, _, _ => none
  | k + 1, x0, x1, x8 => (impl_BranchesValid.f k x8 x1).bind fun t795 => (if t795 = true then (some (x8, true)) else ((slices_Clone_Branch.f x0).bind fun t796 => (some (t796, false))))
def impl_SetBranch.f (k : Nat) (l0 : List (S64)) (a1 : Int) (a2_0 : ByteArray) (a2_1 : Int) : Option ((List (S64)) × Bool) := (impl_BranchesValid.f k l0 a1).bind fun t782 => (if t782 = true then ((slices_Clone_Branch.f l0).bind fun t783 => ((impl_findBranch.f k t783 a2_0).bind fun bt786 => (if bt786.2 = true then (if 0 ≤ bt786.1 then (if bt786.1 < (t783.length : Int) then (impl_SetBranch.j0 k l0 a1 (t783.set (bt786.1 : Int).toNat (⟨a2_0, a2_1⟩ : S64))) else (none)) else (none)) else ((slices_Insert_Branch.f t783 bt786.1 (([(⟨a2_0, a2_1⟩ : S64)] : List (S64)))).bind fun t792 => (impl_SetBranch.j0 k l0 a1 t792))))) else (some (([] : List (S64)), false)))
theorem impl_SetBranch.mono_l : ∀ k, (∀ y0 y1 y2, LeO (impl_SetBranch.j0 k y0 y1 y2) (impl_SetBranch.j0 (k + 1) y0 y1 y2))
  | 0 => fun _ _ _ r h => by simp [impl_SetBranch.j0] at h
  | k + 1 => by
    have ih0 := impl_SetBranch.mono_l k
    · intro y0 y1 y2
      unfold impl_SetBranch.j0
      repeat' first
      | (with_reducible exact ih0 _ _ _)
      | (with_reducible exact impl_BranchesValid.mono _ _ _)
      | (with_reducible exact impl_findBranch.mono _ _ _)
      | (with_reducible exact LeO.refl _)
      | (with_reducible exact LeO.none _)
      | (with_reducible refine LeO.ite ?_ ?_)
      | (with_reducible refine LeO.bind ?_ (fun _ => ?_))
      | exact ih0 _ _ _
      | exact impl_BranchesValid.mono _ _ _
      | exact impl_findBranch.mono _ _ _
      | exact LeO.none _
      | refine LeO.ite ?_ ?_
      | refine LeO.bind ?_ (fun _ => ?_)
theorem impl_SetBranch.mono : ∀ a0 a1 a2 a3 k, LeO (impl_SetBranch.f k a0 a1 a2 a3) (impl_SetBranch.f (k + 1) a0 a1 a2 a3) := by
  intro a0 a1 a2 a3 k
  have ih0 := impl_SetBranch.mono_l k
  unfold impl_SetBranch.f
  repeat' first
      | (with_reducible exact ih0 _ _ _)
      | (with_reducible exact impl_BranchesValid.mono _ _ _)
      | (with_reducible exact impl_findBranch.mono _ _ _)
      | (with_reducible exact LeO.refl _)
      | (with_reducible exact LeO.none _)
      | (with_reducible refine LeO.ite ?_ ?_)
      | (with_reducible refine LeO.bind ?_ (fun _ => ?_))
      | exact ih0 _ _ _
      | exact impl_BranchesValid.mono _ _ _
      | exact impl_findBranch.mono _ _ _
      | exact LeO.none _
      | refine LeO.ite ?_ ?_
      | refine LeO.bind ?_ (fun _ => ?_)
set_option maxHeartbeats 8000000 in
set_option maxRecDepth 100000 in
theorem impl_SetBranch.calls (k : Nat) (A0 : Option Addr) (c0 : Nat) (l0 : List (S64)) (a1 : Int) (a2_0 : ByteArray) (a2_1 : Int) (r1 : List (S64)) (r2 : Bool) (w : World) (hr0 : Kd.C k64 w A0 l0.length l0) (hc0 : l0.length ≤ c0) (h : impl_SetBranch.f k l0 a1 a2_0 a2_1 = some (r1, r2)) :
    Calls Try.prog 57 #[.slice A0 l0.length c0, .int .i64 a1, .agg #[.string a2_0, .int .i64 a2_1]] w fun e w' => ∃ v0_ : Value, e = .returned (.tuple #[v0_, .bool r2]) ∧ Kd.R k64 64 w' w.heap.size (fun _ => True) v0_ r1 ∧ Below w.heap.size w w' := by
  have hu64 := Try.underlying64
  have HR0 := Aside0.mk hr0
  have HC0 := Aside0.mk hc0
  clear hr0 hc0
  have HB := Aside0.mk (Below.refl w.heap.size w)
  have H : ((impl_BranchesValid.f k l0 a1).bind fun t782 => (if t782 = true then ((slices_Clone_Branch.f l0).bind fun t783 => ((impl_findBranch.f k t783 a2_0).bind fun bt786 => (if bt786.2 = true then (if 0 ≤ bt786.1 then (if bt786.1 < (t783.length : Int) then (impl_SetBranch.j0 k l0 a1 (t783.set (bt786.1 : Int).toNat (⟨a2_0, a2_1⟩ : S64))) else (none)) else (none)) else ((slices_Insert_Branch.f t783 bt786.1 (([(⟨a2_0, a2_1⟩ : S64)] : List (S64)))).bind fun t792 => (impl_SetBranch.j0 k l0 a1 t792))))) else (some (([] : List (S64)), false)))) = some (r1, r2) := h
  clear h
  replace H := Option.bind_eq_some_iff.mp H
  obtain ⟨t782, A40, H⟩ := H
  replace H : (if t782 = true then ((slices_Clone_Branch.f l0).bind fun t783 => ((impl_findBranch.f k t783 a2_0).bind fun bt786 => (if bt786.2 = true then (if 0 ≤ bt786.1 then (if bt786.1 < (t783.length : Int) then (impl_SetBranch.j0 k l0 a1 (t783.set (bt786.1 : Int).toNat (⟨a2_0, a2_1⟩ : S64))) else (none)) else (none)) else ((slices_Insert_Branch.f t783 bt786.1 (([(⟨a2_0, a2_1⟩ : S64)] : List (S64)))).bind fun t792 => (impl_SetBranch.j0 k l0 a1 t792))))) else (some (([] : List (S64)), false))) = some (r1, r2) := H
  have A4 := Aside0.mk A40
  clear A40
  by_cases c5 : t782 = true
  · subst c5
    have H1 : ((slices_Clone_Branch.f l0).bind fun t783 => ((impl_findBranch.f k t783 a2_0).bind fun bt786 => (if bt786.2 = true then (if 0 ≤ bt786.1 then (if bt786.1 < (t783.length : Int) then (impl_SetBranch.j0 k l0 a1 (t783.set (bt786.1 : Int).toNat (⟨a2_0, a2_1⟩ : S64))) else (none)) else (none)) else ((slices_Insert_Branch.f t783 bt786.1 (([(⟨a2_0, a2_1⟩ : S64)] : List (S64)))).bind fun t792 => (impl_SetBranch.j0 k l0 a1 t792))))) = some (r1, r2) := by rw [if_pos rfl] at H; exact H
    clear H
    have H := H1
    clear H1
    replace H := Option.bind_eq_some_iff.mp H
    obtain ⟨t783, A60, H⟩ := H
    replace H : ((impl_findBranch.f k t783 a2_0).bind fun bt786 => (if bt786.2 = true then (if 0 ≤ bt786.1 then (if bt786.1 < (t783.length : Int) then (impl_SetBranch.j0 k l0 a1 (t783.set (bt786.1 : Int).toNat (⟨a2_0, a2_1⟩ : S64))) else (none)) else (none)) else ((slices_Insert_Branch.f t783 bt786.1 (([(⟨a2_0, a2_1⟩ : S64)] : List (S64)))).bind fun t792 => (impl_SetBranch.j0 k l0 a1 t792)))) = some (r1, r2) := H
    have A6 := Aside0.mk A60
    clear A60
    replace H := Option.bind_eq_some_iff.mp H
    obtain ⟨⟨t786, t787⟩, A70, H⟩ := H
    replace H : (if t787 = true then (if 0 ≤ t786 then (if t786 < (t783.length : Int) then (impl_SetBranch.j0 k l0 a1 (t783.set (t786 : Int).toNat (⟨a2_0, a2_1⟩ : S64))) else (none)) else (none)) else ((slices_Insert_Branch.f t783 t786 (([(⟨a2_0, a2_1⟩ : S64)] : List (S64)))).bind fun t792 => (impl_SetBranch.j0 k l0 a1 t792))) = some (r1, r2) := H
    have A7 := Aside0.mk A70
    clear A70
    have HC8 := Aside0.mk H
    clear H
    go_enter Try.func57, Try.ntmps57
    go_upto_if 24 with (first | ((with_reducible refine gate_dst (N := 5) rfl ?_); refine box_event ?hg (N := 5) ?hd (cs := #[.string a2_0, .int .i64 a2_1]) (t := 64) ?hr ?_; (case hd => rfl); (case hg => rfl); (case hr => first | (go_simp; done) | (go_simp; rfl)); intro gb781 hg w9 hbox hb; have n0_ := Aside0.mk (below_step (by repeat (first | (with_reducible first | exact HB.out | apply below_alloc | apply pw_below_drewN | apply below_drew1) | exact HB.out)) hb); have n1_ := Aside0.mk (hbox); have n2_ := Aside0.mk ((by rw [hg]; exact (below_size (by repeat (first | (with_reducible first | exact HB.out | apply below_alloc | apply pw_below_drewN | apply below_drew1) | exact HB.out))) : w.heap.size ≤ gb781)); have n3_ := Aside0.mk ((by rw [hg]; exact (below_size (by repeat (first | (with_reducible first | exact HB.out | apply below_alloc | apply pw_below_drewN | apply below_drew1) | exact HB.out))) : w.heap.size ≤ gb781)); clear HB; have HB := n0_; have BK781 := n1_; have GW781 := n2_; have GE781 := n3_; clear n0_ n1_ n2_ n3_; clear hb hbox hg) | ((with_reducible refine gate_callee (f := 47) rfl ?_); refine goesL_ (some 13) rfl rfl Try.func47 (by kernel_rfl) rfl #[.slice A0 l0.length c0, .int .i64 a1] rfl (by (try simp only [List.map_toArray, List.map_cons, List.map_nil]); first | done | rfl | (simp only [List.length_drop, List.length_take]; rfl)) ?_; (with_reducible refine (impl_BranchesValid.calls k _ _ l0 a1 true _ ?side1 ?side2 A4.out).mono ?_); (case side1 => repeat (first | exact (Kd.C_below HR0.out HB.out) | (with_reducible refine Kd.C_alloc ?_ _) | (with_reducible refine Kd.C_drewN ?_ _) | (with_reducible refine Kd.C_drew ?_))); (case side2 => exact HC0.out); rintro e w10 ⟨rfl, hb⟩; refine ⟨_, rfl, ?_⟩; have n0_ := Aside0.mk (blk_below (g := gb781) (o := .cells #[.string a2_0, .int .i64 a2_1] 64 (0, 0)) (by (with_reducible repeat (first | refine blk_drewN ?_ _ | refine blk_drew ?_ | refine blk_alloc ?_ _)); exact BK781.out) hb); have n1_ := Aside0.mk (below_step (by repeat (first | (with_reducible first | exact HB.out | apply below_alloc | apply pw_below_drewN | apply below_drew1 | refine below_set ?_ GE781.out) | exact HB.out)) hb); clear BK781; clear HB; have BK781 := n0_; have HB := n1_; clear n0_ n1_; (try clear hb); (try clear hb2); (try clear hk); (try clear hi)) | ((with_reducible refine gate_callee (f := 77) rfl ?_); refine goesL_ (some 16) rfl rfl Try.func77 (by kernel_rfl) rfl #[.slice A0 l0.length c0] rfl (by (try simp only [List.map_toArray, List.map_cons, List.map_nil]); first | done | rfl | (simp only [List.length_drop, List.length_take]; rfl)) ?_; (with_reducible refine (slices_Clone_Branch.calls _ _ l0 t783 _ ?side1 ?side2 A6.out).mono ?_); (case side1 => repeat (first | exact (Kd.C_below HR0.out HB.out) | (with_reducible refine Kd.C_alloc ?_ _) | (with_reducible refine Kd.C_drewN ?_ _) | (with_reducible refine Kd.C_drew ?_))); (case side2 => exact HC0.out); rintro e w11 ⟨v784, rfl, ho0, hb⟩; refine ⟨_, rfl, ?_⟩; have n0_ := Aside0.mk (Kd.R_lower (Kd.R_newB ho0 (g := gb781) (o := .cells #[.string a2_0, .int .i64 a2_1] 64 (0, 0)) (by (with_reducible repeat (first | refine blk_drewN ?_ _ | refine blk_drew ?_ | refine blk_alloc ?_ _)); exact BK781.out)) (below_size (by repeat (first | (with_reducible first | exact HB.out | apply below_alloc | apply pw_below_drewN | apply below_drew1 | refine below_set ?_ GE781.out) | exact HB.out)))); have n1_ := Aside0.mk (blk_below (g := gb781) (o := .cells #[.string a2_0, .int .i64 a2_1] 64 (0, 0)) (by (with_reducible repeat (first | refine blk_drewN ?_ _ | refine blk_drew ?_ | refine blk_alloc ?_ _)); exact BK781.out) hb); have n2_ := Aside0.mk (below_step (by repeat (first | (with_reducible first | exact HB.out | apply below_alloc | apply pw_below_drewN | apply below_drew1 | refine below_set ?_ GE781.out) | exact HB.out)) hb); clear BK781; clear HB; have HO785 := n0_; have BK781 := n1_; have HB := n2_; clear n0_ n1_ n2_; (try clear hb); (try clear hb2); (try clear hk); (try clear hi); (try clear ho0); have hcz12_0 : w11.cell? ⟨gb781, 0, none⟩ = some (.string a2_0) := (blk_cell BK781.out 0).trans rfl; have hcz12_1 : w11.cell? ⟨gb781, 1, none⟩ = some (.int .i64 a2_1) := (blk_cell BK781.out 1).trans rfl; have hfz12_0 := blk_frozen BK781.out 0; have hfz12_1 := blk_frozen BK781.out 1; obtain ⟨Ao13, co13, eo13⟩ := Kd.R_slice HO785.out; subst eo13) | ((with_reducible refine gate_callee (f := 69) rfl ?_); refine goesL_ (some 21) rfl rfl Try.func69 (by kernel_rfl) rfl #[.slice Ao13 t783.length co13, .string a2_0] rfl (by (try simp only [List.map_toArray, List.map_cons, List.map_nil]); first | done | rfl | (simp only [List.length_drop, List.length_take]; rfl)) ?_; (with_reducible refine (impl_findBranch.calls k _ _ t783 a2_0 t786 t787 _ ?side1 ?side2 A7.out).mono ?_); (case side1 => repeat (first | exact (Kd.R_reads' HO785.out).2.2 | (with_reducible refine Kd.C_alloc ?_ _) | (with_reducible refine Kd.C_drewN ?_ _) | (with_reducible refine Kd.C_drew ?_))); (case side2 => exact (Kd.R_reads' HO785.out).2.1); rintro e w14 ⟨rfl, hb⟩; refine ⟨_, rfl, ?_⟩; have n0_ := Aside0.mk (Kd.R_below (by (with_reducible repeat (first | apply Kd.R_alloc | apply Kd.R_drewN | apply Kd.R_drew)); exact HO785.out) hb); have n1_ := Aside0.mk (blk_below (g := gb781) (o := .cells #[.string a2_0, .int .i64 a2_1] 64 (0, 0)) (by (with_reducible repeat (first | refine blk_drewN ?_ _ | refine blk_drew ?_ | refine blk_alloc ?_ _)); exact BK781.out) hb); have n2_ := Aside0.mk (below_step (by repeat (first | (with_reducible first | exact HB.out | apply below_alloc | apply pw_below_drewN | apply below_drew1 | refine below_set ?_ GE781.out) | exact HB.out)) hb); clear HO785; clear BK781; clear HB; have HO785 := n0_; have BK781 := n1_; have HB := n2_; clear n0_ n1_ n2_; (try clear hb); (try clear hb2); (try clear hk); (try clear hi)))
    (try simp only [Act.put, List.setIfInBounds_toArray, List.set_cons_zero, List.set_cons_succ])
    go_cut [8] (fun v8 wc => ∃ (kq : Nat) (x8_7 : List (S64)) (x782000_7 : ByteArray) (x782001_7 : Int), Aside0 (impl_SetBranch.j0 kq l0 a1 x8_7 = some (r1, r2)) ∧ Aside0 (kq ≤ k) ∧ Aside0 (Kd.R k64 64 wc w.heap.size (fun k_ => k_ ≠ gb781) v8 x8_7) ∧ Aside0 (wc.heap[gb781]? = some (.cells #[.string x782000_7, .int .i64 x782001_7] 64 (0, 0))) ∧ Aside0 (Below w.heap.size w wc))
    case first =>
      have H := HC8.out
      clear HC8
      by_cases c15 : t787 = true
      · subst c15
        have H1 : (if 0 ≤ t786 then (if t786 < (t783.length : Int) then (impl_SetBranch.j0 k l0 a1 (t783.set (t786 : Int).toNat (⟨a2_0, a2_1⟩ : S64))) else (none)) else (none)) = some (r1, r2) := by rw [if_pos rfl] at H; exact H
        clear H
        have H := H1
        clear H1
        by_cases c16 : 0 ≤ t786
        · rw [if_pos c16] at H
          have c16b0 : decide (0 ≤ t786) = true := decide_eq_true c16
          clear c16
          (first | rw [c16b0] | (simp only [i64_w, i32_w]; rw [c16b0]) | skip)
          by_cases c17 : t786 < (t783.length : Int)
          · rw [if_pos c17] at H
            have c17b0 : decide (t786 < (t783.length : Int)) = true := decide_eq_true c17
            clear c17
            obtain ⟨y788, hy788⟩ : ∃ y_ : List (S64), y_ = (t783.set (t786 : Int).toNat (⟨a2_0, a2_1⟩ : S64)) := ⟨_, rfl⟩
            replace H : (impl_SetBranch.j0 k l0 a1 y788) = some (r1, r2) := by first | (rw [hy788]; with_reducible exact H) | (have H2_ := (Option.bind_some _ _).symm.trans H; rw [hy788]; with_reducible exact H2_) | (have H2_ := (Option.bind_some _ _).symm.trans H; with_reducible exact H2_) | with_reducible exact H | (rw [hy788]; exact H) | exact H
            have Ny788 := Aside0.mk hy788
            clear hy788
            have H' := Aside0.mk H
            clear H
            have hcz19_0 : w14.cell? ⟨gb781, 0, none⟩ = some (.string a2_0) := (blk_cell BK781.out 0).trans rfl
            have hcz19_1 : w14.cell? ⟨gb781, 1, none⟩ = some (.int .i64 a2_1) := (blk_cell BK781.out 1).trans rfl
            have hfz19_0 := blk_frozen BK781.out 0
            have hfz19_1 := blk_frozen BK781.out 1
            have p18 : 0 ≤ (t786 : Int) := of_decide_eq_true (by first | (with_reducible assumption) | assumption)
            have q18 : (t786 : Int) < ((t783.length : Int) : Int) := of_decide_eq_true (by first | (with_reducible assumption) | assumption)
            obtain ⟨go18, co18, eo18, gb18, gl18, cl18, HG18⟩ := Kd.R_form HO785.out (by omega)
            (first | cases eo18 | (injection eo18 with ea_ en_ ec_; (first | subst ea_ | (injection ea_ with ea_; subst ea_)); subst ec_; clear en_))
            have GB18 := Aside0.mk gb18
            have GG18 := Aside0.mk HG18
            clear gb18 gl18 HG18
            obtain ⟨ce18, hcl18, hM18, hcc18, hfr18⟩ := Kd.R_elem HO785.out z64 (t786 : Int) p18 q18
            obtain rfl := k64_openM hM18
            have hx18_0 : w14.cell? ⟨go18, (t786 : Int).toNat * 2, none⟩ = some (.string ((rd_T64 t783 t786).f0)) := hcc18 0 _ rfl
            have hx18_1 : w14.cell? ⟨go18, (t786 : Int).toNat * 2 + 1, none⟩ = some (.int .i64 ((rd_T64 t783 t786).f1)) := hcc18 1 _ rfl
            have hf18_0 : w14.frozen? ⟨go18, (t786 : Int).toNat * 2, none⟩ = false := hfr18 0
            have hf18_1 : w14.frozen? ⟨go18, (t786 : Int).toNat * 2 + 1, none⟩ = false := hfr18 1
            clear hcl18 hcc18 hfr18 hM18
            replace p18 := eq_true p18
            replace q18 := eq_true q18
            have n_ := Aside0.mk (Kd.R_mono (ok' := (fun k_ => k_ ≠ gb781)) HO785.out (fun k_ hk => hk.2))
            clear HO785
            have HO785 := n_
            clear n_
            have HX20 := Aside0.mk (show Kd.R k64 64 w14 w.heap.size (fun k_ => k_ ≠ gb781) (.slice (some ⟨go18, 0, none⟩) t783.length co13) t783 from (by (with_reducible repeat (first | apply Kd.R_alloc | apply Kd.R_drewN | apply Kd.R_drew)); exact HO785.out))
            obtain ⟨ce20, hcl20, hM20, hcc20, hfr20⟩ := Kd.R_elem HX20.out z64 (t786 : Int) (of_decide_eq_true (by first | (with_reducible assumption) | assumption)) (by have h_ : (t786 : Int) < ((t783.length : Int) : Int) := of_decide_eq_true (by first | (with_reducible assumption) | assumption); first | exact h_ | (have e_ := (Kd.R_reads' HO785.out).1; omega) | simpa using h_)
            obtain rfl := k64_openM hM20
            have HP20 := Kd.R_seg HX20.out (t786 : Int) (of_decide_eq_true (by first | (with_reducible assumption) | assumption)) (by have h_ : (t786 : Int) < ((t783.length : Int) : Int) := of_decide_eq_true (by first | (with_reducible assumption) | assumption); first | exact h_ | (have e_ := (Kd.R_reads' HO785.out).1; omega) | simpa using h_) (seg := [.string a2_0, .int .i64 a2_1]) (j := 0) hcl20 hcc20 (show 2 ≤ 2 from by decide) (x' := (⟨a2_0, a2_1⟩ : S64)) (k64_mkM _ _ _ (⟨a2_0, a2_1⟩ : S64) ) (fun _ hk => hk)
            have hx20_0 := hcc20 0 _ rfl
            (try simp only [show (k64).sz = 2 from rfl, Nat.mul_one, Nat.add_zero] at hx20_0)
            have hf20_0 := hfr20 0
            (try simp only [show (k64).sz = 2 from rfl, Nat.mul_one, Nat.add_zero] at hf20_0)
            have hx20_1 := hcc20 1 _ rfl
            (try simp only [show (k64).sz = 2 from rfl, Nat.mul_one, Nat.add_zero] at hx20_1)
            have hf20_1 := hfr20 1
            (try simp only [show (k64).sz = 2 from rfl, Nat.mul_one, Nat.add_zero] at hf20_1)
            clear hcl20 hcc20 hfr20 hM20
            go_wp2_with (first | ((with_reducible refine gate_store (t := 64) (p := 28) rfl ?_); refine store_event (t := 64) (p := 28) (v := ?vo_w21) (w1 := ((w14.setCell ⟨go18, (t786 : Int).toNat * 2, none⟩ (.string a2_0)).setCell ⟨go18, (t786 : Int).toNat * 2 + 1, none⟩ (.int .i64 a2_1))) ?hg ?ho ?hn ?hr ?_; (case ho => rfl); (case hg => rfl); (case hn => rfl); (case hr => first | (go_simp; done) | (go_simp; rfl)); intro w21 hw; have hg : w14.grownBy w21 (some go18) := (by rw [hw]; exact HP20.2); have hp_ : Kd.R k64 64 w21 w.heap.size (fun k_ => k_ ≠ gb781) (.slice (some ⟨go18, 0, none⟩) t783.length co13) y788 := (by rw [hw, Ny788.out]; exact HP20.1); clear HP20; have n0_ := Aside0.mk (blk_grown (g := gb781) (o := .cells #[.string a2_0, .int .i64 a2_1] 64 (0, 0)) (by (with_reducible repeat (first | refine blk_drewN ?_ _ | refine blk_drew ?_ | refine blk_alloc ?_ _)); exact BK781.out) hg (Kd.R_away HO785.out (fun _ hk => hk))); have n1_ := Aside0.mk (hp_); have n2_ := Aside0.mk ((by rw [hw]; exact below_set (below_set (HB.out) GB18.out) GB18.out : Below w.heap.size w w21)); clear BK781; clear HO785; clear HB; have BK781 := n0_; have HO785 := n1_; have HB := n2_; clear n0_ n1_ n2_; clear hg hw hp_))
            go_meet
            case rel => exact ⟨_, (y788), (a2_0), (a2_1), H', ⟨by first | omega | exact Nat.le_refl _⟩, ⟨by (with_reducible repeat (first | apply Kd.R_alloc | apply Kd.R_drewN | apply Kd.R_drew)); exact HO785.out⟩, ⟨by (with_reducible repeat (first | refine blk_drewN ?_ _ | refine blk_drew ?_ | refine blk_alloc ?_ _)); exact BK781.out⟩, ⟨by repeat (first | (with_reducible first | exact HB.out | apply below_alloc | apply pw_below_drewN | apply below_drew1 | refine below_set ?_ GE781.out) | exact HB.out)⟩⟩
          · rw [if_neg c17] at H
            exact absurd H (by simp)
        · rw [if_neg c16] at H
          exact absurd H (by simp)
      · replace c15 := Bool.eq_false_iff.mpr c15
        subst c15
        have H1 : ((slices_Insert_Branch.f t783 t786 (([(⟨a2_0, a2_1⟩ : S64)] : List (S64)))).bind fun t792 => (impl_SetBranch.j0 k l0 a1 t792)) = some (r1, r2) := by rw [if_neg (show ¬ (false = true) by decide)] at H; exact H
        clear H
        have H := H1
        clear H1
        obtain ⟨y789, hy789⟩ : ∃ y_ : List (S64), y_ = (([(⟨a2_0, a2_1⟩ : S64)] : List (S64))) := ⟨_, rfl⟩
        replace H : ((slices_Insert_Branch.f t783 t786 y789).bind fun t792 => (impl_SetBranch.j0 k l0 a1 t792)) = some (r1, r2) := by first | (rw [hy789]; with_reducible exact H) | (have H2_ := (Option.bind_some _ _).symm.trans H; rw [hy789]; with_reducible exact H2_) | (have H2_ := (Option.bind_some _ _).symm.trans H; with_reducible exact H2_) | with_reducible exact H | (rw [hy789]; exact H) | exact H
        have Ny789 := Aside0.mk hy789
        clear hy789
        replace H := Option.bind_eq_some_iff.mp H
        obtain ⟨t792, A220, H⟩ := H
        replace H : (impl_SetBranch.j0 k l0 a1 t792) = some (r1, r2) := H
        have A22 := Aside0.mk A220
        clear A220
        have H' := Aside0.mk H
        clear H
        have hcz23_0 : w14.cell? ⟨gb781, 0, none⟩ = some (.string a2_0) := (blk_cell BK781.out 0).trans rfl
        have hcz23_1 : w14.cell? ⟨gb781, 1, none⟩ = some (.int .i64 a2_1) := (blk_cell BK781.out 1).trans rfl
        have hfz23_0 := blk_frozen BK781.out 0
        have hfz23_1 := blk_frozen BK781.out 1
        go_wp2_with (first | ((with_reducible refine gate_dst (N := 32) rfl ?_); refine Kd.R_lit k64 _ 64 ?hg (N := 32) ?hd (xs := ([(⟨a2_0, a2_1⟩ : S64)] : List (S64))) (inner := [.string a2_0, .int .i64 a2_1]) (ok := fun _ => True) (okp := fun _ => True) ?hr ?hp (fun _ hk => hk) trivial (Below.refl _ _) (Nat.le_refl _) (by simp) ?_; (case hd => rfl); (case hg => rfl); (case hr => first | (go_simp; done) | (go_simp; rfl)); (case hp => exact (Reps.c2 (show Kd.M k64 _ _ _ (⟨a2_0, a2_1⟩ : S64) [.string a2_0, .int .i64 a2_1] from (k64_mkM _ _ _ (⟨a2_0, a2_1⟩ : S64) )) (Reps.none _ _))); intro v790 w24 ho25 hb hg_ hnew_; clear hg_ hnew_; (first | rw [← Ny789.out] at ho25 | (simp only [Int.reduceToNat] at ho25; rw [← Ny789.out] at ho25)); have n0_ := Aside0.mk (Kd.R_elder' (by (with_reducible repeat (first | apply Kd.R_alloc | apply Kd.R_drewN | apply Kd.R_drew)); exact HO785.out) (Kd.R_base ho25) hb); have n1_ := Aside0.mk (Kd.R_lower (Kd.R_newB (Kd.R_new' ho25 (Kd.R_lt (by (with_reducible repeat (first | apply Kd.R_alloc | apply Kd.R_drewN | apply Kd.R_drew)); exact HO785.out))) (g := gb781) (o := .cells #[.string a2_0, .int .i64 a2_1] 64 (0, 0)) (by (with_reducible repeat (first | refine blk_drewN ?_ _ | refine blk_drew ?_ | refine blk_alloc ?_ _)); exact BK781.out)) (below_size (by repeat (first | (with_reducible first | exact HB.out | apply below_alloc | apply pw_below_drewN | apply below_drew1 | refine below_set ?_ GE781.out) | exact HB.out)))); have n2_ := Aside0.mk (blk_below (g := gb781) (o := .cells #[.string a2_0, .int .i64 a2_1] 64 (0, 0)) (by (with_reducible repeat (first | refine blk_drewN ?_ _ | refine blk_drew ?_ | refine blk_alloc ?_ _)); exact BK781.out) hb); have n3_ := Aside0.mk (below_step (by repeat (first | (with_reducible first | exact HB.out | apply below_alloc | apply pw_below_drewN | apply below_drew1 | refine below_set ?_ GE781.out) | exact HB.out)) hb); clear HO785; clear BK781; clear HB; have HO785 := n0_; have HO791 := n1_; have BK781 := n2_; have HB := n3_; clear n0_ n1_ n2_ n3_; clear hb ho25; obtain ⟨Ao26, co26, eo26⟩ := Kd.R_slice HO791.out; subst eo26) | ((with_reducible refine gate_callee (f := 79) rfl ?_); refine goesL_ (some 33) rfl rfl Try.func79 (by kernel_rfl) rfl #[.slice Ao13 t783.length co13, .int .i64 t786, .slice Ao26 y789.length co26] rfl (by (try simp only [List.map_toArray, List.map_cons, List.map_nil]); first | done | rfl | (simp only [List.length_drop, List.length_take]; rfl)) ?_; (with_reducible refine (slices_Insert_Branch.calls (fun k_ => some k_ = (.slice Ao13 t783.length co13 : Value).ownBlock) (.slice Ao13 t783.length co13) t783 t786 (fun k_ => some k_ = (.slice Ao26 y789.length co26 : Value).ownBlock) (.slice Ao26 y789.length co26) y789 t792 w _ ?side1 ?side2 ?side3 ?side4 ?side5 A22.out).mono ?_); (case side1 => repeat (first | (with_reducible first | exact HB.out | apply below_alloc | apply pw_below_drewN | apply below_drew1 | refine below_set ?_ GE781.out) | exact HB.out)); (case side2 => exact Kd.R_tight rfl HO785.out); (case side3 => exact fun k_ e_ => (HO785.out.1 k_ e_.symm).2); (case side4 => exact Kd.R_tight rfl HO791.out); (case side5 => exact fun k_ e_ => (HO791.out.1 k_ e_.symm).1.2); rintro e w27 ⟨v793, rfl, ho0, hb, hkp⟩; refine ⟨_, rfl, ?_⟩; have n0_ := Aside0.mk (blk_kept (by (with_reducible repeat (first | refine blk_drewN ?_ _ | refine blk_drew ?_ | refine blk_alloc ?_ _)); exact BK781.out) hkp (fun hs_ => Or.elim hs_ (fun e_ => (fun e_ => (Kd.R_away HO785.out (fun _ hk => hk.1.2)) e_) e_) (fun e_ => (fun e_ => (Kd.R_away HO791.out (fun _ hk => hk.2)) e_) e_))); have n1_ := Aside0.mk (Kd.R_mono (ok' := fun k_ => k_ ≠ gb781) ho0 (fun k_ hk_ => Or.elim hk_ (fun hs_ => Or.elim hs_ (fun hs_ => fun e_ => (Kd.R_away HO785.out (fun _ hk => hk.1.2)) (by rw [← e_]; exact hs_)) (fun hs_ => fun e_ => (Kd.R_away HO791.out (fun _ hk => hk.2)) (by rw [← e_]; exact hs_))) (fun hn_ => (Kd.freshB (g := gb781) (o := .cells #[.string a2_0, .int .i64 a2_1] 64 (0, 0)) (by (with_reducible repeat (first | refine blk_drewN ?_ _ | refine blk_drew ?_ | refine blk_alloc ?_ _)); exact BK781.out) k_ hn_)))); have n2_ := Aside0.mk (hb); clear BK781; clear HB; clear HO785; clear HO791; have BK781 := n0_; have HO794 := n1_; have HB := n2_; clear n0_ n1_ n2_; (try clear hb); (try clear hkp); (try clear ho0)))
        go_meet
        case rel => exact ⟨_, (t792), (a2_0), (a2_1), H', ⟨by first | omega | exact Nat.le_refl _⟩, ⟨by (with_reducible repeat (first | apply Kd.R_alloc | apply Kd.R_drewN | apply Kd.R_drew)); exact HO794.out⟩, ⟨by (with_reducible repeat (first | refine blk_drewN ?_ _ | refine blk_drew ?_ | refine blk_alloc ?_ _)); exact BK781.out⟩, ⟨by repeat (first | (with_reducible first | exact HB.out | apply below_alloc | apply pw_below_drewN | apply below_drew1 | refine below_set ?_ GE781.out) | exact HB.out)⟩⟩
    case rest =>
      clear HC8
      try clear c1
      try clear p1
      try clear q1
      try clear hx1
      try clear c2
      try clear p2
      try clear hx2
      try clear c4
      try clear c5
      try clear c6
      try clear c7
      try clear c15
      try clear c16
      try clear c16b0
      try clear c17
      try clear c17b0
      try clear c18
      try clear p18
      try clear q18
      try clear hx18
      try clear hf18
      try clear c20
      try clear hx20
      try clear hf20
      try clear hcz12_0
      try clear hcz12_1
      try clear hcz19_0
      try clear hcz19_1
      try clear hcz23_0
      try clear hcz23_1
      try clear hfz12_0
      try clear hfz12_1
      try clear hfz19_0
      try clear hfz19_1
      try clear hfz23_0
      try clear hfz23_1
      try clear hx18_0
      try clear hx18_1
      try clear hx20_0
      try clear hx20_1
      try clear p18
      try clear q18
      obtain ⟨kq, x8_7, x782000_7, x782001_7, HA, HJ7, HO_8, BK781, HB⟩ := hcut
      cases kq with
      | zero => exact absurd HA.out (by simp [impl_SetBranch.j0])
      | succ kj7 =>
        have H := HA.out
        clear HA
        simp only [impl_SetBranch.j0] at H
        replace H := Option.bind_eq_some_iff.mp H
        obtain ⟨t795, A280, H⟩ := H
        replace H : (if t795 = true then (some (x8_7, true)) else ((slices_Clone_Branch.f l0).bind fun t796 => (some (t796, false)))) = some (r1, r2) := H
        have A28 := Aside0.mk A280
        clear A280
        by_cases c29 : t795 = true
        · subst c29
          have H1 : (some (x8_7, true)) = some (r1, r2) := by rw [if_pos rfl] at H; exact H
          clear H
          have H := H1
          clear H1
          simp only [Option.some.injEq, Prod.mk.injEq] at H
          obtain ⟨rfl, rfl⟩ := H
          obtain ⟨Ao30, co30, eo30⟩ := Kd.R_slice HO_8.out
          subst eo30
          go_wp2_with (first | ((with_reducible refine gate_callee (f := 47) rfl ?_); refine goesL_ (some 36) rfl rfl Try.func47 (by kernel_rfl) rfl #[.slice Ao30 x8_7.length co30, .int .i64 a1] rfl (by (try simp only [List.map_toArray, List.map_cons, List.map_nil]); first | done | rfl | (simp only [List.length_drop, List.length_take]; rfl)) ?_; (with_reducible refine (impl_BranchesValid.calls kj7 _ _ x8_7 a1 true _ ?side1 ?side2 A28.out).mono ?_); (case side1 => repeat (first | exact (Kd.R_reads' HO_8.out).2.2 | (with_reducible refine Kd.C_alloc ?_ _) | (with_reducible refine Kd.C_drewN ?_ _) | (with_reducible refine Kd.C_drew ?_))); (case side2 => exact (Kd.R_reads' HO_8.out).2.1); rintro e w31 ⟨rfl, hb⟩; refine ⟨_, rfl, ?_⟩; have n0_ := Aside0.mk (Kd.R_below (by (with_reducible repeat (first | apply Kd.R_alloc | apply Kd.R_drewN | apply Kd.R_drew)); exact HO_8.out) hb); have n1_ := Aside0.mk (blk_below (g := gb781) (o := .cells #[.string x782000_7, .int .i64 x782001_7] 64 (0, 0)) (by (with_reducible repeat (first | refine blk_drewN ?_ _ | refine blk_drew ?_ | refine blk_alloc ?_ _)); exact BK781.out) hb); have n2_ := Aside0.mk (below_step (by repeat (first | (with_reducible first | exact HB.out | apply below_alloc | apply pw_below_drewN | apply below_drew1 | refine below_set ?_ GE781.out) | exact HB.out)) hb); clear HO_8; clear BK781; clear HB; have HO_8 := n0_; have BK781 := n1_; have HB := n2_; clear n0_ n1_ n2_; (try clear hb); (try clear hb2); (try clear hk); (try clear hi)))
          go_ret2
          exact ⟨_, by first | rfl | (simp [errW_none, errW_some] <;> rfl) | (simp [*, errW_none, errW_some] <;> rfl), by (with_reducible repeat (first | apply Kd.R_alloc | apply Kd.R_drewN | apply Kd.R_drew)); exact Kd.R_mono HO_8.out (fun _ hk => trivial), by repeat (first | (with_reducible first | exact HB.out | apply below_alloc | apply pw_below_drewN | apply below_drew1 | refine below_set ?_ GE781.out) | exact HB.out)⟩
        · replace c29 := Bool.eq_false_iff.mpr c29
          subst c29
          have H1 : ((slices_Clone_Branch.f l0).bind fun t796 => (some (t796, false))) = some (r1, r2) := by rw [if_neg (show ¬ (false = true) by decide)] at H; exact H
          clear H
          have H := H1
          clear H1
          replace H := Option.bind_eq_some_iff.mp H
          obtain ⟨t796, A320, H⟩ := H
          replace H : (some (t796, false)) = some (r1, r2) := H
          have A32 := Aside0.mk A320
          clear A320
          simp only [Option.some.injEq, Prod.mk.injEq] at H
          obtain ⟨rfl, rfl⟩ := H
          obtain ⟨Ao33, co33, eo33⟩ := Kd.R_slice HO_8.out
          subst eo33
          go_wp2_with (first | ((with_reducible refine gate_callee (f := 47) rfl ?_); refine goesL_ (some 36) rfl rfl Try.func47 (by kernel_rfl) rfl #[.slice Ao33 x8_7.length co33, .int .i64 a1] rfl (by (try simp only [List.map_toArray, List.map_cons, List.map_nil]); first | done | rfl | (simp only [List.length_drop, List.length_take]; rfl)) ?_; (with_reducible refine (impl_BranchesValid.calls kj7 _ _ x8_7 a1 false _ ?side1 ?side2 A28.out).mono ?_); (case side1 => repeat (first | exact (Kd.R_reads' HO_8.out).2.2 | (with_reducible refine Kd.C_alloc ?_ _) | (with_reducible refine Kd.C_drewN ?_ _) | (with_reducible refine Kd.C_drew ?_))); (case side2 => exact (Kd.R_reads' HO_8.out).2.1); rintro e w34 ⟨rfl, hb⟩; refine ⟨_, rfl, ?_⟩; have n0_ := Aside0.mk (Kd.R_below (by (with_reducible repeat (first | apply Kd.R_alloc | apply Kd.R_drewN | apply Kd.R_drew)); exact HO_8.out) hb); have n1_ := Aside0.mk (blk_below (g := gb781) (o := .cells #[.string x782000_7, .int .i64 x782001_7] 64 (0, 0)) (by (with_reducible repeat (first | refine blk_drewN ?_ _ | refine blk_drew ?_ | refine blk_alloc ?_ _)); exact BK781.out) hb); have n2_ := Aside0.mk (below_step (by repeat (first | (with_reducible first | exact HB.out | apply below_alloc | apply pw_below_drewN | apply below_drew1 | refine below_set ?_ GE781.out) | exact HB.out)) hb); clear HO_8; clear BK781; clear HB; have HO_8 := n0_; have BK781 := n1_; have HB := n2_; clear n0_ n1_ n2_; (try clear hb); (try clear hb2); (try clear hk); (try clear hi)) | ((with_reducible refine gate_callee (f := 77) rfl ?_); refine goesL_ (some 39) rfl rfl Try.func77 (by kernel_rfl) rfl #[.slice A0 l0.length c0] rfl (by (try simp only [List.map_toArray, List.map_cons, List.map_nil]); first | done | rfl | (simp only [List.length_drop, List.length_take]; rfl)) ?_; (with_reducible refine (slices_Clone_Branch.calls _ _ l0 t796 _ ?side1 ?side2 A32.out).mono ?_); (case side1 => repeat (first | exact (Kd.C_below HR0.out HB.out) | (with_reducible refine Kd.C_alloc ?_ _) | (with_reducible refine Kd.C_drewN ?_ _) | (with_reducible refine Kd.C_drew ?_))); (case side2 => exact HC0.out); rintro e w35 ⟨v797, rfl, ho0, hb⟩; refine ⟨_, rfl, ?_⟩; have n0_ := Aside0.mk (Kd.R_elder' (by (with_reducible repeat (first | apply Kd.R_alloc | apply Kd.R_drewN | apply Kd.R_drew)); exact HO_8.out) (Kd.R_base ho0) hb); have n1_ := Aside0.mk (Kd.R_lower (Kd.R_newB (Kd.R_new' ho0 (Kd.R_lt (by (with_reducible repeat (first | apply Kd.R_alloc | apply Kd.R_drewN | apply Kd.R_drew)); exact HO_8.out))) (g := gb781) (o := .cells #[.string x782000_7, .int .i64 x782001_7] 64 (0, 0)) (by (with_reducible repeat (first | refine blk_drewN ?_ _ | refine blk_drew ?_ | refine blk_alloc ?_ _)); exact BK781.out)) (below_size (by repeat (first | (with_reducible first | exact HB.out | apply below_alloc | apply pw_below_drewN | apply below_drew1 | refine below_set ?_ GE781.out) | exact HB.out)))); have n2_ := Aside0.mk (blk_below (g := gb781) (o := .cells #[.string x782000_7, .int .i64 x782001_7] 64 (0, 0)) (by (with_reducible repeat (first | refine blk_drewN ?_ _ | refine blk_drew ?_ | refine blk_alloc ?_ _)); exact BK781.out) hb); have n3_ := Aside0.mk (below_step (by repeat (first | (with_reducible first | exact HB.out | apply below_alloc | apply pw_below_drewN | apply below_drew1 | refine below_set ?_ GE781.out) | exact HB.out)) hb); clear HO_8; clear BK781; clear HB; have HO_8 := n0_; have HO798 := n1_; have BK781 := n2_; have HB := n3_; clear n0_ n1_ n2_ n3_; (try clear hb); (try clear hb2); (try clear hk); (try clear hi); (try clear ho0)))
          go_ret2
          exact ⟨_, by first | rfl | (simp [errW_none, errW_some] <;> rfl) | (simp [*, errW_none, errW_some] <;> rfl), by (with_reducible repeat (first | apply Kd.R_alloc | apply Kd.R_drewN | apply Kd.R_drew)); exact Kd.R_mono HO798.out (fun _ hk => trivial), by repeat (first | (with_reducible first | exact HB.out | apply below_alloc | apply pw_below_drewN | apply below_drew1 | refine below_set ?_ GE781.out) | exact HB.out)⟩
  · replace c5 := Bool.eq_false_iff.mpr c5
    subst c5
    have H1 : (some (([] : List (S64)), false)) = some (r1, r2) := by rw [if_neg (show ¬ (false = true) by decide)] at H; exact H
    clear H
    have H := H1
    clear H1
    simp only [Option.some.injEq, Prod.mk.injEq] at H
    obtain ⟨rfl, rfl⟩ := H
    go_enter Try.func57, Try.ntmps57
    go_wp2_with (first | ((with_reducible refine gate_dst (N := 5) rfl ?_); refine box_event ?hg (N := 5) ?hd (cs := #[.string a2_0, .int .i64 a2_1]) (t := 64) ?hr ?_; (case hd => rfl); (case hg => rfl); (case hr => first | (go_simp; done) | (go_simp; rfl)); intro gb781 hg w36 hbox hb; have n0_ := Aside0.mk (below_step (by repeat (first | (with_reducible first | exact HB.out | apply below_alloc | apply pw_below_drewN | apply below_drew1) | exact HB.out)) hb); have n1_ := Aside0.mk (hbox); have n2_ := Aside0.mk ((by rw [hg]; exact (below_size (by repeat (first | (with_reducible first | exact HB.out | apply below_alloc | apply pw_below_drewN | apply below_drew1) | exact HB.out))) : w.heap.size ≤ gb781)); have n3_ := Aside0.mk ((by rw [hg]; exact (below_size (by repeat (first | (with_reducible first | exact HB.out | apply below_alloc | apply pw_below_drewN | apply below_drew1) | exact HB.out))) : w.heap.size ≤ gb781)); clear HB; have HB := n0_; have BK781 := n1_; have GW781 := n2_; have GE781 := n3_; clear n0_ n1_ n2_ n3_; clear hb hbox hg) | ((with_reducible refine gate_callee (f := 47) rfl ?_); refine goesL_ (some 13) rfl rfl Try.func47 (by kernel_rfl) rfl #[.slice A0 l0.length c0, .int .i64 a1] rfl (by (try simp only [List.map_toArray, List.map_cons, List.map_nil]); first | done | rfl | (simp only [List.length_drop, List.length_take]; rfl)) ?_; (with_reducible refine (impl_BranchesValid.calls k _ _ l0 a1 false _ ?side1 ?side2 A4.out).mono ?_); (case side1 => repeat (first | exact (Kd.C_below HR0.out HB.out) | (with_reducible refine Kd.C_alloc ?_ _) | (with_reducible refine Kd.C_drewN ?_ _) | (with_reducible refine Kd.C_drew ?_))); (case side2 => exact HC0.out); rintro e w37 ⟨rfl, hb⟩; refine ⟨_, rfl, ?_⟩; have n0_ := Aside0.mk (blk_below (g := gb781) (o := .cells #[.string a2_0, .int .i64 a2_1] 64 (0, 0)) (by (with_reducible repeat (first | refine blk_drewN ?_ _ | refine blk_drew ?_ | refine blk_alloc ?_ _)); exact BK781.out) hb); have n1_ := Aside0.mk (below_step (by repeat (first | (with_reducible first | exact HB.out | apply below_alloc | apply pw_below_drewN | apply below_drew1 | refine below_set ?_ GE781.out) | exact HB.out)) hb); clear BK781; clear HB; have BK781 := n0_; have HB := n1_; clear n0_ n1_; (try clear hb); (try clear hb2); (try clear hk); (try clear hi)))
    go_ret2
    exact ⟨_, by first | rfl | (simp [errW_none, errW_some] <;> rfl) | (simp [*, errW_none, errW_some] <;> rfl), by first | exact Kd.R_nil _ _ _ _ _ | exact Kd.N_nil _ _ _ _ _ | exact Kd.V_nil _ _ _ _ _ | exact Kd.Q_nil _ _ _ _ _ | exact Kd.S_nil _ _ _ _ _, by repeat (first | (with_reducible first | exact HB.out | apply below_alloc | apply pw_below_drewN | apply below_drew1 | refine below_set ?_ GE781.out) | exact HB.out)⟩

end Go.Proofs.Ytbjfbmoeboagaaa.P
