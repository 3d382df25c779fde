-- The functions of the seat as plain Lean functions, made by the kit's print.py for all laws at once. Not trusted: Lean checks it.
import Derived.Test.YtcbmkonigclceaaPx0
import Derived.Test.YtcbmkonigclceaaPx1
import Derived.Test.YtcbmkonigclceaaPx2
import Derived.Test.YtcbmkonigclceaaPx3
import Derived.Test.YtcbmkonigclceaaPx5
import Derived.Test.YtcbmkonigclceaaPx6
namespace Go.Proofs.Ytcbmkonigclceaa.P
open Go.RowKit Go.Proofs.YtcbmkonigclceaaW.PrintWords Go.Proofs.YtcbmkonigclceaaW.PrintLast Go.Proofs.YtcbmkonigclceaaW.PrintMore
attribute [local go_sem] max2_int min2_int max_two min_two max_three min_three max_four min_four   -- for this text's walks alone
set_option linter.unusedVariables false
set_option linter.unusedSimpArgs false
/-! ### spec_l10Set: function 109 -/
mutual
def spec_l10Set.j0 : Nat → List (S65) → List ByteArray → Int → List (S109) → Option ((List (S65)) × Int × Bool)
 | 0, _, _, _, _ => none
 | k + 1, x0, x2, x3, x11 => spec_l10Set.l0 k x0 x2 x3 x11 (-1) 0
def spec_l10Set.l0 : Nat → List (S65) → List ByteArray → Int → List (S109) → Int → Int → Option ((List (S65)) × Int × Bool)
 | 0, _, _, _, _, _, _ => none
 | k + 1, x0, x2, x3, x11, x16, x17 => if x17 < (x11.length : Int) then (if 0 ≤ x17 then (if 0 < (x2.length : Int) then (if ((rd_T109 x11 x17).f0).toList = (rdOf ByteArray.empty x2 0).toList then (spec_l10Set.l0 k x0 x2 x3 x11 ((rd_T109 x11 x17).f1) (wrap64 (x17 + 1))) else (spec_l10Set.l0 k x0 x2 x3 x11 x16 (wrap64 (x17 + 1)))) else (none)) else (none)) else ((spec_l4Get.f k x0 x16).bind fun bt1131 => (if (x2.length : Int) = 1 then (if x16 ≥ 0 then (if bt1131.2 = true then ((spec_TextKind.f k bt1131.1).bind fun t1133 => (spec_l10Set.j2 k x0 x2 x3 x11 x16 (t1133 != 1))) else (spec_l10Set.j2 k x0 x2 x3 x11 x16 true)) else (spec_l10Set.j2 k x0 x2 x3 x11 x16 false)) else (spec_l10Set.j2 k x0 x2 x3 x11 x16 false)))
def spec_l10Set.j2 : Nat → List (S65) → List ByteArray → Int → List (S109) → Int → Bool → Option ((List (S65)) × Int × Bool)
 | 0, _, _, _, _, _, _ => none
 | k + 1, x0, x2, x3, x11, x16, x87 => if x87 = true then (some (x0, (-1), false)) else (if 1 ≤ (x2.length : Int) then ((spec_l10Set.f k x0 x16 (x2.drop 1) x3).bind fun bt1135 => (if bt1135.2.2 = true then (if 0 < (x2.length : Int) then ((spec_PutEntry.f k x11 (rdOf ByteArray.empty x2 0) bt1135.2.1).bind fun bt1141 => (if bt1141.2 = true then ((spec_FolderText.f k bt1141.1).bind fun t1145 => ((spec_PutText.f k bt1135.1 t1145).bind fun bt1146 => (some (bt1146.1, bt1146.2.1, bt1146.2.2)))) else (some (bt1135.1, (-1), false)))) else (none)) else (some (bt1135.1, (-1), false)))) else (none))
def spec_l10Set.f : Nat → List (S65) → Int → List ByteArray → Int → Option ((List (S65)) × Int × Bool)
 | 0, _, _, _, _ => none
 | k + 1, l0, a1, l2, a3 => if (l2.length : Int) = 0 then (some (l0, a3, true)) else (if a1 ≥ 0 then ((spec_l4Get.f k l0 a1).bind fun bt1122 => ((spec_ReadFolder.f k bt1122.1).bind fun bt1124 => (if bt1124.2 = true then (spec_l10Set.j0 k l0 l2 a3 bt1124.1) else (some (l0, (-1), false))))) else (spec_l10Set.j0 k l0 l2 a3 (([] : List (S109)))))
end
set_option maxHeartbeats 8000000 in
set_option maxRecDepth 100000 in
theorem spec_l10Set.calls (k : Nat) : ∀ (P0_ : Nat → Prop) (A0 : Option Addr) (c0 : Nat) (l0 : List (S65)) (a1 : Int) (A2 : Option Addr) (c2 : Nat) (l2 : List ByteArray) (a3 : Int) (r1 : List (S65)) (r2 : Int) (r3 : Bool) (w : World) (hs0 : Kd.V k65 65 w w.heap.size (fun k_ => P0_ k_) (.slice A0 l0.length c0) l0) (hr2 : Kd.C Kd.string w A2 l2.length l2) (hc2 : l2.length ≤ c2) (h : spec_l10Set.f k l0 a1 l2 a3 = some (r1, r2, r3)),
  Calls Try.prog 109 #[.slice A0 l0.length c0, .int .i64 a1, .slice A2 l2.length c2, .int .i64 a3] w fun e w' => ∃ v0_ : Value, e = .returned (.tuple #[v0_, .int .i64 r2, .bool r3]) ∧ Kd.V k65 65 w' w.heap.size (fun k_ => (P0_ k_ ∨ w.heap.size ≤ k_)) v0_ r1 ∧ Below w.heap.size w w' := by
 induction k using Nat.strongRecOn with
 | _ k ih =>
 intro P0_ A0 c0 l0 a1 A2 c2 l2 a3 r1 r2 r3 w hs0 hr2 hc2 h
 cases k with
 | zero => exact absurd h (by simp [spec_l10Set.f])
 | succ k =>
 simp only [spec_l10Set.f] at h
 have hu109 := Try.underlying109
 have HO0 := Aside0.mk (show Kd.V k65 65 w w.heap.size (fun k_ => (P0_ k_ ∨ w.heap.size ≤ k_)) (.slice A0 l0.length c0) l0 from Kd.V_mono hs0 (fun k_ hk => .inl hk))
 have HR2 := Aside0.mk hr2
 have HC2 := Aside0.mk hc2
 clear hr2 hc2
 have HB := Aside0.mk (Below.refl w.heap.size w)
 have H : (if (l2.length : Int) = 0 then (some (l0, a3, true)) else (if a1 ≥ 0 then ((spec_l4Get.f k l0 a1).bind fun bt1122 => ((spec_ReadFolder.f k bt1122.1).bind fun bt1124 => (if bt1124.2 = true then (spec_l10Set.j0 k l0 l2 a3 bt1124.1) else (some (l0, (-1), false))))) else (spec_l10Set.j0 k l0 l2 a3 (([] : List (S109)))))) = some (r1, r2, r3) := h
 clear h
 by_cases c5 : (l2.length : Int) = 0
 ·rw [if_pos c5] at H
  have c5b0 : ((l2.length : Int) == 0) = true := beq_iff_eq.mpr c5
  have c5b1 : ((l2.length : Int) != 0) = false := bne_eq_false_iff_eq.mpr c5
  clear c5
  simp only [Option.some.injEq, Prod.mk.injEq] at H
  obtain ⟨rfl, rfl, rfl⟩ := H
  go_enter Try.func109, Try.ntmps109
  go_wp2
  repeat (go_quiet (fail); try go_wp2)
  go_ret3
  exact ⟨_, er_, by refine kV_ ?_; exact HO0.out, hb_⟩
 ·rw [if_neg c5] at H
  have c5b0 : ((l2.length : Int) == 0) = false := beq_eq_false_iff_ne.mpr c5
  have c5b1 : ((l2.length : Int) != 0) = true := bne_iff_ne.mpr c5
  have c5b2 : ¬ (l2 = []) := fun h_ => c5 (by rw [h_]; rfl)
  obtain ⟨y1119, hy1119⟩ : ∃ y_ : List (S109), y_ = (([] : List (S109))) := ⟨_, rfl⟩
  replace H : (if a1 ≥ 0 then ((spec_l4Get.f k l0 a1).bind fun bt1122 => ((spec_ReadFolder.f k bt1122.1).bind fun bt1124 => (if bt1124.2 = true then (spec_l10Set.j0 k l0 l2 a3 bt1124.1) else (some (l0, (-1), false))))) else (spec_l10Set.j0 k l0 l2 a3 y1119)) = some (r1, r2, r3) := hq_ hy1119 H
  have Ny1119 := Aside0.mk hy1119
  clear hy1119
  have HC6 := Aside0.mk H
  clear H
  go_enter Try.func109, Try.ntmps109
  go_upto_if 30 with (first | ((with_reducible refine gate_dst (N := 28) rfl ?_); refine Kd.R_lit k109 _ 109 ?hg (N := 28) ?hd (xs := ([] : List (S109))) (inner := []) (ok := fun _ => True) (okp := fun _ => True) ?hr ?hp (fun _ hk => hk) trivial (Below.refl _ _) (Nat.le_refl _) (by simp) ?_; (case hd => rfl); (case hg => rfl); (case hr => first | (go_simp; done) | (go_simp; rfl)); (case hp => exact (Reps.none _ _)); intro v1120 w7 ho8 hb hg_ hnew_; clear hg_ hnew_; (first | rw [← Ny1119.out] at ho8 | (simp only [Int.reduceToNat] at ho8; rw [← Ny1119.out] at ho8)); have n0_ := Aside0.mk (Kd.V_elder' (kV_ HO0.out) (Kd.R_base ho8) hb); have n1_ := Aside0.mk (Kd.R_lower (Kd.R_newM (M := fun k_ => (w.heap.size ≤ k_)) ho8 (below_size hb_) (fun k_ h_ => h_)) (below_size hb_)); have n2_ := Aside0.mk (below_step hb_ hb); clear HO0; clear HB; have HO0 := n0_; have HO1121 := n1_; have HB := n2_; clear n0_ n1_ n2_; clear hb ho8))
  repeat (go_quiet (first | ((with_reducible refine gate_dst (N := 28) rfl ?_); refine Kd.R_lit k109 _ 109 ?hg (N := 28) ?hd (xs := ([] : List (S109))) (inner := []) (ok := fun _ => True) (okp := fun _ => True) ?hr ?hp (fun _ hk => hk) trivial (Below.refl _ _) (Nat.le_refl _) (by simp) ?_; (case hd => rfl); (case hg => rfl); (case hr => first | (go_simp; done) | (go_simp; rfl)); (case hp => exact (Reps.none _ _)); intro v1120 w7 ho8 hb hg_ hnew_; clear hg_ hnew_; (first | rw [← Ny1119.out] at ho8 | (simp only [Int.reduceToNat] at ho8; rw [← Ny1119.out] at ho8)); have n0_ := Aside0.mk (Kd.V_elder' (kV_ HO0.out) (Kd.R_base ho8) hb); have n1_ := Aside0.mk (Kd.R_lower (Kd.R_newM (M := fun k_ => (w.heap.size ≤ k_)) ho8 (below_size hb_) (fun k_ h_ => h_)) (below_size hb_)); have n2_ := Aside0.mk (below_step hb_ hb); clear HO0; clear HB; have HO0 := n0_; have HO1121 := n1_; have HB := n2_; clear n0_ n1_ n2_; clear hb ho8)); go_upto_if 30 with (first | ((with_reducible refine gate_dst (N := 28) rfl ?_); refine Kd.R_lit k109 _ 109 ?hg (N := 28) ?hd (xs := ([] : List (S109))) (inner := []) (ok := fun _ => True) (okp := fun _ => True) ?hr ?hp (fun _ hk => hk) trivial (Below.refl _ _) (Nat.le_refl _) (by simp) ?_; (case hd => rfl); (case hg => rfl); (case hr => first | (go_simp; done) | (go_simp; rfl)); (case hp => exact (Reps.none _ _)); intro v1120 w7 ho8 hb hg_ hnew_; clear hg_ hnew_; (first | rw [← Ny1119.out] at ho8 | (simp only [Int.reduceToNat] at ho8; rw [← Ny1119.out] at ho8)); have n0_ := Aside0.mk (Kd.V_elder' (kV_ HO0.out) (Kd.R_base ho8) hb); have n1_ := Aside0.mk (Kd.R_lower (Kd.R_newM (M := fun k_ => (w.heap.size ≤ k_)) ho8 (below_size hb_) (fun k_ h_ => h_)) (below_size hb_)); have n2_ := Aside0.mk (below_step hb_ hb); clear HO0; clear HB; have HO0 := n0_; have HO1121 := n1_; have HB := n2_; clear n0_ n1_ n2_; clear hb ho8)))
  (try simp only [Act.put, List.setIfInBounds_toArray, List.set_cons_zero, List.set_cons_succ])
  go_cut [11] (fun v11 wc => ∃ (kq : Nat) (x11_5 : List (S109)), Aside0 (spec_l10Set.j0 kq l0 l2 a3 x11_5 = some (r1, r2, r3)) ∧ Aside0 (kq ≤ k) ∧ Aside0 (Kd.V k65 65 wc w.heap.size (fun k_ => (P0_ k_ ∨ w.heap.size ≤ k_) ∧ some k_ ≠ (v11 : Value).ownBlock) (.slice A0 l0.length c0) l0) ∧ Aside0 (Kd.R k109 109 wc w.heap.size (fun k_ => (w.heap.size ≤ k_)) v11 x11_5) ∧ Aside0 (Below w.heap.size w wc))
  case first =>
   have H := HC6.out
   clear HC6
   by_cases c9 : a1 ≥ 0
   ·rw [if_pos c9] at H
    have c9b0 : decide (0 ≤ a1) = true := decide_eq_true c9
    clear c9
    (first | rw [c9b0] | (simp only [i64_w, i32_w]; rw [c9b0]) | skip)
    replace H := Option.bind_eq_some_iff.mp H
    obtain ⟨⟨t1122, t1123⟩, A100, H⟩ := H
    replace H : ((spec_ReadFolder.f k t1122).bind fun bt1124 => (if bt1124.2 = true then (spec_l10Set.j0 k l0 l2 a3 bt1124.1) else (some (l0, (-1), false)))) = some (r1, r2, r3) := H
    have A10 := Aside0.mk A100
    clear A100
    replace H := Option.bind_eq_some_iff.mp H
    obtain ⟨⟨t1124, t1125⟩, A110, H⟩ := H
    replace H : (if t1125 = true then (spec_l10Set.j0 k l0 l2 a3 t1124) else (some (l0, (-1), false))) = some (r1, r2, r3) := H
    have A11 := Aside0.mk A110
    clear A110
    by_cases c12 : t1125 = true
    ·subst c12
     have H1 : (spec_l10Set.j0 k l0 l2 a3 t1124) = some (r1, r2, r3) := by rw [if_pos rfl] at H; exact H
     clear H
     have H := H1
     clear H1
     have H' := Aside0.mk H
     clear H
     go_wp2_with (first | (go_at_call 108; (with_reducible refine (spec_l4Get.calls k _ _ l0 a1 t1122 t1123 _ ?side1 ?side2 A10.out).mono ?_); (case side1 => exact kC_ ((Kd.V_reads' HO0.out).2.2)); (case side2 => exact (Kd.V_reads' HO0.out).2.1); rintro e w' ⟨rfl, ⟨nd, rfl⟩⟩; (try first | exact ⟨rfl, _, World.drewN_drewN _ _ _⟩ | exact ⟨rfl, _, Eq.trans (World.drewN_drewN _ _ _) (congrArg (World.drewN _) (Nat.add_assoc _ _ _))⟩)) | (go_at_call 114; (with_reducible refine (spec_ReadFolder.calls k t1122 t1124 true _ A11.out).mono ?_); rintro e w13 ⟨v1126, rfl, ho0, hb⟩; have n0_ := Aside0.mk (Kd.V_elder' (kV_ HO0.out) (Kd.R_base ho0) hb); have n1_ := Aside0.mk (Kd.R_elder' (kR_ HO1121.out) (Kd.R_base ho0) hb); have n2_ := Aside0.mk (Kd.R_lower (Kd.R_new' (Kd.R_newM (M := fun k_ => (w.heap.size ≤ k_)) ho0 (below_size hb_) (fun k_ h_ => h_)) (Kd.R_lt (kR_ HO1121.out))) (below_size hb_)); have n3_ := Aside0.mk (below_step hb_ hb); clear HO0; clear HO1121; clear HB; have HO0 := n0_; have HO1121 := n1_; have HO1127 := n2_; have HB := n3_; clear n0_ n1_ n2_ n3_; (try clear hb); (try clear ho0)))
     repeat (go_quiet (first | (go_at_call 108; (with_reducible refine (spec_l4Get.calls k _ _ l0 a1 t1122 t1123 _ ?side1 ?side2 A10.out).mono ?_); (case side1 => exact kC_ ((Kd.V_reads' HO0.out).2.2)); (case side2 => exact (Kd.V_reads' HO0.out).2.1); rintro e w' ⟨rfl, ⟨nd, rfl⟩⟩; (try first | exact ⟨rfl, _, World.drewN_drewN _ _ _⟩ | exact ⟨rfl, _, Eq.trans (World.drewN_drewN _ _ _) (congrArg (World.drewN _) (Nat.add_assoc _ _ _))⟩)) | (go_at_call 114; (with_reducible refine (spec_ReadFolder.calls k t1122 t1124 true _ A11.out).mono ?_); rintro e w13 ⟨v1126, rfl, ho0, hb⟩; have n0_ := Aside0.mk (Kd.V_elder' (kV_ HO0.out) (Kd.R_base ho0) hb); have n1_ := Aside0.mk (Kd.R_elder' (kR_ HO1121.out) (Kd.R_base ho0) hb); have n2_ := Aside0.mk (Kd.R_lower (Kd.R_new' (Kd.R_newM (M := fun k_ => (w.heap.size ≤ k_)) ho0 (below_size hb_) (fun k_ h_ => h_)) (Kd.R_lt (kR_ HO1121.out))) (below_size hb_)); have n3_ := Aside0.mk (below_step hb_ hb); clear HO0; clear HO1121; clear HB; have HO0 := n0_; have HO1121 := n1_; have HO1127 := n2_; have HB := n3_; clear n0_ n1_ n2_ n3_; (try clear hb); (try clear ho0))); try go_wp2_with (first | (go_at_call 108; (with_reducible refine (spec_l4Get.calls k _ _ l0 a1 t1122 t1123 _ ?side1 ?side2 A10.out).mono ?_); (case side1 => exact kC_ ((Kd.V_reads' HO0.out).2.2)); (case side2 => exact (Kd.V_reads' HO0.out).2.1); rintro e w' ⟨rfl, ⟨nd, rfl⟩⟩; (try first | exact ⟨rfl, _, World.drewN_drewN _ _ _⟩ | exact ⟨rfl, _, Eq.trans (World.drewN_drewN _ _ _) (congrArg (World.drewN _) (Nat.add_assoc _ _ _))⟩)) | (go_at_call 114; (with_reducible refine (spec_ReadFolder.calls k t1122 t1124 true _ A11.out).mono ?_); rintro e w13 ⟨v1126, rfl, ho0, hb⟩; have n0_ := Aside0.mk (Kd.V_elder' (kV_ HO0.out) (Kd.R_base ho0) hb); have n1_ := Aside0.mk (Kd.R_elder' (kR_ HO1121.out) (Kd.R_base ho0) hb); have n2_ := Aside0.mk (Kd.R_lower (Kd.R_new' (Kd.R_newM (M := fun k_ => (w.heap.size ≤ k_)) ho0 (below_size hb_) (fun k_ h_ => h_)) (Kd.R_lt (kR_ HO1121.out))) (below_size hb_)); have n3_ := Aside0.mk (below_step hb_ hb); clear HO0; clear HO1121; clear HB; have HO0 := n0_; have HO1121 := n1_; have HO1127 := n2_; have HB := n3_; clear n0_ n1_ n2_ n3_; (try clear hb); (try clear ho0))))
     go_meet
     case rel => exact ⟨_, (t1124), H', ⟨by first | omega | exact Nat.le_refl _⟩, ⟨by refine kV_ ?_; exact Kd.V_mono HO0.out (fun _ hk => ⟨hk.1.1, hk.2⟩)⟩, ⟨by refine kR_ ?_; exact Kd.R_mono HO1127.out (fun _ hk => hk.1.1)⟩, ⟨hb_⟩⟩
    ·replace c12 := Bool.eq_false_iff.mpr c12
     subst c12
     have H1 : (some (l0, (-1), false)) = some (r1, r2, r3) := by rw [if_neg (show ¬ (false = true) by decide)] at H; exact H
     clear H
     have H := H1
     clear H1
     simp only [Option.some.injEq, Prod.mk.injEq] at H
     obtain ⟨rfl, rfl, rfl⟩ := H
     go_wp2_with (first | (go_at_call 108; (with_reducible refine (spec_l4Get.calls k _ _ l0 a1 t1122 t1123 _ ?side1 ?side2 A10.out).mono ?_); (case side1 => exact kC_ ((Kd.V_reads' HO0.out).2.2)); (case side2 => exact (Kd.V_reads' HO0.out).2.1); rintro e w' ⟨rfl, ⟨nd, rfl⟩⟩; (try first | exact ⟨rfl, _, World.drewN_drewN _ _ _⟩ | exact ⟨rfl, _, Eq.trans (World.drewN_drewN _ _ _) (congrArg (World.drewN _) (Nat.add_assoc _ _ _))⟩)) | (go_at_call 114; (with_reducible refine (spec_ReadFolder.calls k t1122 t1124 false _ A11.out).mono ?_); rintro e w14 ⟨v1126, rfl, ho0, hb⟩; have n0_ := Aside0.mk (Kd.V_elder' (kV_ HO0.out) (Kd.R_base ho0) hb); have n1_ := Aside0.mk (Kd.R_elder' (kR_ HO1121.out) (Kd.R_base ho0) hb); have n2_ := Aside0.mk (Kd.R_lower (Kd.R_new' (Kd.R_newM (M := fun k_ => (w.heap.size ≤ k_)) ho0 (below_size hb_) (fun k_ h_ => h_)) (Kd.R_lt (kR_ HO1121.out))) (below_size hb_)); have n3_ := Aside0.mk (below_step hb_ hb); clear HO0; clear HO1121; clear HB; have HO0 := n0_; have HO1121 := n1_; have HO1127 := n2_; have HB := n3_; clear n0_ n1_ n2_ n3_; (try clear hb); (try clear ho0)))
     repeat (go_quiet (first | (go_at_call 108; (with_reducible refine (spec_l4Get.calls k _ _ l0 a1 t1122 t1123 _ ?side1 ?side2 A10.out).mono ?_); (case side1 => exact kC_ ((Kd.V_reads' HO0.out).2.2)); (case side2 => exact (Kd.V_reads' HO0.out).2.1); rintro e w' ⟨rfl, ⟨nd, rfl⟩⟩; (try first | exact ⟨rfl, _, World.drewN_drewN _ _ _⟩ | exact ⟨rfl, _, Eq.trans (World.drewN_drewN _ _ _) (congrArg (World.drewN _) (Nat.add_assoc _ _ _))⟩)) | (go_at_call 114; (with_reducible refine (spec_ReadFolder.calls k t1122 t1124 false _ A11.out).mono ?_); rintro e w14 ⟨v1126, rfl, ho0, hb⟩; have n0_ := Aside0.mk (Kd.V_elder' (kV_ HO0.out) (Kd.R_base ho0) hb); have n1_ := Aside0.mk (Kd.R_elder' (kR_ HO1121.out) (Kd.R_base ho0) hb); have n2_ := Aside0.mk (Kd.R_lower (Kd.R_new' (Kd.R_newM (M := fun k_ => (w.heap.size ≤ k_)) ho0 (below_size hb_) (fun k_ h_ => h_)) (Kd.R_lt (kR_ HO1121.out))) (below_size hb_)); have n3_ := Aside0.mk (below_step hb_ hb); clear HO0; clear HO1121; clear HB; have HO0 := n0_; have HO1121 := n1_; have HO1127 := n2_; have HB := n3_; clear n0_ n1_ n2_ n3_; (try clear hb); (try clear ho0))); try go_wp2_with (first | (go_at_call 108; (with_reducible refine (spec_l4Get.calls k _ _ l0 a1 t1122 t1123 _ ?side1 ?side2 A10.out).mono ?_); (case side1 => exact kC_ ((Kd.V_reads' HO0.out).2.2)); (case side2 => exact (Kd.V_reads' HO0.out).2.1); rintro e w' ⟨rfl, ⟨nd, rfl⟩⟩; (try first | exact ⟨rfl, _, World.drewN_drewN _ _ _⟩ | exact ⟨rfl, _, Eq.trans (World.drewN_drewN _ _ _) (congrArg (World.drewN _) (Nat.add_assoc _ _ _))⟩)) | (go_at_call 114; (with_reducible refine (spec_ReadFolder.calls k t1122 t1124 false _ A11.out).mono ?_); rintro e w14 ⟨v1126, rfl, ho0, hb⟩; have n0_ := Aside0.mk (Kd.V_elder' (kV_ HO0.out) (Kd.R_base ho0) hb); have n1_ := Aside0.mk (Kd.R_elder' (kR_ HO1121.out) (Kd.R_base ho0) hb); have n2_ := Aside0.mk (Kd.R_lower (Kd.R_new' (Kd.R_newM (M := fun k_ => (w.heap.size ≤ k_)) ho0 (below_size hb_) (fun k_ h_ => h_)) (Kd.R_lt (kR_ HO1121.out))) (below_size hb_)); have n3_ := Aside0.mk (below_step hb_ hb); clear HO0; clear HO1121; clear HB; have HO0 := n0_; have HO1121 := n1_; have HO1127 := n2_; have HB := n3_; clear n0_ n1_ n2_ n3_; (try clear hb); (try clear ho0))))
     go_ret3
     exact ⟨_, er_, by refine kV_ ?_; exact Kd.V_mono HO0.out (fun _ hk => hk.1.1), hb_⟩
   ·rw [if_neg c9] at H
    have c9b0 : decide (0 ≤ a1) = false := decide_eq_false c9
    clear c9
    (first | rw [c9b0] | (simp only [i64_w, i32_w]; rw [c9b0]) | skip)
    have H' := Aside0.mk H
    clear H
    go_wp2
    repeat (go_quiet (fail); try go_wp2)
    go_meet
    case rel => exact ⟨_, (y1119), H', ⟨by first | omega | exact Nat.le_refl _⟩, ⟨by refine kV_ ?_; exact HO0.out⟩, ⟨by refine kR_ ?_; exact Kd.R_mono HO1121.out (fun _ hk => hk.1)⟩, ⟨hb_⟩⟩
  case rest =>
   clear HC6
   try clear c1
   try clear c2
   try clear p2
   try clear c5
   try clear c5b0
   try clear c5b1
   try clear c5b2
   try clear c9
   try clear c9b0
   try clear c10
   try clear c12
   obtain ⟨kq, x11_5, HA, HJ5, HO_0, HO_11, HB⟩ := hcut
   cases kq with
   | zero => exact absurd HA.out (by simp [spec_l10Set.j0])
   | succ kj5 =>
    have H := HA.out
    clear HA
    simp only [spec_l10Set.j0] at H
    have H' := Aside0.mk H
    clear H
    go_wp2
    repeat (go_quiet (fail); try go_wp2)
    go_loopg [16, 17] kj5 (fun kq v16 v17 w' => ∃ (x16_2 : Int) (x17_2 : Int), v16 = .int .i64 x16_2 ∧ v17 = .int .i64 x17_2 ∧ Aside0 (spec_l10Set.l0 kq l0 l2 a3 x11_5 x16_2 x17_2 = some (r1, r2, r3)) ∧ Aside0 (kq ≤ kj5) ∧ Aside0 (Kd.V k65 65 w' w.heap.size (fun k_ => (P0_ k_ ∨ w.heap.size ≤ k_) ∧ some k_ ≠ (u11 : Value).ownBlock) (.slice A0 l0.length c0) l0) ∧ Aside0 (Kd.R k109 109 w' w.heap.size (fun k_ => (w.heap.size ≤ k_)) u11 x11_5) ∧ Aside0 (Below w.heap.size w w'))
    case atStart => exact ⟨((-1)), (0), rs_, rs_, H', ⟨Nat.le_refl _⟩, ⟨by refine kV_ ?_; exact HO_0.out⟩, ⟨by refine kR_ ?_; exact HO_11.out⟩, ⟨hb_⟩⟩
    case round =>
     clear H'
     try clear c1
     try clear c2
     try clear p2
     try clear c5
     try clear c5b0
     try clear c5b1
     try clear c5b2
     try clear c9
     try clear c9b0
     try clear c10
     try clear c12
     try clear p2
     obtain ⟨x16_2, x17_2, rfl, rfl, HA, HK2, HO_0, HO_11, HB⟩ := hrel
     cases gk with
     | zero => exact absurd HA.out (by simp [spec_l10Set.l0])
     | succ k2 =>
      have H := HA.out
      clear HA
      simp only [spec_l10Set.l0] at H
      by_cases c15 : x17_2 < (x11_5.length : Int)
      ·rw [if_pos c15] at H
       have c15b0 : decide (x17_2 < (x11_5.length : Int)) = true := decide_eq_true c15
       clear c15
       by_cases c16 : 0 ≤ x17_2; rotate_left
       ·rw [if_neg c16] at H; exact absurd H (by simp)
       rw [if_pos c16] at H
       have c16b0 : decide (0 ≤ x17_2) = true := decide_eq_true c16
       clear c16
       by_cases c17 : 0 < (l2.length : Int); rotate_left
       ·rw [if_neg c17] at H; exact absurd H (by simp)
       rw [if_pos c17] at H
       have c17b0 : decide (0 < (l2.length : Int)) = true := decide_eq_true c17
       have c17b1 : decide (0 < l2.length) = true := decide_eq_true (by omega)
       clear c17
       by_cases c18 : ((rd_T109 x11_5 x17_2).f0).toList = (rdOf ByteArray.empty l2 0).toList
       ·rw [if_pos c18] at H
        have c18b0 : (((rd_T109 x11_5 x17_2).f0).toList == (rdOf ByteArray.empty l2 0).toList) = true := beq_iff_eq.mpr c18
        have c18b1 : (((rd_T109 x11_5 x17_2).f0).toList != (rdOf ByteArray.empty l2 0).toList) = false := bne_eq_false_iff_eq.mpr c18
        clear c18
        have H' := Aside0.mk H
        clear H
        obtain ⟨Ao19, co19, eo19⟩ := Kd.R_slice HO_11.out
        subst eo19
        have p1128 : 0 ≤ (x17_2 : Int) := dt_
        have q1128 : x17_2 < (x11_5.length : Int) := dt_
        obtain ⟨ad1128, e1128, hx1128_0, hx1128_1⟩ := at_T109 (Kd.R_reads' HO_11.out).2.2 x17_2 p1128 q1128
        cases e1128
        replace p1128 := eq_true p1128
        replace q1128 := eq_true q1128
        have p1129 : 0 ≤ (0 : Int) := (by omega)
        have q1129 : 0 < (l2.length : Int) := dt_
        obtain ⟨ad1129, e1129, hx1129_0⟩ := Kd.at_string HR2.out 0 p1129 q1129
        cases e1129
        have qi1129 : (0 < l2.length) = True := eq_true (by omega)
        (try rw [show ((0 : Int)).toNat = 0 from rfl] at hx1129_0)
        (try rw [Addr.add_zero'] at hx1129_0)
        replace hx1129_0 := cb_ HB.out hx1129_0
        replace p1129 := eq_true p1129
        replace q1129 := eq_true q1129
        have p1130 : 0 ≤ (x17_2 : Int) := dt_
        have q1130 : x17_2 < (x11_5.length : Int) := dt_
        obtain ⟨ad1130, e1130, hx1130_0, hx1130_1⟩ := at_T109 (Kd.R_reads' HO_11.out).2.2 x17_2 p1130 q1130
        obtain rfl : ad1128 = ad1130 := (by injection e1130)
        replace p1130 := eq_true p1130
        replace q1130 := eq_true q1130
        go_wp2
        repeat (go_quiet (fail); try go_wp2)
        go_roundg k2
        case measure => have := HJ5.out; have := HK2.out; omega
        case rel => exact ⟨((rd_T109 x11_5 x17_2).f1), (wrap64 (x17_2 + 1)), rs_, rs_, H', ⟨by have := HJ5.out; have := HK2.out; omega⟩, ⟨by refine kV_ ?_; exact HO_0.out⟩, ⟨by refine kR_ ?_; exact HO_11.out⟩, ⟨hb_⟩⟩
       ·rw [if_neg c18] at H
        have c18b0 : (((rd_T109 x11_5 x17_2).f0).toList == (rdOf ByteArray.empty l2 0).toList) = false := beq_eq_false_iff_ne.mpr c18
        have c18b1 : (((rd_T109 x11_5 x17_2).f0).toList != (rdOf ByteArray.empty l2 0).toList) = true := bne_iff_ne.mpr c18
        have H' := Aside0.mk H
        clear H
        obtain ⟨Ao20, co20, eo20⟩ := Kd.R_slice HO_11.out
        subst eo20
        have p1128 : 0 ≤ (x17_2 : Int) := dt_
        have q1128 : x17_2 < (x11_5.length : Int) := dt_
        obtain ⟨ad1128, e1128, hx1128_0, hx1128_1⟩ := at_T109 (Kd.R_reads' HO_11.out).2.2 x17_2 p1128 q1128
        cases e1128
        replace p1128 := eq_true p1128
        replace q1128 := eq_true q1128
        have p1129 : 0 ≤ (0 : Int) := (by omega)
        have q1129 : 0 < (l2.length : Int) := dt_
        obtain ⟨ad1129, e1129, hx1129_0⟩ := Kd.at_string HR2.out 0 p1129 q1129
        cases e1129
        have qi1129 : (0 < l2.length) = True := eq_true (by omega)
        (try rw [show ((0 : Int)).toNat = 0 from rfl] at hx1129_0)
        (try rw [Addr.add_zero'] at hx1129_0)
        replace hx1129_0 := cb_ HB.out hx1129_0
        replace p1129 := eq_true p1129
        replace q1129 := eq_true q1129
        go_wp2
        repeat (go_quiet (fail); try go_wp2)
        go_roundg k2
        case measure => have := HJ5.out; have := HK2.out; omega
        case rel => exact ⟨(x16_2), (wrap64 (x17_2 + 1)), rs_, rs_, H', ⟨by have := HJ5.out; have := HK2.out; omega⟩, ⟨by refine kV_ ?_; exact HO_0.out⟩, ⟨by refine kR_ ?_; exact HO_11.out⟩, ⟨hb_⟩⟩
      ·rw [if_neg c15] at H
       have c15b0 : decide (x17_2 < (x11_5.length : Int)) = false := decide_eq_false c15
       clear c15
       replace H := Option.bind_eq_some_iff.mp H
       obtain ⟨⟨t1131, t1132⟩, A210, H⟩ := H
       replace H : (if (l2.length : Int) = 1 then (if x16_2 ≥ 0 then (if t1132 = true then ((spec_TextKind.f k2 t1131).bind fun t1133 => (spec_l10Set.j2 k2 l0 l2 a3 x11_5 x16_2 (t1133 != 1))) else (spec_l10Set.j2 k2 l0 l2 a3 x11_5 x16_2 true)) else (spec_l10Set.j2 k2 l0 l2 a3 x11_5 x16_2 false)) else (spec_l10Set.j2 k2 l0 l2 a3 x11_5 x16_2 false)) = some (r1, r2, r3) := H
       have A21 := Aside0.mk A210
       clear A210
       have HC22 := Aside0.mk H
       clear H
       obtain ⟨Ao23, co23, eo23⟩ := Kd.R_slice HO_11.out
       subst eo23
       go_upto_region 17 with (first | (go_at_call 108; (with_reducible refine (spec_l4Get.calls k2 _ _ l0 x16_2 t1131 t1132 _ ?side1 ?side2 A21.out).mono ?_); (case side1 => exact kC_ ((Kd.V_reads' HO_0.out).2.2)); (case side2 => exact (Kd.V_reads' HO_0.out).2.1); rintro e w' ⟨rfl, ⟨nd, rfl⟩⟩; (try first | exact ⟨rfl, _, World.drewN_drewN _ _ _⟩ | exact ⟨rfl, _, Eq.trans (World.drewN_drewN _ _ _) (congrArg (World.drewN _) (Nat.add_assoc _ _ _))⟩)))
       repeat (go_quiet (first | (go_at_call 108; (with_reducible refine (spec_l4Get.calls k2 _ _ l0 x16_2 t1131 t1132 _ ?side1 ?side2 A21.out).mono ?_); (case side1 => exact kC_ ((Kd.V_reads' HO_0.out).2.2)); (case side2 => exact (Kd.V_reads' HO_0.out).2.1); rintro e w' ⟨rfl, ⟨nd, rfl⟩⟩; (try first | exact ⟨rfl, _, World.drewN_drewN _ _ _⟩ | exact ⟨rfl, _, Eq.trans (World.drewN_drewN _ _ _) (congrArg (World.drewN _) (Nat.add_assoc _ _ _))⟩))); go_upto_region 17 with (first | (go_at_call 108; (with_reducible refine (spec_l4Get.calls k2 _ _ l0 x16_2 t1131 t1132 _ ?side1 ?side2 A21.out).mono ?_); (case side1 => exact kC_ ((Kd.V_reads' HO_0.out).2.2)); (case side2 => exact (Kd.V_reads' HO_0.out).2.1); rintro e w' ⟨rfl, ⟨nd, rfl⟩⟩; (try first | exact ⟨rfl, _, World.drewN_drewN _ _ _⟩ | exact ⟨rfl, _, Eq.trans (World.drewN_drewN _ _ _) (congrArg (World.drewN _) (Nat.add_assoc _ _ _))⟩))))
       (try simp only [Act.put, List.setIfInBounds_toArray, List.set_cons_zero, List.set_cons_succ])
       go_cut [87] (fun v87 wc => ∃ (kq : Nat) (x87_21 : Bool), v87 = .bool x87_21 ∧ Aside0 (spec_l10Set.j2 kq l0 l2 a3 x11_5 x16_2 x87_21 = some (r1, r2, r3)) ∧ Aside0 (kq ≤ k2) ∧ Aside0 (Kd.V k65 65 wc w.heap.size (fun k_ => (P0_ k_ ∨ w.heap.size ≤ k_) ∧ some k_ ≠ ((.slice Ao23 x11_5.length co23) : Value).ownBlock) (.slice A0 l0.length c0) l0) ∧ Aside0 (Kd.R k109 109 wc w.heap.size (fun k_ => (w.heap.size ≤ k_)) (.slice Ao23 x11_5.length co23) x11_5) ∧ Aside0 (Below w.heap.size w wc))
       case first =>
        have H := HC22.out
        clear HC22
        by_cases c24 : (l2.length : Int) = 1
        ·rw [if_pos c24] at H
         have c24b0 : ((l2.length : Int) == 1) = true := beq_iff_eq.mpr c24
         have c24b1 : ((l2.length : Int) != 1) = false := bne_eq_false_iff_eq.mpr c24
         clear c24
         (first | rw [c24b0] | (simp only [i64_w, i32_w]; rw [c24b0]) | skip)
         by_cases c25 : x16_2 ≥ 0
         ·rw [if_pos c25] at H
          have c25b0 : decide (0 ≤ x16_2) = true := decide_eq_true c25
          clear c25
          by_cases c26 : t1132 = true
          ·subst c26
           have H1 : ((spec_TextKind.f k2 t1131).bind fun t1133 => (spec_l10Set.j2 k2 l0 l2 a3 x11_5 x16_2 (t1133 != 1))) = some (r1, r2, r3) := by rw [if_pos rfl] at H; exact H
           clear H
           have H := H1
           clear H1
           replace H := Option.bind_eq_some_iff.mp H
           obtain ⟨t1133, A270, H⟩ := H
           replace H : (spec_l10Set.j2 k2 l0 l2 a3 x11_5 x16_2 (t1133 != 1)) = some (r1, r2, r3) := H
           have A27 := Aside0.mk A270
           clear A270
           have H' := Aside0.mk H
           clear H
           go_wp2_with (first | (go_at_call 117; (with_reducible refine (spec_TextKind.calls k2 t1131 t1133 _ A27.out).mono ?_); rintro e w28 ⟨rfl, hb⟩; have n0_ := Aside0.mk (Kd.V_below (kV_ HO_0.out) hb); have n1_ := Aside0.mk (Kd.R_below (kR_ HO_11.out) hb); have n2_ := Aside0.mk (below_step hb_ hb); clear HO_0; clear HO_11; clear HB; have HO_0 := n0_; have HO_11 := n1_; have HB := n2_; clear n0_ n1_ n2_; (try clear hb)))
           repeat (go_quiet (first | (go_at_call 117; (with_reducible refine (spec_TextKind.calls k2 t1131 t1133 _ A27.out).mono ?_); rintro e w28 ⟨rfl, hb⟩; have n0_ := Aside0.mk (Kd.V_below (kV_ HO_0.out) hb); have n1_ := Aside0.mk (Kd.R_below (kR_ HO_11.out) hb); have n2_ := Aside0.mk (below_step hb_ hb); clear HO_0; clear HO_11; clear HB; have HO_0 := n0_; have HO_11 := n1_; have HB := n2_; clear n0_ n1_ n2_; (try clear hb))); try go_wp2_with (first | (go_at_call 117; (with_reducible refine (spec_TextKind.calls k2 t1131 t1133 _ A27.out).mono ?_); rintro e w28 ⟨rfl, hb⟩; have n0_ := Aside0.mk (Kd.V_below (kV_ HO_0.out) hb); have n1_ := Aside0.mk (Kd.R_below (kR_ HO_11.out) hb); have n2_ := Aside0.mk (below_step hb_ hb); clear HO_0; clear HO_11; clear HB; have HO_0 := n0_; have HO_11 := n1_; have HB := n2_; clear n0_ n1_ n2_; (try clear hb))))
           go_meet
           case rel => exact ⟨_, ((t1133 != 1)), rs_, H', ⟨by have := HJ5.out; have := HK2.out; first | omega | exact Nat.le_refl _⟩, ⟨by refine kV_ ?_; exact HO_0.out⟩, ⟨by refine kR_ ?_; exact HO_11.out⟩, ⟨hb_⟩⟩
          ·replace c26 := Bool.eq_false_iff.mpr c26
           subst c26
           have H1 : (spec_l10Set.j2 k2 l0 l2 a3 x11_5 x16_2 true) = some (r1, r2, r3) := by rw [if_neg (show ¬ (false = true) by decide)] at H; exact H
           clear H
           have H := H1
           clear H1
           have H' := Aside0.mk H
           clear H
           go_wp2
           repeat (go_quiet (fail); try go_wp2)
           go_meet
           case rel => exact ⟨_, (true), rs_, H', ⟨by have := HJ5.out; have := HK2.out; first | omega | exact Nat.le_refl _⟩, ⟨by refine kV_ ?_; exact HO_0.out⟩, ⟨by refine kR_ ?_; exact HO_11.out⟩, ⟨hb_⟩⟩
         ·rw [if_neg c25] at H
          have c25b0 : decide (0 ≤ x16_2) = false := decide_eq_false c25
          clear c25
          have H' := Aside0.mk H
          clear H
          go_wp2
          repeat (go_quiet (fail); try go_wp2)
          go_meet
          case rel => exact ⟨_, (false), rs_, H', ⟨by have := HJ5.out; have := HK2.out; first | omega | exact Nat.le_refl _⟩, ⟨by refine kV_ ?_; exact HO_0.out⟩, ⟨by refine kR_ ?_; exact HO_11.out⟩, ⟨hb_⟩⟩
        ·rw [if_neg c24] at H
         have c24b0 : ((l2.length : Int) == 1) = false := beq_eq_false_iff_ne.mpr c24
         have c24b1 : ((l2.length : Int) != 1) = true := bne_iff_ne.mpr c24
         (first | rw [c24b0] | (simp only [i64_w, i32_w]; rw [c24b0]) | skip)
         have H' := Aside0.mk H
         clear H
         go_wp2
         repeat (go_quiet (fail); try go_wp2)
         go_meet
         case rel => exact ⟨_, (false), rs_, H', ⟨by have := HJ5.out; have := HK2.out; first | omega | exact Nat.le_refl _⟩, ⟨by refine kV_ ?_; exact HO_0.out⟩, ⟨by refine kR_ ?_; exact HO_11.out⟩, ⟨hb_⟩⟩
       case rest =>
        clear HC22
        try clear c1
        try clear p1
        try clear q1
        try clear hx1
        try clear qi1
        try clear c2
        try clear p2
        try clear c5
        try clear c5b0
        try clear c5b1
        try clear c5b2
        try clear p6
        try clear c9
        try clear c9b0
        try clear c10
        try clear p11
        try clear q11
        try clear hx11
        try clear qi11
        try clear c12
        try clear c15
        try clear c15b0
        try clear c16
        try clear c16b0
        try clear c17
        try clear c17b0
        try clear c17b1
        try clear c18
        try clear c18b0
        try clear c18b1
        try clear c24
        try clear c24b0
        try clear c24b1
        try clear c25
        try clear c25b0
        try clear c26
        try clear hx1128_0
        try clear hx1128_1
        try clear hx1129_0
        try clear hx1130_0
        try clear hx1130_1
        try clear p1128
        try clear p1129
        try clear p1130
        try clear p2
        try clear q1128
        try clear q1129
        try clear q1130
        obtain ⟨kq, x87_21, rfl, HA, HJ21, HO_0, HO_11, HB⟩ := hcut
        cases kq with
        | zero => exact absurd HA.out (by simp [spec_l10Set.j2])
        | succ kj21 =>
         have H := HA.out
         clear HA
         simp only [spec_l10Set.j2] at H
         by_cases c29 : x87_21 = true
         ·subst c29
          have H1 : (some (l0, (-1), false)) = some (r1, r2, r3) := by rw [if_pos rfl] at H; exact H
          clear H
          have H := H1
          clear H1
          simp only [Option.some.injEq, Prod.mk.injEq] at H
          obtain ⟨rfl, rfl, rfl⟩ := H
          go_wp2
          repeat (go_quiet (fail); try go_wp2)
          go_ret3
          exact ⟨_, er_, by refine kV_ ?_; exact Kd.V_mono HO_0.out (fun _ hk => hk.1), hb_⟩
         ·replace c29 := Bool.eq_false_iff.mpr c29
          subst c29
          have H1 : (if 1 ≤ (l2.length : Int) then ((spec_l10Set.f kj21 l0 x16_2 (l2.drop 1) a3).bind fun bt1135 => (if bt1135.2.2 = true then (if 0 < (l2.length : Int) then ((spec_PutEntry.f kj21 x11_5 (rdOf ByteArray.empty l2 0) bt1135.2.1).bind fun bt1141 => (if bt1141.2 = true then ((spec_FolderText.f kj21 bt1141.1).bind fun t1145 => ((spec_PutText.f kj21 bt1135.1 t1145).bind fun bt1146 => (some (bt1146.1, bt1146.2.1, bt1146.2.2)))) else (some (bt1135.1, (-1), false)))) else (none)) else (some (bt1135.1, (-1), false)))) else (none)) = some (r1, r2, r3) := by rw [if_neg (show ¬ (false = true) by decide)] at H; exact H
          clear H
          have H := H1
          clear H1
          by_cases c30 : 1 ≤ (l2.length : Int); rotate_left
          ·rw [if_neg c30] at H; exact absurd H (by simp)
          rw [if_pos c30] at H
          have c30b0 := eq_true c30
          have c30b1 : decide (1 ≤ (l2.length : Int)) = true := decide_eq_true c30
          clear c30
          replace H := Option.bind_eq_some_iff.mp H
          obtain ⟨⟨t1135, t1138, t1139⟩, A310, H⟩ := H
          replace H : (if t1139 = true then (if 0 < (l2.length : Int) then ((spec_PutEntry.f kj21 x11_5 (rdOf ByteArray.empty l2 0) t1138).bind fun bt1141 => (if bt1141.2 = true then ((spec_FolderText.f kj21 bt1141.1).bind fun t1145 => ((spec_PutText.f kj21 t1135 t1145).bind fun bt1146 => (some (bt1146.1, bt1146.2.1, bt1146.2.2)))) else (some (t1135, (-1), false)))) else (none)) else (some (t1135, (-1), false))) = some (r1, r2, r3) := H
          have A31 := Aside0.mk A310
          clear A310
          by_cases c32 : t1139 = true
          ·subst c32
           have H1 : (if 0 < (l2.length : Int) then ((spec_PutEntry.f kj21 x11_5 (rdOf ByteArray.empty l2 0) t1138).bind fun bt1141 => (if bt1141.2 = true then ((spec_FolderText.f kj21 bt1141.1).bind fun t1145 => ((spec_PutText.f kj21 t1135 t1145).bind fun bt1146 => (some (bt1146.1, bt1146.2.1, bt1146.2.2)))) else (some (t1135, (-1), false)))) else (none)) = some (r1, r2, r3) := by rw [if_pos rfl] at H; exact H
           clear H
           have H := H1
           clear H1
           by_cases c33 : 0 < (l2.length : Int); rotate_left
           ·rw [if_neg c33] at H; exact absurd H (by simp)
           rw [if_pos c33] at H
           have c33b0 : decide (0 < (l2.length : Int)) = true := decide_eq_true c33
           have c33b1 : decide (0 < l2.length) = true := decide_eq_true (by omega)
           clear c33
           replace H := Option.bind_eq_some_iff.mp H
           obtain ⟨⟨t1141, t1144⟩, A340, H⟩ := H
           replace H : (if t1144 = true then ((spec_FolderText.f kj21 t1141).bind fun t1145 => ((spec_PutText.f kj21 t1135 t1145).bind fun bt1146 => (some (bt1146.1, bt1146.2.1, bt1146.2.2)))) else (some (t1135, (-1), false))) = some (r1, r2, r3) := H
           have A34 := Aside0.mk A340
           clear A340
           by_cases c35 : t1144 = true
           ·subst c35
            have H1 : ((spec_FolderText.f kj21 t1141).bind fun t1145 => ((spec_PutText.f kj21 t1135 t1145).bind fun bt1146 => (some (bt1146.1, bt1146.2.1, bt1146.2.2)))) = some (r1, r2, r3) := by rw [if_pos rfl] at H; exact H
            clear H
            have H := H1
            clear H1
            replace H := Option.bind_eq_some_iff.mp H
            obtain ⟨t1145, A360, H⟩ := H
            replace H : ((spec_PutText.f kj21 t1135 t1145).bind fun bt1146 => (some (bt1146.1, bt1146.2.1, bt1146.2.2))) = some (r1, r2, r3) := H
            have A36 := Aside0.mk A360
            clear A360
            replace H := Option.bind_eq_some_iff.mp H
            obtain ⟨⟨t1146, t1147, t1148⟩, A370, H⟩ := H
            replace H : (some (t1146, t1147, t1148)) = some (r1, r2, r3) := H
            have A37 := Aside0.mk A370
            clear A370
            simp only [Option.some.injEq, Prod.mk.injEq] at H
            obtain ⟨rfl, rfl, rfl⟩ := H
            obtain ⟨i038, hi038, _, hsz38, _⟩ := info_parts info9
            obtain ⟨A38, hcut38, hA38, hC38⟩ := print_drop_of (P := Try.prog) Value.string (⟨#[]⟩ : ByteArray) 29 9 .i64 Try.underlying29 hi038 hsz38 A2 c2 l2 1 (by omega) (dt_) HC2.out
            have HR1134 := Aside0.mk (Kd.C_of_reads (h1 := fun _ => rfl) (hA38 _ (Kd.reads_of_C HR2.out)))
            have HC1134 := Aside0.mk hC38
            clear hA38 hC38 hi038 hsz38
            go_wp2_with (first | (go_at_call 109; refine calls_of_args (args' := #[.slice A0 l0.length c0, .int .i64 x16_2, .slice A38 (l2.drop 1).length (c2 - 1), .int .i64 a3]) (by first | (simp only [List.length_drop, List.length_take] <;> rfl) | rfl) ?_; (with_reducible refine (ih kj21 (by have := HJ5.out; have := HK2.out; have := HJ21.out; omega) (fun k_ => ((P0_ k_ ∨ w.heap.size ≤ k_) ∧ some k_ ≠ (.slice Ao23 x11_5.length co23 : Value).ownBlock)) _ _ l0 x16_2 _ _ (l2.drop 1) a3 t1135 t1138 true _ ?side1 ?side2 ?side3 A31.out).mono ?_); (case side1 => exact HO_0.out); (case side2 => exact kC_ (Kd.C_below HR1134.out HB.out)); (case side3 => exact HC1134.out); rintro e w39 ⟨v1136, rfl, ho0, hb⟩; have n0_ := Aside0.mk (Kd.V_below (kV_ HO_0.out) hb); have n1_ := Aside0.mk (Kd.R_below (kR_ HO_11.out) hb); have n2_ := Aside0.mk (Kd.V_lower (Kd.V_mono (ok' := fun k_ => (P0_ k_ ∨ w.heap.size ≤ k_) ∧ some k_ ≠ (.slice Ao23 x11_5.length co23 : Value).ownBlock) ho0 (fun k_ hk_ => ⟨Or.elim hk_ (fun hs_ => hs_.1) (fun hn_ => (.inr (Nat.le_trans (below_size hb_) hn_))), Or.elim hk_ (fun hs_ => hs_.2) (fun hn_ => (Kd.fresh' (Kd.R_lt (kR_ HO_11.out)) k_ hn_))⟩)) (below_size hb_)); have n3_ := Aside0.mk (below_step hb_ hb); clear HO_0; clear HO_11; clear HB; have HO_0 := n0_; have HO_11 := n1_; have HO1137 := n2_; have HB := n3_; clear n0_ n1_ n2_ n3_; (try clear hb); (try clear ho0); have p1140 : 0 ≤ (0 : Int) := (by omega); have q1140 : 0 < (l2.length : Int) := dt_; obtain ⟨ad1140, e1140, hx1140_0⟩ := Kd.at_string HR2.out 0 p1140 q1140; cases e1140; have qi1140 : (0 < l2.length) = True := eq_true (by omega); (try rw [show ((0 : Int)).toNat = 0 from rfl] at hx1140_0); (try rw [Addr.add_zero'] at hx1140_0); replace hx1140_0 := cb_ HB.out hx1140_0; replace p1140 := eq_true p1140; replace q1140 := eq_true q1140) | (go_at_call 116; (with_reducible refine (spec_PutEntry.calls kj21 (fun k_ => some k_ = (.slice Ao23 x11_5.length co23 : Value).ownBlock) _ _ x11_5 (rdOf ByteArray.empty l2 0) t1138 t1141 true _ ?side1 A34.out).mono ?_); (case side1 => exact Kd.R_V (Kd.R_tight rfl (HO_11.out))); rintro e w40 ⟨v1142, rfl, ho0, hb⟩; have n0_ := Aside0.mk (Kd.V_elder' (kV_ HO_0.out) (Kd.R_base ho0) hb); have n1_ := Aside0.mk (Kd.R_elder' (kR_ HO_11.out) (Kd.R_base ho0) hb); have n2_ := Aside0.mk (Kd.V_elder' (kV_ HO1137.out) (Kd.R_base ho0) hb); have n3_ := Aside0.mk (Kd.R_lower (Kd.R_new' (Kd.R_newM (M := fun k_ => (w.heap.size ≤ k_)) (Kd.R_mono (ok' := fun k_ => True) ho0 (fun _ hk_ => trivial)) (below_size hb_) (fun k_ h_ => h_)) (Kd.R_lt (kR_ HO_11.out))) (below_size hb_)); have n4_ := Aside0.mk (below_step hb_ hb); clear HO_0; clear HO_11; clear HO1137; clear HB; have HO_0 := n0_; have HO_11 := n1_; have HO1137 := n2_; have HO1143 := n3_; have HB := n4_; clear n0_ n1_ n2_ n3_ n4_; (try clear hb); (try clear ho0); obtain ⟨Ao41, co41, eo41⟩ := Kd.R_slice HO1143.out; subst eo41) | (go_at_call 96; (with_reducible refine (spec_FolderText.calls kj21 _ _ t1141 t1145 _ ?side1 ?side2 A36.out).mono ?_); (case side1 => exact kC_ ((Kd.R_reads' HO1143.out).2.2)); (case side2 => exact (Kd.R_reads' HO1143.out).2.1); rintro e w42 ⟨rfl, hb⟩; have n0_ := Aside0.mk (Kd.V_below (kV_ HO_0.out) hb); have n1_ := Aside0.mk (Kd.R_below (kR_ HO_11.out) hb); have n2_ := Aside0.mk (Kd.V_below (kV_ HO1137.out) hb); have n3_ := Aside0.mk (Kd.R_below (kR_ HO1143.out) hb); have n4_ := Aside0.mk (below_step hb_ hb); clear HO_0; clear HO_11; clear HO1137; clear HO1143; clear HB; have HO_0 := n0_; have HO_11 := n1_; have HO1137 := n2_; have HO1143 := n3_; have HB := n4_; clear n0_ n1_ n2_ n3_ n4_; (try clear hb); obtain ⟨Ao43, co43, eo43⟩ := Kd.V_slice HO1137.out; subst eo43) | (go_at_call 57; (with_reducible refine (spec_PutText.calls kj21 _ _ t1135 t1145 t1146 t1147 t1148 _ ?side1 ?side2 A37.out).mono ?_); (case side1 => exact kC_ ((Kd.V_reads' HO1137.out).2.2)); (case side2 => exact (Kd.V_reads' HO1137.out).2.1); rintro e w44 ⟨v1149, rfl, ho0, hb⟩; have n0_ := Aside0.mk (Kd.V_elder' (kV_ HO_0.out) (Kd.R_base ho0) hb); have n1_ := Aside0.mk (Kd.R_below (kR_ HO_11.out) hb); have n2_ := Aside0.mk (Kd.V_elder' (kV_ HO1137.out) (Kd.R_base ho0) hb); have n3_ := Aside0.mk (Kd.R_below (kR_ HO1143.out) hb); have n4_ := Aside0.mk (Kd.R_lower (Kd.R_newM (M := fun k_ => (w.heap.size ≤ k_)) ho0 (below_size hb_) (fun k_ h_ => h_)) (below_size hb_)); have n5_ := Aside0.mk (below_step hb_ hb); clear HO_0; clear HO_11; clear HO1137; clear HO1143; clear HB; have HO_0 := n0_; have HO_11 := n1_; have HO1137 := n2_; have HO1143 := n3_; have HO1150 := n4_; have HB := n5_; clear n0_ n1_ n2_ n3_ n4_ n5_; (try clear hb); (try clear ho0)))
            repeat (go_quiet (first | (go_at_call 109; refine calls_of_args (args' := #[.slice A0 l0.length c0, .int .i64 x16_2, .slice A38 (l2.drop 1).length (c2 - 1), .int .i64 a3]) (by first | (simp only [List.length_drop, List.length_take] <;> rfl) | rfl) ?_; (with_reducible refine (ih kj21 (by have := HJ5.out; have := HK2.out; have := HJ21.out; omega) (fun k_ => ((P0_ k_ ∨ w.heap.size ≤ k_) ∧ some k_ ≠ (.slice Ao23 x11_5.length co23 : Value).ownBlock)) _ _ l0 x16_2 _ _ (l2.drop 1) a3 t1135 t1138 true _ ?side1 ?side2 ?side3 A31.out).mono ?_); (case side1 => exact HO_0.out); (case side2 => exact kC_ (Kd.C_below HR1134.out HB.out)); (case side3 => exact HC1134.out); rintro e w39 ⟨v1136, rfl, ho0, hb⟩; have n0_ := Aside0.mk (Kd.V_below (kV_ HO_0.out) hb); have n1_ := Aside0.mk (Kd.R_below (kR_ HO_11.out) hb); have n2_ := Aside0.mk (Kd.V_lower (Kd.V_mono (ok' := fun k_ => (P0_ k_ ∨ w.heap.size ≤ k_) ∧ some k_ ≠ (.slice Ao23 x11_5.length co23 : Value).ownBlock) ho0 (fun k_ hk_ => ⟨Or.elim hk_ (fun hs_ => hs_.1) (fun hn_ => (.inr (Nat.le_trans (below_size hb_) hn_))), Or.elim hk_ (fun hs_ => hs_.2) (fun hn_ => (Kd.fresh' (Kd.R_lt (kR_ HO_11.out)) k_ hn_))⟩)) (below_size hb_)); have n3_ := Aside0.mk (below_step hb_ hb); clear HO_0; clear HO_11; clear HB; have HO_0 := n0_; have HO_11 := n1_; have HO1137 := n2_; have HB := n3_; clear n0_ n1_ n2_ n3_; (try clear hb); (try clear ho0); have p1140 : 0 ≤ (0 : Int) := (by omega); have q1140 : 0 < (l2.length : Int) := dt_; obtain ⟨ad1140, e1140, hx1140_0⟩ := Kd.at_string HR2.out 0 p1140 q1140; cases e1140; have qi1140 : (0 < l2.length) = True := eq_true (by omega); (try rw [show ((0 : Int)).toNat = 0 from rfl] at hx1140_0); (try rw [Addr.add_zero'] at hx1140_0); replace hx1140_0 := cb_ HB.out hx1140_0; replace p1140 := eq_true p1140; replace q1140 := eq_true q1140) | (go_at_call 116; (with_reducible refine (spec_PutEntry.calls kj21 (fun k_ => some k_ = (.slice Ao23 x11_5.length co23 : Value).ownBlock) _ _ x11_5 (rdOf ByteArray.empty l2 0) t1138 t1141 true _ ?side1 A34.out).mono ?_); (case side1 => exact Kd.R_V (Kd.R_tight rfl (HO_11.out))); rintro e w40 ⟨v1142, rfl, ho0, hb⟩; have n0_ := Aside0.mk (Kd.V_elder' (kV_ HO_0.out) (Kd.R_base ho0) hb); have n1_ := Aside0.mk (Kd.R_elder' (kR_ HO_11.out) (Kd.R_base ho0) hb); have n2_ := Aside0.mk (Kd.V_elder' (kV_ HO1137.out) (Kd.R_base ho0) hb); have n3_ := Aside0.mk (Kd.R_lower (Kd.R_new' (Kd.R_newM (M := fun k_ => (w.heap.size ≤ k_)) (Kd.R_mono (ok' := fun k_ => True) ho0 (fun _ hk_ => trivial)) (below_size hb_) (fun k_ h_ => h_)) (Kd.R_lt (kR_ HO_11.out))) (below_size hb_)); have n4_ := Aside0.mk (below_step hb_ hb); clear HO_0; clear HO_11; clear HO1137; clear HB; have HO_0 := n0_; have HO_11 := n1_; have HO1137 := n2_; have HO1143 := n3_; have HB := n4_; clear n0_ n1_ n2_ n3_ n4_; (try clear hb); (try clear ho0); obtain ⟨Ao41, co41, eo41⟩ := Kd.R_slice HO1143.out; subst eo41) | (go_at_call 96; (with_reducible refine (spec_FolderText.calls kj21 _ _ t1141 t1145 _ ?side1 ?side2 A36.out).mono ?_); (case side1 => exact kC_ ((Kd.R_reads' HO1143.out).2.2)); (case side2 => exact (Kd.R_reads' HO1143.out).2.1); rintro e w42 ⟨rfl, hb⟩; have n0_ := Aside0.mk (Kd.V_below (kV_ HO_0.out) hb); have n1_ := Aside0.mk (Kd.R_below (kR_ HO_11.out) hb); have n2_ := Aside0.mk (Kd.V_below (kV_ HO1137.out) hb); have n3_ := Aside0.mk (Kd.R_below (kR_ HO1143.out) hb); have n4_ := Aside0.mk (below_step hb_ hb); clear HO_0; clear HO_11; clear HO1137; clear HO1143; clear HB; have HO_0 := n0_; have HO_11 := n1_; have HO1137 := n2_; have HO1143 := n3_; have HB := n4_; clear n0_ n1_ n2_ n3_ n4_; (try clear hb); obtain ⟨Ao43, co43, eo43⟩ := Kd.V_slice HO1137.out; subst eo43) | (go_at_call 57; (with_reducible refine (spec_PutText.calls kj21 _ _ t1135 t1145 t1146 t1147 t1148 _ ?side1 ?side2 A37.out).mono ?_); (case side1 => exact kC_ ((Kd.V_reads' HO1137.out).2.2)); (case side2 => exact (Kd.V_reads' HO1137.out).2.1); rintro e w44 ⟨v1149, rfl, ho0, hb⟩; have n0_ := Aside0.mk (Kd.V_elder' (kV_ HO_0.out) (Kd.R_base ho0) hb); have n1_ := Aside0.mk (Kd.R_below (kR_ HO_11.out) hb); have n2_ := Aside0.mk (Kd.V_elder' (kV_ HO1137.out) (Kd.R_base ho0) hb); have n3_ := Aside0.mk (Kd.R_below (kR_ HO1143.out) hb); have n4_ := Aside0.mk (Kd.R_lower (Kd.R_newM (M := fun k_ => (w.heap.size ≤ k_)) ho0 (below_size hb_) (fun k_ h_ => h_)) (below_size hb_)); have n5_ := Aside0.mk (below_step hb_ hb); clear HO_0; clear HO_11; clear HO1137; clear HO1143; clear HB; have HO_0 := n0_; have HO_11 := n1_; have HO1137 := n2_; have HO1143 := n3_; have HO1150 := n4_; have HB := n5_; clear n0_ n1_ n2_ n3_ n4_ n5_; (try clear hb); (try clear ho0))); try go_wp2_with (first | (go_at_call 109; refine calls_of_args (args' := #[.slice A0 l0.length c0, .int .i64 x16_2, .slice A38 (l2.drop 1).length (c2 - 1), .int .i64 a3]) (by first | (simp only [List.length_drop, List.length_take] <;> rfl) | rfl) ?_; (with_reducible refine (ih kj21 (by have := HJ5.out; have := HK2.out; have := HJ21.out; omega) (fun k_ => ((P0_ k_ ∨ w.heap.size ≤ k_) ∧ some k_ ≠ (.slice Ao23 x11_5.length co23 : Value).ownBlock)) _ _ l0 x16_2 _ _ (l2.drop 1) a3 t1135 t1138 true _ ?side1 ?side2 ?side3 A31.out).mono ?_); (case side1 => exact HO_0.out); (case side2 => exact kC_ (Kd.C_below HR1134.out HB.out)); (case side3 => exact HC1134.out); rintro e w39 ⟨v1136, rfl, ho0, hb⟩; have n0_ := Aside0.mk (Kd.V_below (kV_ HO_0.out) hb); have n1_ := Aside0.mk (Kd.R_below (kR_ HO_11.out) hb); have n2_ := Aside0.mk (Kd.V_lower (Kd.V_mono (ok' := fun k_ => (P0_ k_ ∨ w.heap.size ≤ k_) ∧ some k_ ≠ (.slice Ao23 x11_5.length co23 : Value).ownBlock) ho0 (fun k_ hk_ => ⟨Or.elim hk_ (fun hs_ => hs_.1) (fun hn_ => (.inr (Nat.le_trans (below_size hb_) hn_))), Or.elim hk_ (fun hs_ => hs_.2) (fun hn_ => (Kd.fresh' (Kd.R_lt (kR_ HO_11.out)) k_ hn_))⟩)) (below_size hb_)); have n3_ := Aside0.mk (below_step hb_ hb); clear HO_0; clear HO_11; clear HB; have HO_0 := n0_; have HO_11 := n1_; have HO1137 := n2_; have HB := n3_; clear n0_ n1_ n2_ n3_; (try clear hb); (try clear ho0); have p1140 : 0 ≤ (0 : Int) := (by omega); have q1140 : 0 < (l2.length : Int) := dt_; obtain ⟨ad1140, e1140, hx1140_0⟩ := Kd.at_string HR2.out 0 p1140 q1140; cases e1140; have qi1140 : (0 < l2.length) = True := eq_true (by omega); (try rw [show ((0 : Int)).toNat = 0 from rfl] at hx1140_0); (try rw [Addr.add_zero'] at hx1140_0); replace hx1140_0 := cb_ HB.out hx1140_0; replace p1140 := eq_true p1140; replace q1140 := eq_true q1140) | (go_at_call 116; (with_reducible refine (spec_PutEntry.calls kj21 (fun k_ => some k_ = (.slice Ao23 x11_5.length co23 : Value).ownBlock) _ _ x11_5 (rdOf ByteArray.empty l2 0) t1138 t1141 true _ ?side1 A34.out).mono ?_); (case side1 => exact Kd.R_V (Kd.R_tight rfl (HO_11.out))); rintro e w40 ⟨v1142, rfl, ho0, hb⟩; have n0_ := Aside0.mk (Kd.V_elder' (kV_ HO_0.out) (Kd.R_base ho0) hb); have n1_ := Aside0.mk (Kd.R_elder' (kR_ HO_11.out) (Kd.R_base ho0) hb); have n2_ := Aside0.mk (Kd.V_elder' (kV_ HO1137.out) (Kd.R_base ho0) hb); have n3_ := Aside0.mk (Kd.R_lower (Kd.R_new' (Kd.R_newM (M := fun k_ => (w.heap.size ≤ k_)) (Kd.R_mono (ok' := fun k_ => True) ho0 (fun _ hk_ => trivial)) (below_size hb_) (fun k_ h_ => h_)) (Kd.R_lt (kR_ HO_11.out))) (below_size hb_)); have n4_ := Aside0.mk (below_step hb_ hb); clear HO_0; clear HO_11; clear HO1137; clear HB; have HO_0 := n0_; have HO_11 := n1_; have HO1137 := n2_; have HO1143 := n3_; have HB := n4_; clear n0_ n1_ n2_ n3_ n4_; (try clear hb); (try clear ho0); obtain ⟨Ao41, co41, eo41⟩ := Kd.R_slice HO1143.out; subst eo41) | (go_at_call 96; (with_reducible refine (spec_FolderText.calls kj21 _ _ t1141 t1145 _ ?side1 ?side2 A36.out).mono ?_); (case side1 => exact kC_ ((Kd.R_reads' HO1143.out).2.2)); (case side2 => exact (Kd.R_reads' HO1143.out).2.1); rintro e w42 ⟨rfl, hb⟩; have n0_ := Aside0.mk (Kd.V_below (kV_ HO_0.out) hb); have n1_ := Aside0.mk (Kd.R_below (kR_ HO_11.out) hb); have n2_ := Aside0.mk (Kd.V_below (kV_ HO1137.out) hb); have n3_ := Aside0.mk (Kd.R_below (kR_ HO1143.out) hb); have n4_ := Aside0.mk (below_step hb_ hb); clear HO_0; clear HO_11; clear HO1137; clear HO1143; clear HB; have HO_0 := n0_; have HO_11 := n1_; have HO1137 := n2_; have HO1143 := n3_; have HB := n4_; clear n0_ n1_ n2_ n3_ n4_; (try clear hb); obtain ⟨Ao43, co43, eo43⟩ := Kd.V_slice HO1137.out; subst eo43) | (go_at_call 57; (with_reducible refine (spec_PutText.calls kj21 _ _ t1135 t1145 t1146 t1147 t1148 _ ?side1 ?side2 A37.out).mono ?_); (case side1 => exact kC_ ((Kd.V_reads' HO1137.out).2.2)); (case side2 => exact (Kd.V_reads' HO1137.out).2.1); rintro e w44 ⟨v1149, rfl, ho0, hb⟩; have n0_ := Aside0.mk (Kd.V_elder' (kV_ HO_0.out) (Kd.R_base ho0) hb); have n1_ := Aside0.mk (Kd.R_below (kR_ HO_11.out) hb); have n2_ := Aside0.mk (Kd.V_elder' (kV_ HO1137.out) (Kd.R_base ho0) hb); have n3_ := Aside0.mk (Kd.R_below (kR_ HO1143.out) hb); have n4_ := Aside0.mk (Kd.R_lower (Kd.R_newM (M := fun k_ => (w.heap.size ≤ k_)) ho0 (below_size hb_) (fun k_ h_ => h_)) (below_size hb_)); have n5_ := Aside0.mk (below_step hb_ hb); clear HO_0; clear HO_11; clear HO1137; clear HO1143; clear HB; have HO_0 := n0_; have HO_11 := n1_; have HO1137 := n2_; have HO1143 := n3_; have HO1150 := n4_; have HB := n5_; clear n0_ n1_ n2_ n3_ n4_ n5_; (try clear hb); (try clear ho0))))
            go_ret3
            exact ⟨_, er_, Kd.V_mono (Kd.R_V (by refine kR_ ?_; exact Kd.R_mono HO1150.out (fun _ hk => hk.1))) (fun k_ hk => by first | exact ⟨(.inr (hk.1)), hk.2⟩ | exact (.inr (hk))), hb_⟩
           ·replace c35 := Bool.eq_false_iff.mpr c35
            subst c35
            have H1 : (some (t1135, (-1), false)) = some (r1, r2, r3) := by rw [if_neg (show ¬ (false = true) by decide)] at H; exact H
            clear H
            have H := H1
            clear H1
            simp only [Option.some.injEq, Prod.mk.injEq] at H
            obtain ⟨rfl, rfl, rfl⟩ := H
            obtain ⟨i045, hi045, _, hsz45, _⟩ := info_parts info9
            obtain ⟨A45, hcut45, hA45, hC45⟩ := print_drop_of (P := Try.prog) Value.string (⟨#[]⟩ : ByteArray) 29 9 .i64 Try.underlying29 hi045 hsz45 A2 c2 l2 1 (by omega) (dt_) HC2.out
            have HR1134 := Aside0.mk (Kd.C_of_reads (h1 := fun _ => rfl) (hA45 _ (Kd.reads_of_C HR2.out)))
            have HC1134 := Aside0.mk hC45
            clear hA45 hC45 hi045 hsz45
            go_wp2_with (first | (go_at_call 109; refine calls_of_args (args' := #[.slice A0 l0.length c0, .int .i64 x16_2, .slice A45 (l2.drop 1).length (c2 - 1), .int .i64 a3]) (by first | (simp only [List.length_drop, List.length_take] <;> rfl) | rfl) ?_; (with_reducible refine (ih kj21 (by have := HJ5.out; have := HK2.out; have := HJ21.out; omega) (fun k_ => ((P0_ k_ ∨ w.heap.size ≤ k_) ∧ some k_ ≠ (.slice Ao23 x11_5.length co23 : Value).ownBlock)) _ _ l0 x16_2 _ _ (l2.drop 1) a3 t1135 t1138 true _ ?side1 ?side2 ?side3 A31.out).mono ?_); (case side1 => exact HO_0.out); (case side2 => exact kC_ (Kd.C_below HR1134.out HB.out)); (case side3 => exact HC1134.out); rintro e w46 ⟨v1136, rfl, ho0, hb⟩; have n0_ := Aside0.mk (Kd.V_below (kV_ HO_0.out) hb); have n1_ := Aside0.mk (Kd.R_below (kR_ HO_11.out) hb); have n2_ := Aside0.mk (Kd.V_lower (Kd.V_mono (ok' := fun k_ => (P0_ k_ ∨ w.heap.size ≤ k_) ∧ some k_ ≠ (.slice Ao23 x11_5.length co23 : Value).ownBlock) ho0 (fun k_ hk_ => ⟨Or.elim hk_ (fun hs_ => hs_.1) (fun hn_ => (.inr (Nat.le_trans (below_size hb_) hn_))), Or.elim hk_ (fun hs_ => hs_.2) (fun hn_ => (Kd.fresh' (Kd.R_lt (kR_ HO_11.out)) k_ hn_))⟩)) (below_size hb_)); have n3_ := Aside0.mk (below_step hb_ hb); clear HO_0; clear HO_11; clear HB; have HO_0 := n0_; have HO_11 := n1_; have HO1137 := n2_; have HB := n3_; clear n0_ n1_ n2_ n3_; (try clear hb); (try clear ho0); have p1140 : 0 ≤ (0 : Int) := (by omega); have q1140 : 0 < (l2.length : Int) := dt_; obtain ⟨ad1140, e1140, hx1140_0⟩ := Kd.at_string HR2.out 0 p1140 q1140; cases e1140; have qi1140 : (0 < l2.length) = True := eq_true (by omega); (try rw [show ((0 : Int)).toNat = 0 from rfl] at hx1140_0); (try rw [Addr.add_zero'] at hx1140_0); replace hx1140_0 := cb_ HB.out hx1140_0; replace p1140 := eq_true p1140; replace q1140 := eq_true q1140) | (go_at_call 116; (with_reducible refine (spec_PutEntry.calls kj21 (fun k_ => some k_ = (.slice Ao23 x11_5.length co23 : Value).ownBlock) _ _ x11_5 (rdOf ByteArray.empty l2 0) t1138 t1141 false _ ?side1 A34.out).mono ?_); (case side1 => exact Kd.R_V (Kd.R_tight rfl (HO_11.out))); rintro e w47 ⟨v1142, rfl, ho0, hb⟩; have n0_ := Aside0.mk (Kd.V_elder' (kV_ HO_0.out) (Kd.R_base ho0) hb); have n1_ := Aside0.mk (Kd.R_elder' (kR_ HO_11.out) (Kd.R_base ho0) hb); have n2_ := Aside0.mk (Kd.V_elder' (kV_ HO1137.out) (Kd.R_base ho0) hb); have n3_ := Aside0.mk (Kd.R_lower (Kd.R_new' (Kd.R_newM (M := fun k_ => (w.heap.size ≤ k_)) (Kd.R_mono (ok' := fun k_ => True) ho0 (fun _ hk_ => trivial)) (below_size hb_) (fun k_ h_ => h_)) (Kd.R_lt (kR_ HO_11.out))) (below_size hb_)); have n4_ := Aside0.mk (below_step hb_ hb); clear HO_0; clear HO_11; clear HO1137; clear HB; have HO_0 := n0_; have HO_11 := n1_; have HO1137 := n2_; have HO1143 := n3_; have HB := n4_; clear n0_ n1_ n2_ n3_ n4_; (try clear hb); (try clear ho0)))
            repeat (go_quiet (first | (go_at_call 109; refine calls_of_args (args' := #[.slice A0 l0.length c0, .int .i64 x16_2, .slice A45 (l2.drop 1).length (c2 - 1), .int .i64 a3]) (by first | (simp only [List.length_drop, List.length_take] <;> rfl) | rfl) ?_; (with_reducible refine (ih kj21 (by have := HJ5.out; have := HK2.out; have := HJ21.out; omega) (fun k_ => ((P0_ k_ ∨ w.heap.size ≤ k_) ∧ some k_ ≠ (.slice Ao23 x11_5.length co23 : Value).ownBlock)) _ _ l0 x16_2 _ _ (l2.drop 1) a3 t1135 t1138 true _ ?side1 ?side2 ?side3 A31.out).mono ?_); (case side1 => exact HO_0.out); (case side2 => exact kC_ (Kd.C_below HR1134.out HB.out)); (case side3 => exact HC1134.out); rintro e w46 ⟨v1136, rfl, ho0, hb⟩; have n0_ := Aside0.mk (Kd.V_below (kV_ HO_0.out) hb); have n1_ := Aside0.mk (Kd.R_below (kR_ HO_11.out) hb); have n2_ := Aside0.mk (Kd.V_lower (Kd.V_mono (ok' := fun k_ => (P0_ k_ ∨ w.heap.size ≤ k_) ∧ some k_ ≠ (.slice Ao23 x11_5.length co23 : Value).ownBlock) ho0 (fun k_ hk_ => ⟨Or.elim hk_ (fun hs_ => hs_.1) (fun hn_ => (.inr (Nat.le_trans (below_size hb_) hn_))), Or.elim hk_ (fun hs_ => hs_.2) (fun hn_ => (Kd.fresh' (Kd.R_lt (kR_ HO_11.out)) k_ hn_))⟩)) (below_size hb_)); have n3_ := Aside0.mk (below_step hb_ hb); clear HO_0; clear HO_11; clear HB; have HO_0 := n0_; have HO_11 := n1_; have HO1137 := n2_; have HB := n3_; clear n0_ n1_ n2_ n3_; (try clear hb); (try clear ho0); have p1140 : 0 ≤ (0 : Int) := (by omega); have q1140 : 0 < (l2.length : Int) := dt_; obtain ⟨ad1140, e1140, hx1140_0⟩ := Kd.at_string HR2.out 0 p1140 q1140; cases e1140; have qi1140 : (0 < l2.length) = True := eq_true (by omega); (try rw [show ((0 : Int)).toNat = 0 from rfl] at hx1140_0); (try rw [Addr.add_zero'] at hx1140_0); replace hx1140_0 := cb_ HB.out hx1140_0; replace p1140 := eq_true p1140; replace q1140 := eq_true q1140) | (go_at_call 116; (with_reducible refine (spec_PutEntry.calls kj21 (fun k_ => some k_ = (.slice Ao23 x11_5.length co23 : Value).ownBlock) _ _ x11_5 (rdOf ByteArray.empty l2 0) t1138 t1141 false _ ?side1 A34.out).mono ?_); (case side1 => exact Kd.R_V (Kd.R_tight rfl (HO_11.out))); rintro e w47 ⟨v1142, rfl, ho0, hb⟩; have n0_ := Aside0.mk (Kd.V_elder' (kV_ HO_0.out) (Kd.R_base ho0) hb); have n1_ := Aside0.mk (Kd.R_elder' (kR_ HO_11.out) (Kd.R_base ho0) hb); have n2_ := Aside0.mk (Kd.V_elder' (kV_ HO1137.out) (Kd.R_base ho0) hb); have n3_ := Aside0.mk (Kd.R_lower (Kd.R_new' (Kd.R_newM (M := fun k_ => (w.heap.size ≤ k_)) (Kd.R_mono (ok' := fun k_ => True) ho0 (fun _ hk_ => trivial)) (below_size hb_) (fun k_ h_ => h_)) (Kd.R_lt (kR_ HO_11.out))) (below_size hb_)); have n4_ := Aside0.mk (below_step hb_ hb); clear HO_0; clear HO_11; clear HO1137; clear HB; have HO_0 := n0_; have HO_11 := n1_; have HO1137 := n2_; have HO1143 := n3_; have HB := n4_; clear n0_ n1_ n2_ n3_ n4_; (try clear hb); (try clear ho0))); try go_wp2_with (first | (go_at_call 109; refine calls_of_args (args' := #[.slice A0 l0.length c0, .int .i64 x16_2, .slice A45 (l2.drop 1).length (c2 - 1), .int .i64 a3]) (by first | (simp only [List.length_drop, List.length_take] <;> rfl) | rfl) ?_; (with_reducible refine (ih kj21 (by have := HJ5.out; have := HK2.out; have := HJ21.out; omega) (fun k_ => ((P0_ k_ ∨ w.heap.size ≤ k_) ∧ some k_ ≠ (.slice Ao23 x11_5.length co23 : Value).ownBlock)) _ _ l0 x16_2 _ _ (l2.drop 1) a3 t1135 t1138 true _ ?side1 ?side2 ?side3 A31.out).mono ?_); (case side1 => exact HO_0.out); (case side2 => exact kC_ (Kd.C_below HR1134.out HB.out)); (case side3 => exact HC1134.out); rintro e w46 ⟨v1136, rfl, ho0, hb⟩; have n0_ := Aside0.mk (Kd.V_below (kV_ HO_0.out) hb); have n1_ := Aside0.mk (Kd.R_below (kR_ HO_11.out) hb); have n2_ := Aside0.mk (Kd.V_lower (Kd.V_mono (ok' := fun k_ => (P0_ k_ ∨ w.heap.size ≤ k_) ∧ some k_ ≠ (.slice Ao23 x11_5.length co23 : Value).ownBlock) ho0 (fun k_ hk_ => ⟨Or.elim hk_ (fun hs_ => hs_.1) (fun hn_ => (.inr (Nat.le_trans (below_size hb_) hn_))), Or.elim hk_ (fun hs_ => hs_.2) (fun hn_ => (Kd.fresh' (Kd.R_lt (kR_ HO_11.out)) k_ hn_))⟩)) (below_size hb_)); have n3_ := Aside0.mk (below_step hb_ hb); clear HO_0; clear HO_11; clear HB; have HO_0 := n0_; have HO_11 := n1_; have HO1137 := n2_; have HB := n3_; clear n0_ n1_ n2_ n3_; (try clear hb); (try clear ho0); have p1140 : 0 ≤ (0 : Int) := (by omega); have q1140 : 0 < (l2.length : Int) := dt_; obtain ⟨ad1140, e1140, hx1140_0⟩ := Kd.at_string HR2.out 0 p1140 q1140; cases e1140; have qi1140 : (0 < l2.length) = True := eq_true (by omega); (try rw [show ((0 : Int)).toNat = 0 from rfl] at hx1140_0); (try rw [Addr.add_zero'] at hx1140_0); replace hx1140_0 := cb_ HB.out hx1140_0; replace p1140 := eq_true p1140; replace q1140 := eq_true q1140) | (go_at_call 116; (with_reducible refine (spec_PutEntry.calls kj21 (fun k_ => some k_ = (.slice Ao23 x11_5.length co23 : Value).ownBlock) _ _ x11_5 (rdOf ByteArray.empty l2 0) t1138 t1141 false _ ?side1 A34.out).mono ?_); (case side1 => exact Kd.R_V (Kd.R_tight rfl (HO_11.out))); rintro e w47 ⟨v1142, rfl, ho0, hb⟩; have n0_ := Aside0.mk (Kd.V_elder' (kV_ HO_0.out) (Kd.R_base ho0) hb); have n1_ := Aside0.mk (Kd.R_elder' (kR_ HO_11.out) (Kd.R_base ho0) hb); have n2_ := Aside0.mk (Kd.V_elder' (kV_ HO1137.out) (Kd.R_base ho0) hb); have n3_ := Aside0.mk (Kd.R_lower (Kd.R_new' (Kd.R_newM (M := fun k_ => (w.heap.size ≤ k_)) (Kd.R_mono (ok' := fun k_ => True) ho0 (fun _ hk_ => trivial)) (below_size hb_) (fun k_ h_ => h_)) (Kd.R_lt (kR_ HO_11.out))) (below_size hb_)); have n4_ := Aside0.mk (below_step hb_ hb); clear HO_0; clear HO_11; clear HO1137; clear HB; have HO_0 := n0_; have HO_11 := n1_; have HO1137 := n2_; have HO1143 := n3_; have HB := n4_; clear n0_ n1_ n2_ n3_ n4_; (try clear hb); (try clear ho0))))
            go_ret3
            exact ⟨_, er_, by refine kV_ ?_; exact Kd.V_mono HO1137.out (fun _ hk => hk.1.1), hb_⟩
          ·replace c32 := Bool.eq_false_iff.mpr c32
           subst c32
           have H1 : (some (t1135, (-1), false)) = some (r1, r2, r3) := by rw [if_neg (show ¬ (false = true) by decide)] at H; exact H
           clear H
           have H := H1
           clear H1
           simp only [Option.some.injEq, Prod.mk.injEq] at H
           obtain ⟨rfl, rfl, rfl⟩ := H
           obtain ⟨i048, hi048, _, hsz48, _⟩ := info_parts info9
           obtain ⟨A48, hcut48, hA48, hC48⟩ := print_drop_of (P := Try.prog) Value.string (⟨#[]⟩ : ByteArray) 29 9 .i64 Try.underlying29 hi048 hsz48 A2 c2 l2 1 (by omega) (dt_) HC2.out
           have HR1134 := Aside0.mk (Kd.C_of_reads (h1 := fun _ => rfl) (hA48 _ (Kd.reads_of_C HR2.out)))
           have HC1134 := Aside0.mk hC48
           clear hA48 hC48 hi048 hsz48
           go_wp2_with (first | (go_at_call 109; refine calls_of_args (args' := #[.slice A0 l0.length c0, .int .i64 x16_2, .slice A48 (l2.drop 1).length (c2 - 1), .int .i64 a3]) (by first | (simp only [List.length_drop, List.length_take] <;> rfl) | rfl) ?_; (with_reducible refine (ih kj21 (by have := HJ5.out; have := HK2.out; have := HJ21.out; omega) (fun k_ => ((P0_ k_ ∨ w.heap.size ≤ k_) ∧ some k_ ≠ (.slice Ao23 x11_5.length co23 : Value).ownBlock)) _ _ l0 x16_2 _ _ (l2.drop 1) a3 t1135 t1138 false _ ?side1 ?side2 ?side3 A31.out).mono ?_); (case side1 => exact HO_0.out); (case side2 => exact kC_ (Kd.C_below HR1134.out HB.out)); (case side3 => exact HC1134.out); rintro e w49 ⟨v1136, rfl, ho0, hb⟩; have n0_ := Aside0.mk (Kd.V_below (kV_ HO_0.out) hb); have n1_ := Aside0.mk (Kd.R_below (kR_ HO_11.out) hb); have n2_ := Aside0.mk (Kd.V_lower (Kd.V_mono (ok' := fun k_ => (P0_ k_ ∨ w.heap.size ≤ k_) ∧ some k_ ≠ (.slice Ao23 x11_5.length co23 : Value).ownBlock) ho0 (fun k_ hk_ => ⟨Or.elim hk_ (fun hs_ => hs_.1) (fun hn_ => (.inr (Nat.le_trans (below_size hb_) hn_))), Or.elim hk_ (fun hs_ => hs_.2) (fun hn_ => (Kd.fresh' (Kd.R_lt (kR_ HO_11.out)) k_ hn_))⟩)) (below_size hb_)); have n3_ := Aside0.mk (below_step hb_ hb); clear HO_0; clear HO_11; clear HB; have HO_0 := n0_; have HO_11 := n1_; have HO1137 := n2_; have HB := n3_; clear n0_ n1_ n2_ n3_; (try clear hb); (try clear ho0)))
           repeat (go_quiet (first | (go_at_call 109; refine calls_of_args (args' := #[.slice A0 l0.length c0, .int .i64 x16_2, .slice A48 (l2.drop 1).length (c2 - 1), .int .i64 a3]) (by first | (simp only [List.length_drop, List.length_take] <;> rfl) | rfl) ?_; (with_reducible refine (ih kj21 (by have := HJ5.out; have := HK2.out; have := HJ21.out; omega) (fun k_ => ((P0_ k_ ∨ w.heap.size ≤ k_) ∧ some k_ ≠ (.slice Ao23 x11_5.length co23 : Value).ownBlock)) _ _ l0 x16_2 _ _ (l2.drop 1) a3 t1135 t1138 false _ ?side1 ?side2 ?side3 A31.out).mono ?_); (case side1 => exact HO_0.out); (case side2 => exact kC_ (Kd.C_below HR1134.out HB.out)); (case side3 => exact HC1134.out); rintro e w49 ⟨v1136, rfl, ho0, hb⟩; have n0_ := Aside0.mk (Kd.V_below (kV_ HO_0.out) hb); have n1_ := Aside0.mk (Kd.R_below (kR_ HO_11.out) hb); have n2_ := Aside0.mk (Kd.V_lower (Kd.V_mono (ok' := fun k_ => (P0_ k_ ∨ w.heap.size ≤ k_) ∧ some k_ ≠ (.slice Ao23 x11_5.length co23 : Value).ownBlock) ho0 (fun k_ hk_ => ⟨Or.elim hk_ (fun hs_ => hs_.1) (fun hn_ => (.inr (Nat.le_trans (below_size hb_) hn_))), Or.elim hk_ (fun hs_ => hs_.2) (fun hn_ => (Kd.fresh' (Kd.R_lt (kR_ HO_11.out)) k_ hn_))⟩)) (below_size hb_)); have n3_ := Aside0.mk (below_step hb_ hb); clear HO_0; clear HO_11; clear HB; have HO_0 := n0_; have HO_11 := n1_; have HO1137 := n2_; have HB := n3_; clear n0_ n1_ n2_ n3_; (try clear hb); (try clear ho0))); try go_wp2_with (first | (go_at_call 109; refine calls_of_args (args' := #[.slice A0 l0.length c0, .int .i64 x16_2, .slice A48 (l2.drop 1).length (c2 - 1), .int .i64 a3]) (by first | (simp only [List.length_drop, List.length_take] <;> rfl) | rfl) ?_; (with_reducible refine (ih kj21 (by have := HJ5.out; have := HK2.out; have := HJ21.out; omega) (fun k_ => ((P0_ k_ ∨ w.heap.size ≤ k_) ∧ some k_ ≠ (.slice Ao23 x11_5.length co23 : Value).ownBlock)) _ _ l0 x16_2 _ _ (l2.drop 1) a3 t1135 t1138 false _ ?side1 ?side2 ?side3 A31.out).mono ?_); (case side1 => exact HO_0.out); (case side2 => exact kC_ (Kd.C_below HR1134.out HB.out)); (case side3 => exact HC1134.out); rintro e w49 ⟨v1136, rfl, ho0, hb⟩; have n0_ := Aside0.mk (Kd.V_below (kV_ HO_0.out) hb); have n1_ := Aside0.mk (Kd.R_below (kR_ HO_11.out) hb); have n2_ := Aside0.mk (Kd.V_lower (Kd.V_mono (ok' := fun k_ => (P0_ k_ ∨ w.heap.size ≤ k_) ∧ some k_ ≠ (.slice Ao23 x11_5.length co23 : Value).ownBlock) ho0 (fun k_ hk_ => ⟨Or.elim hk_ (fun hs_ => hs_.1) (fun hn_ => (.inr (Nat.le_trans (below_size hb_) hn_))), Or.elim hk_ (fun hs_ => hs_.2) (fun hn_ => (Kd.fresh' (Kd.R_lt (kR_ HO_11.out)) k_ hn_))⟩)) (below_size hb_)); have n3_ := Aside0.mk (below_step hb_ hb); clear HO_0; clear HO_11; clear HB; have HO_0 := n0_; have HO_11 := n1_; have HO1137 := n2_; have HB := n3_; clear n0_ n1_ n2_ n3_; (try clear hb); (try clear ho0))))
           go_ret3
           exact ⟨_, er_, by refine kV_ ?_; exact Kd.V_mono HO1137.out (fun _ hk => hk.1), hb_⟩
/-! ### spec_FileText: function 110 -/
def spec_FileText.f (k : Nat) (a0 : ByteArray) : Option (ByteArray) := (spec_ContentValid.f k a0).bind fun t1151 => (if t1151 = true then (if 1 + a0.size ≤ 9223372036854775807 then (some ((⟨#[102]⟩ : ByteArray) ++ a0)) else (none)) else (some (⟨#[]⟩ : ByteArray)))
set_option maxHeartbeats 8000000 in
set_option maxRecDepth 100000 in
theorem spec_FileText.calls (k : Nat) (a0 : ByteArray) (r : ByteArray) (w : World) (h : spec_FileText.f k a0 = some r) :
  Calls Try.prog 110 #[.string a0] w fun e w' => e = .returned (.string r) ∧ Drawn0 w w' := by
 have H : ((spec_ContentValid.f k a0).bind fun t1151 => (if t1151 = true then (if 1 + a0.size ≤ 9223372036854775807 then (some ((⟨#[102]⟩ : ByteArray) ++ a0)) else (none)) else (some (⟨#[]⟩ : ByteArray)))) = some r := h
 clear h
 replace H := Option.bind_eq_some_iff.mp H
 obtain ⟨t1151, A20, H⟩ := H
 replace H : (if t1151 = true then (if 1 + a0.size ≤ 9223372036854775807 then (some ((⟨#[102]⟩ : ByteArray) ++ a0)) else (none)) else (some (⟨#[]⟩ : ByteArray))) = some r := H
 have A2 := Aside0.mk A20
 clear A20
 by_cases c3 : t1151 = true
 ·subst c3
  have H1 : (if 1 + a0.size ≤ 9223372036854775807 then (some ((⟨#[102]⟩ : ByteArray) ++ a0)) else (none)) = some r := by rw [if_pos rfl] at H; exact H
  clear H
  have H := H1
  clear H1
  by_cases c4 : 1 + a0.size ≤ 9223372036854775807; rotate_left
  ·rw [if_neg c4] at H; exact absurd H (by simp)
  rw [if_pos c4] at H
  have c4b0 := eq_true c4
  have c4b1 : decide (1 + a0.size ≤ 9223372036854775807) = true := decide_eq_true c4
  try have c4b2 : (9223372036854775807 < 1 + a0.size) = False := eq_false (Nat.not_lt.2 c4)
  obtain rfl := Option.some.inj H
  go_enter Try.func110, Try.ntmps110
  go_wp2_with (first | ((with_reducible refine gate_callee (f := 107) rfl ?_); refine gl_ (some 4) Try.func107 #[.string a0] ?_; (with_reducible refine (spec_ContentValid.calls k a0 true _ A2.out).mono ?_); rintro e w' ⟨rfl, ⟨nd, rfl⟩⟩; refine ⟨_, rfl, ?_⟩))
  go_ret
  exact ⟨rs_, dw_⟩
 ·replace c3 := Bool.eq_false_iff.mpr c3
  subst c3
  have H1 : (some (⟨#[]⟩ : ByteArray)) = some r := by rw [if_neg (show ¬ (false = true) by decide)] at H; exact H
  clear H
  have H := H1
  clear H1
  obtain rfl := Option.some.inj H
  go_enter Try.func110, Try.ntmps110
  go_wp2_with (first | ((with_reducible refine gate_callee (f := 107) rfl ?_); refine gl_ (some 4) Try.func107 #[.string a0] ?_; (with_reducible refine (spec_ContentValid.calls k a0 false _ A2.out).mono ?_); rintro e w' ⟨rfl, ⟨nd, rfl⟩⟩; refine ⟨_, rfl, ?_⟩))
  go_ret
  exact ⟨rs_, dw_⟩
end Go.Proofs.Ytcbmkonigclceaa.P
