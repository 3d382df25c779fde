-- The functions of the seat as plain Lean functions, made by the kit's print.py for all laws at once. Not trusted: Lean checks it.
import Derived.Test.YtjgbidklkhohfaaPx0
import Derived.Test.YtjgbidklkhohfaaPx1
import Derived.Test.YtjgbidklkhohfaaPx2
import Derived.Test.YtjgbidklkhohfaaPx3
import Derived.Test.YtjgbidklkhohfaaPx4
import Derived.Test.YtjgbidklkhohfaaPx5
namespace Go.Proofs.Ytjgbidklkhohfaa.P
open Go.RowKit Go.Proofs.YtjgbidklkhohfaaW.PrintWords Go.Proofs.YtjgbidklkhohfaaW.PrintLast Go.Proofs.YtjgbidklkhohfaaW.PrintMore
attribute [local go_sem] max2_int min2_int max_two min_two max_three min_three max_four min_four   -- for this text's walks alone
set_option linter.unusedVariables false
set_option linter.unusedSimpArgs false
/-! ### spec_l10Drop: function 34 -/
mutual
def spec_l10Drop.l0 : Nat → List (S45) → List ByteArray → List (S79) → Bool → Int → Int → Option ((List (S45)) × Int × Bool)
 | 0, _, _, _, _, _, _ => none
 | k + 1, x0, x2, x11, x12, x13, x14 => if x14 < (x11.length : Int) then (if x12 = true then (if 0 ≤ x14 then (if 0 < (x2.length : Int) then (if ((rd_T79 x11 x14).f0).toList = (rdOf ByteArray.empty x2 0).toList then (spec_l10Drop.l0 k x0 x2 x11 x12 ((rd_T79 x11 x14).f1) (wrap64 (x14 + 1))) else (spec_l10Drop.l0 k x0 x2 x11 x12 x13 (wrap64 (x14 + 1)))) else (none)) else (none)) else (spec_l10Drop.l0 k x0 x2 x11 x12 x13 (wrap64 (x14 + 1)))) else (if x13 < 0 then (some (x0, (-1), false)) else (if (x2.length : Int) > 1 then (if 1 ≤ (x2.length : Int) then ((spec_l10Drop.f k x0 x13 (x2.drop 1)).bind fun bt312 => (if bt312.2.2 = true then (spec_l10Drop.j1 k bt312.1 x2 x11 bt312.2.1) else (some (x0, (-1), false)))) else (none)) else (spec_l10Drop.j1 k x0 x2 x11 (-1))))
def spec_l10Drop.j1 : Nat → List (S45) → List ByteArray → List (S79) → Int → Option ((List (S45)) × Int × Bool)
 | 0, _, _, _, _ => none
 | k + 1, x0, x2, x11, x15 => if 0 < (x2.length : Int) then ((spec_DropEntry.f k x11 (rdOf ByteArray.empty x2 0)).bind fun bt318 => (if x15 ≥ 0 then ((spec_PutEntry.f k x11 (rdOf ByteArray.empty x2 0) x15).bind fun bt323 => (spec_l10Drop.j2 k x0 bt323.1)) else (spec_l10Drop.j2 k x0 bt318.1))) else (none)
def spec_l10Drop.j2 : Nat → List (S45) → List (S79) → Option ((List (S45)) × Int × Bool)
 | 0, _, _ => none
 | k + 1, x0, x19 => if (x19.length : Int) = 0 then (some (x0, (-1), true)) else ((spec_FolderText.f k x19).bind fun t327 => ((spec_PutText.f k x0 t327).bind fun bt328 => (some (bt328.1, bt328.2.1, bt328.2.2))))
def spec_l10Drop.f : Nat → List (S45) → Int → List ByteArray → Option ((List (S45)) × Int × Bool)
 | 0, _, _, _ => none
 | k + 1, l0, a1, l2 => (spec_l4Get.f k l0 a1).bind fun bt302 => ((spec_ReadFolder.f k bt302.1).bind fun bt304 => (spec_l10Drop.l0 k l0 l2 bt304.1 bt304.2 (-1) 0))
end
theorem spec_l10Drop.mono_l : ∀ k, (∀ y0 y1 y2, LeO (spec_l10Drop.f k y0 y1 y2) (spec_l10Drop.f (k + 1) y0 y1 y2)) ∧ (∀ y0 y1 y2 y3 y4 y5, LeO (spec_l10Drop.l0 k y0 y1 y2 y3 y4 y5) (spec_l10Drop.l0 (k + 1) y0 y1 y2 y3 y4 y5)) ∧ (∀ y0 y1 y2 y3, LeO (spec_l10Drop.j1 k y0 y1 y2 y3) (spec_l10Drop.j1 (k + 1) y0 y1 y2 y3)) ∧ (∀ y0 y1, LeO (spec_l10Drop.j2 k y0 y1) (spec_l10Drop.j2 (k + 1) y0 y1))
 | 0 => ⟨fun _ _ _ r h => by simp [spec_l10Drop.f] at h, fun _ _ _ _ _ _ r h => by simp [spec_l10Drop.l0] at h, fun _ _ _ _ r h => by simp [spec_l10Drop.j1] at h, fun _ _ r h => by simp [spec_l10Drop.j2] at h⟩
 | k + 1 => by
  obtain ⟨ih0, ih1, ih2, ih3⟩ := spec_l10Drop.mono_l k
  refine ⟨?_, ?_, ?_, ?_⟩
  ·intro y0 y1 y2
   unfold spec_l10Drop.f
   repeat' first
   | (with_reducible exact ih0 _ _ _)
   | (with_reducible exact ih1 _ _ _ _ _ _)
   | (with_reducible exact ih2 _ _ _ _)
   | (with_reducible exact ih3 _ _)
   | (with_reducible exact spec_DropEntry.mono _ _ _)
   | (with_reducible exact spec_FolderText.mono _ _)
   | (with_reducible exact spec_PutEntry.mono _ _ _ _)
   | (with_reducible exact spec_PutText.mono _ _ _)
   | (with_reducible exact spec_ReadFolder.mono _ _)
   | (with_reducible exact spec_l4Get.mono _ _ _)
   | (with_reducible exact LeO.refl _)
   | (with_reducible exact LeO.none _)
   | (with_reducible refine LeO.ite ?_ ?_)
   | (with_reducible refine LeO.bind ?_ (fun _ => ?_))
   | exact ih0 _ _ _
   | exact ih1 _ _ _ _ _ _
   | exact ih2 _ _ _ _
   | exact ih3 _ _
   | exact spec_DropEntry.mono _ _ _
   | exact spec_FolderText.mono _ _
   | exact spec_PutEntry.mono _ _ _ _
   | exact spec_PutText.mono _ _ _
   | exact spec_ReadFolder.mono _ _
   | exact spec_l4Get.mono _ _ _
   | exact LeO.none _
   | refine LeO.ite ?_ ?_
   | refine LeO.bind ?_ (fun _ => ?_)
  ·intro y0 y1 y2 y3 y4 y5
   unfold spec_l10Drop.l0
   repeat' first
   | (with_reducible exact ih0 _ _ _)
   | (with_reducible exact ih1 _ _ _ _ _ _)
   | (with_reducible exact ih2 _ _ _ _)
   | (with_reducible exact ih3 _ _)
   | (with_reducible exact spec_DropEntry.mono _ _ _)
   | (with_reducible exact spec_FolderText.mono _ _)
   | (with_reducible exact spec_PutEntry.mono _ _ _ _)
   | (with_reducible exact spec_PutText.mono _ _ _)
   | (with_reducible exact spec_ReadFolder.mono _ _)
   | (with_reducible exact spec_l4Get.mono _ _ _)
   | (with_reducible exact LeO.refl _)
   | (with_reducible exact LeO.none _)
   | (with_reducible refine LeO.ite ?_ ?_)
   | (with_reducible refine LeO.bind ?_ (fun _ => ?_))
   | exact ih0 _ _ _
   | exact ih1 _ _ _ _ _ _
   | exact ih2 _ _ _ _
   | exact ih3 _ _
   | exact spec_DropEntry.mono _ _ _
   | exact spec_FolderText.mono _ _
   | exact spec_PutEntry.mono _ _ _ _
   | exact spec_PutText.mono _ _ _
   | exact spec_ReadFolder.mono _ _
   | exact spec_l4Get.mono _ _ _
   | exact LeO.none _
   | refine LeO.ite ?_ ?_
   | refine LeO.bind ?_ (fun _ => ?_)
  ·intro y0 y1 y2 y3
   unfold spec_l10Drop.j1
   repeat' first
   | (with_reducible exact ih0 _ _ _)
   | (with_reducible exact ih1 _ _ _ _ _ _)
   | (with_reducible exact ih2 _ _ _ _)
   | (with_reducible exact ih3 _ _)
   | (with_reducible exact spec_DropEntry.mono _ _ _)
   | (with_reducible exact spec_FolderText.mono _ _)
   | (with_reducible exact spec_PutEntry.mono _ _ _ _)
   | (with_reducible exact spec_PutText.mono _ _ _)
   | (with_reducible exact spec_ReadFolder.mono _ _)
   | (with_reducible exact spec_l4Get.mono _ _ _)
   | (with_reducible exact LeO.refl _)
   | (with_reducible exact LeO.none _)
   | (with_reducible refine LeO.ite ?_ ?_)
   | (with_reducible refine LeO.bind ?_ (fun _ => ?_))
   | exact ih0 _ _ _
   | exact ih1 _ _ _ _ _ _
   | exact ih2 _ _ _ _
   | exact ih3 _ _
   | exact spec_DropEntry.mono _ _ _
   | exact spec_FolderText.mono _ _
   | exact spec_PutEntry.mono _ _ _ _
   | exact spec_PutText.mono _ _ _
   | exact spec_ReadFolder.mono _ _
   | exact spec_l4Get.mono _ _ _
   | exact LeO.none _
   | refine LeO.ite ?_ ?_
   | refine LeO.bind ?_ (fun _ => ?_)
  ·intro y0 y1
   unfold spec_l10Drop.j2
   repeat' first
   | (with_reducible exact ih0 _ _ _)
   | (with_reducible exact ih1 _ _ _ _ _ _)
   | (with_reducible exact ih2 _ _ _ _)
   | (with_reducible exact ih3 _ _)
   | (with_reducible exact spec_DropEntry.mono _ _ _)
   | (with_reducible exact spec_FolderText.mono _ _)
   | (with_reducible exact spec_PutEntry.mono _ _ _ _)
   | (with_reducible exact spec_PutText.mono _ _ _)
   | (with_reducible exact spec_ReadFolder.mono _ _)
   | (with_reducible exact spec_l4Get.mono _ _ _)
   | (with_reducible exact LeO.refl _)
   | (with_reducible exact LeO.none _)
   | (with_reducible refine LeO.ite ?_ ?_)
   | (with_reducible refine LeO.bind ?_ (fun _ => ?_))
   | exact ih0 _ _ _
   | exact ih1 _ _ _ _ _ _
   | exact ih2 _ _ _ _
   | exact ih3 _ _
   | exact spec_DropEntry.mono _ _ _
   | exact spec_FolderText.mono _ _
   | exact spec_PutEntry.mono _ _ _ _
   | exact spec_PutText.mono _ _ _
   | exact spec_ReadFolder.mono _ _
   | exact spec_l4Get.mono _ _ _
   | exact LeO.none _
   | refine LeO.ite ?_ ?_
   | refine LeO.bind ?_ (fun _ => ?_)
theorem spec_l10Drop.mono : ∀ a0 a1 a2 k, LeO (spec_l10Drop.f k a0 a1 a2) (spec_l10Drop.f (k + 1) a0 a1 a2) := by
 intro a0 a1 a2 k
 obtain ⟨ih0, ih1, ih2, ih3⟩ := spec_l10Drop.mono_l k
 exact ih0 a0 a1 a2
set_option maxHeartbeats 8000000 in
set_option maxRecDepth 100000 in
theorem spec_l10Drop.calls (k : Nat) : ∀ (P0_ : Nat → Prop) (A0 : Option Addr) (c0 : Nat) (l0 : List (S45)) (a1 : Int) (A2 : Option Addr) (c2 : Nat) (l2 : List ByteArray) (r1 : List (S45)) (r2 : Int) (r3 : Bool) (w : World) (hs0 : Kd.V k45 45 w w.heap.size (fun k_ => P0_ k_) (.slice A0 l0.length c0) l0) (hr2 : Kd.C Kd.string w A2 l2.length l2) (hc2 : l2.length ≤ c2) (h : spec_l10Drop.f k l0 a1 l2 = some (r1, r2, r3)),
  Calls Try.prog 34 #[.slice A0 l0.length c0, .int .i64 a1, .slice A2 l2.length c2] w fun e w' => ∃ v0_ : Value, e = .returned (.tuple #[v0_, .int .i64 r2, .bool r3]) ∧ Kd.V k45 45 w' w.heap.size (fun k_ => (P0_ k_ ∨ w.heap.size ≤ k_)) v0_ r1 ∧ Below w.heap.size w w' := by
 induction k using Nat.strongRecOn with
 | _ k ih =>
 intro P0_ A0 c0 l0 a1 A2 c2 l2 r1 r2 r3 w hs0 hr2 hc2 h
 cases k with
 | zero => exact absurd h (by simp [spec_l10Drop.f])
 | succ k =>
 simp only [spec_l10Drop.f] at h
 have hu79 := Try.underlying79
 have HO0 := Aside0.mk (show Kd.V k45 45 w w.heap.size (fun k_ => (P0_ k_ ∨ w.heap.size ≤ k_)) (.slice A0 l0.length c0) l0 from Kd.V_mono hs0 (fun k_ hk => .inl hk))
 have HR2 := Aside0.mk hr2
 have HC2 := Aside0.mk hc2
 clear hr2 hc2
 have HB := Aside0.mk (Below.refl w.heap.size w)
 have H : ((spec_l4Get.f k l0 a1).bind fun bt302 => ((spec_ReadFolder.f k bt302.1).bind fun bt304 => (spec_l10Drop.l0 k l0 l2 bt304.1 bt304.2 (-1) 0))) = some (r1, r2, r3) := h
 clear h
 replace H := Option.bind_eq_some_iff.mp H
 obtain ⟨⟨t302, t303⟩, A40, H⟩ := H
 replace H : ((spec_ReadFolder.f k t302).bind fun bt304 => (spec_l10Drop.l0 k l0 l2 bt304.1 bt304.2 (-1) 0)) = some (r1, r2, r3) := H
 have A4 := Aside0.mk A40
 clear A40
 replace H := Option.bind_eq_some_iff.mp H
 obtain ⟨⟨t304, t305⟩, A50, H⟩ := H
 replace H : (spec_l10Drop.l0 k l0 l2 t304 t305 (-1) 0) = some (r1, r2, r3) := H
 have A5 := Aside0.mk A50
 clear A50
 have H' := Aside0.mk H
 clear H
 go_enter Try.func34, Try.ntmps34
 go_wp2_with (first | (go_at_call 36; (with_reducible refine (spec_l4Get.calls k _ _ l0 a1 t302 t303 _ ?side1 ?side2 A4.out).mono ?_); (case side1 => exact kC_ ((Kd.V_reads' HO0.out).2.2)); (case side2 => exact (Kd.V_reads' HO0.out).2.1); rintro e w' ⟨rfl, ⟨nd, rfl⟩⟩; (try first | exact ⟨rfl, _, World.drewN_drewN _ _ _⟩ | exact ⟨rfl, _, Eq.trans (World.drewN_drewN _ _ _) (congrArg (World.drewN _) (Nat.add_assoc _ _ _))⟩)) | (go_at_call 42; (with_reducible refine (spec_ReadFolder.calls k t302 t304 t305 _ A5.out).mono ?_); rintro e w6 ⟨v306, rfl, ho0, hb⟩; have n0_ := Aside0.mk (Kd.V_elder' (kV_ HO0.out) (Kd.R_base ho0) hb); have n1_ := Aside0.mk (Kd.R_lower (Kd.R_newM (M := fun k_ => (w.heap.size ≤ k_)) ho0 (below_size hb_) (fun k_ h_ => h_)) (below_size hb_)); have n2_ := Aside0.mk (below_step hb_ hb); clear HO0; clear HB; have HO0 := n0_; have HO307 := n1_; have HB := n2_; clear n0_ n1_ n2_; (try clear hb); (try clear ho0)))
 repeat (go_quiet (first | (go_at_call 36; (with_reducible refine (spec_l4Get.calls k _ _ l0 a1 t302 t303 _ ?side1 ?side2 A4.out).mono ?_); (case side1 => exact kC_ ((Kd.V_reads' HO0.out).2.2)); (case side2 => exact (Kd.V_reads' HO0.out).2.1); rintro e w' ⟨rfl, ⟨nd, rfl⟩⟩; (try first | exact ⟨rfl, _, World.drewN_drewN _ _ _⟩ | exact ⟨rfl, _, Eq.trans (World.drewN_drewN _ _ _) (congrArg (World.drewN _) (Nat.add_assoc _ _ _))⟩)) | (go_at_call 42; (with_reducible refine (spec_ReadFolder.calls k t302 t304 t305 _ A5.out).mono ?_); rintro e w6 ⟨v306, rfl, ho0, hb⟩; have n0_ := Aside0.mk (Kd.V_elder' (kV_ HO0.out) (Kd.R_base ho0) hb); have n1_ := Aside0.mk (Kd.R_lower (Kd.R_newM (M := fun k_ => (w.heap.size ≤ k_)) ho0 (below_size hb_) (fun k_ h_ => h_)) (below_size hb_)); have n2_ := Aside0.mk (below_step hb_ hb); clear HO0; clear HB; have HO0 := n0_; have HO307 := n1_; have HB := n2_; clear n0_ n1_ n2_; (try clear hb); (try clear ho0))); try go_wp2_with (first | (go_at_call 36; (with_reducible refine (spec_l4Get.calls k _ _ l0 a1 t302 t303 _ ?side1 ?side2 A4.out).mono ?_); (case side1 => exact kC_ ((Kd.V_reads' HO0.out).2.2)); (case side2 => exact (Kd.V_reads' HO0.out).2.1); rintro e w' ⟨rfl, ⟨nd, rfl⟩⟩; (try first | exact ⟨rfl, _, World.drewN_drewN _ _ _⟩ | exact ⟨rfl, _, Eq.trans (World.drewN_drewN _ _ _) (congrArg (World.drewN _) (Nat.add_assoc _ _ _))⟩)) | (go_at_call 42; (with_reducible refine (spec_ReadFolder.calls k t302 t304 t305 _ A5.out).mono ?_); rintro e w6 ⟨v306, rfl, ho0, hb⟩; have n0_ := Aside0.mk (Kd.V_elder' (kV_ HO0.out) (Kd.R_base ho0) hb); have n1_ := Aside0.mk (Kd.R_lower (Kd.R_newM (M := fun k_ => (w.heap.size ≤ k_)) ho0 (below_size hb_) (fun k_ h_ => h_)) (below_size hb_)); have n2_ := Aside0.mk (below_step hb_ hb); clear HO0; clear HB; have HO0 := n0_; have HO307 := n1_; have HB := n2_; clear n0_ n1_ n2_; (try clear hb); (try clear ho0))))
 go_loopg [13, 14] k (fun kq v13 v14 w' => ∃ (x13_1 : Int) (x14_1 : Int), v13 = .int .i64 x13_1 ∧ v14 = .int .i64 x14_1 ∧ Aside0 (spec_l10Drop.l0 kq l0 l2 t304 t305 x13_1 x14_1 = some (r1, r2, r3)) ∧ Aside0 (kq ≤ k) ∧ Aside0 (Kd.V k45 45 w' w.heap.size (fun k_ => (P0_ k_ ∨ w.heap.size ≤ k_) ∧ some k_ ≠ (v306 : Value).ownBlock) (.slice A0 l0.length c0) l0) ∧ Aside0 (Kd.R k79 79 w' w.heap.size (fun k_ => (w.heap.size ≤ k_)) v306 t304) ∧ Aside0 (Below w.heap.size w w'))
 case atStart => exact ⟨((-1)), (0), rs_, rs_, H', ⟨Nat.le_refl _⟩, ⟨by (with_reducible repeat (first | apply Kd.V_alloc | apply Kd.V_drewN | apply Kd.V_drew)); exact HO0.out⟩, ⟨by (with_reducible repeat (first | apply Kd.R_alloc | apply Kd.R_drewN | apply Kd.R_drew)); exact Kd.R_mono HO307.out (fun _ hk => hk.1)⟩, ⟨hb_⟩⟩
 case round =>
  clear H'
  try clear c2
  try clear p2
  try clear c3
  obtain ⟨x13_1, x14_1, rfl, rfl, HA, HK1, HO_0, HO_11, HB⟩ := hrel
  cases gk with
  | zero => exact absurd HA.out (by simp [spec_l10Drop.l0])
  | succ k1 =>
   have H := HA.out
   clear HA
   simp only [spec_l10Drop.l0] at H
   by_cases c7 : x14_1 < (t304.length : Int)
   ·rw [if_pos c7] at H
    have c7b0 : decide (x14_1 < (t304.length : Int)) = true := decide_eq_true c7
    clear c7
    by_cases c8 : t305 = true
    ·subst c8
     have H1 : (if 0 ≤ x14_1 then (if 0 < (l2.length : Int) then (if ((rd_T79 t304 x14_1).f0).toList = (rdOf ByteArray.empty l2 0).toList then (spec_l10Drop.l0 k1 l0 l2 t304 true ((rd_T79 t304 x14_1).f1) (wrap64 (x14_1 + 1))) else (spec_l10Drop.l0 k1 l0 l2 t304 true x13_1 (wrap64 (x14_1 + 1)))) else (none)) else (none)) = some (r1, r2, r3) := by rw [if_pos rfl] at H; exact H
     clear H
     have H := H1
     clear H1
     by_cases c9 : 0 ≤ x14_1; rotate_left
     ·rw [if_neg c9] at H; exact absurd H (by simp)
     rw [if_pos c9] at H
     have c9b0 : decide (0 ≤ x14_1) = true := decide_eq_true c9
     clear c9
     by_cases c10 : 0 < (l2.length : Int); rotate_left
     ·rw [if_neg c10] at H; exact absurd H (by simp)
     rw [if_pos c10] at H
     have c10b0 : decide (0 < (l2.length : Int)) = true := decide_eq_true c10
     have c10b1 : decide (0 < l2.length) = true := decide_eq_true (by omega)
     clear c10
     by_cases c11 : ((rd_T79 t304 x14_1).f0).toList = (rdOf ByteArray.empty l2 0).toList
     ·rw [if_pos c11] at H
      have c11b0 : (((rd_T79 t304 x14_1).f0).toList == (rdOf ByteArray.empty l2 0).toList) = true := beq_iff_eq.mpr c11
      have c11b1 : (((rd_T79 t304 x14_1).f0).toList != (rdOf ByteArray.empty l2 0).toList) = false := bne_eq_false_iff_eq.mpr c11
      clear c11
      have H' := Aside0.mk H
      clear H
      obtain ⟨Ao12, co12, eo12⟩ := Kd.R_slice HO_11.out
      subst eo12
      have p308 : 0 ≤ (x14_1 : Int) := dt_
      have q308 : x14_1 < (t304.length : Int) := dt_
      obtain ⟨ad308, e308, hx308_0, hx308_1⟩ := at_T79 (Kd.R_reads' HO_11.out).2.2 x14_1 p308 q308
      cases e308
      replace p308 := eq_true p308
      replace q308 := eq_true q308
      have p309 : 0 ≤ (0 : Int) := (by omega)
      have q309 : 0 < (l2.length : Int) := dt_
      obtain ⟨ad309, e309, hx309_0⟩ := Kd.at_string HR2.out 0 p309 q309
      cases e309
      have qi309 : (0 < l2.length) = True := eq_true (by omega)
      (try rw [show ((0 : Int)).toNat = 0 from rfl] at hx309_0)
      (try rw [Addr.add_zero'] at hx309_0)
      replace hx309_0 := cb_ HB.out hx309_0
      replace p309 := eq_true p309
      replace q309 := eq_true q309
      have p310 : 0 ≤ (x14_1 : Int) := dt_
      have q310 : x14_1 < (t304.length : Int) := dt_
      obtain ⟨ad310, e310, hx310_0, hx310_1⟩ := at_T79 (Kd.R_reads' HO_11.out).2.2 x14_1 p310 q310
      obtain rfl : ad308 = ad310 := (by injection e310)
      replace p310 := eq_true p310
      replace q310 := eq_true q310
      go_wp2
      repeat (go_quiet (fail); try go_wp2)
      go_roundg k1
      case measure => have := HK1.out; omega
      case rel => exact ⟨((rd_T79 t304 x14_1).f1), (wrap64 (x14_1 + 1)), rs_, rs_, H', ⟨by have := HK1.out; omega⟩, ⟨by (with_reducible repeat (first | apply Kd.V_alloc | apply Kd.V_drewN | apply Kd.V_drew)); exact HO_0.out⟩, ⟨by (with_reducible repeat (first | apply Kd.R_alloc | apply Kd.R_drewN | apply Kd.R_drew)); exact HO_11.out⟩, ⟨hb_⟩⟩
     ·rw [if_neg c11] at H
      have c11b0 : (((rd_T79 t304 x14_1).f0).toList == (rdOf ByteArray.empty l2 0).toList) = false := beq_eq_false_iff_ne.mpr c11
      have c11b1 : (((rd_T79 t304 x14_1).f0).toList != (rdOf ByteArray.empty l2 0).toList) = true := bne_iff_ne.mpr c11
      have H' := Aside0.mk H
      clear H
      obtain ⟨Ao13, co13, eo13⟩ := Kd.R_slice HO_11.out
      subst eo13
      have p308 : 0 ≤ (x14_1 : Int) := dt_
      have q308 : x14_1 < (t304.length : Int) := dt_
      obtain ⟨ad308, e308, hx308_0, hx308_1⟩ := at_T79 (Kd.R_reads' HO_11.out).2.2 x14_1 p308 q308
      cases e308
      replace p308 := eq_true p308
      replace q308 := eq_true q308
      have p309 : 0 ≤ (0 : Int) := (by omega)
      have q309 : 0 < (l2.length : Int) := dt_
      obtain ⟨ad309, e309, hx309_0⟩ := Kd.at_string HR2.out 0 p309 q309
      cases e309
      have qi309 : (0 < l2.length) = True := eq_true (by omega)
      (try rw [show ((0 : Int)).toNat = 0 from rfl] at hx309_0)
      (try rw [Addr.add_zero'] at hx309_0)
      replace hx309_0 := cb_ HB.out hx309_0
      replace p309 := eq_true p309
      replace q309 := eq_true q309
      go_wp2
      repeat (go_quiet (fail); try go_wp2)
      go_roundg k1
      case measure => have := HK1.out; omega
      case rel => exact ⟨(x13_1), (wrap64 (x14_1 + 1)), rs_, rs_, H', ⟨by have := HK1.out; omega⟩, ⟨by (with_reducible repeat (first | apply Kd.V_alloc | apply Kd.V_drewN | apply Kd.V_drew)); exact HO_0.out⟩, ⟨by (with_reducible repeat (first | apply Kd.R_alloc | apply Kd.R_drewN | apply Kd.R_drew)); exact HO_11.out⟩, ⟨hb_⟩⟩
    ·replace c8 := Bool.eq_false_iff.mpr c8
     subst c8
     have H1 : (spec_l10Drop.l0 k1 l0 l2 t304 false x13_1 (wrap64 (x14_1 + 1))) = some (r1, r2, r3) := by rw [if_neg (show ¬ (false = true) by decide)] at H; exact H
     clear H
     have H := H1
     clear H1
     have H' := Aside0.mk H
     clear H
     obtain ⟨Ao14, co14, eo14⟩ := Kd.R_slice HO_11.out
     subst eo14
     go_wp2
     repeat (go_quiet (fail); try go_wp2)
     go_roundg k1
     case measure => have := HK1.out; omega
     case rel => exact ⟨(x13_1), (wrap64 (x14_1 + 1)), rs_, rs_, H', ⟨by have := HK1.out; omega⟩, ⟨by (with_reducible repeat (first | apply Kd.V_alloc | apply Kd.V_drewN | apply Kd.V_drew)); exact HO_0.out⟩, ⟨by (with_reducible repeat (first | apply Kd.R_alloc | apply Kd.R_drewN | apply Kd.R_drew)); exact HO_11.out⟩, ⟨hb_⟩⟩
   ·rw [if_neg c7] at H
    have c7b0 : decide (x14_1 < (t304.length : Int)) = false := decide_eq_false c7
    clear c7
    by_cases c15 : x13_1 < 0
    ·rw [if_pos c15] at H
     have c15b0 : decide (x13_1 < 0) = true := decide_eq_true c15
     clear c15
     simp only [Option.some.injEq, Prod.mk.injEq] at H
     obtain ⟨rfl, rfl, rfl⟩ := H
     obtain ⟨Ao16, co16, eo16⟩ := Kd.R_slice HO_11.out
     subst eo16
     go_wp2
     repeat (go_quiet (fail); try go_wp2)
     go_ret3
     exact ⟨_, er_, by (with_reducible repeat (first | apply Kd.V_alloc | apply Kd.V_drewN | apply Kd.V_drew)); exact Kd.V_mono HO_0.out (fun _ hk => hk.1), hb_⟩
    ·rw [if_neg c15] at H
     have c15b0 : decide (x13_1 < 0) = false := decide_eq_false c15
     clear c15
     have HC17 := Aside0.mk H
     clear H
     obtain ⟨Ao18, co18, eo18⟩ := Kd.R_slice HO_11.out
     subst eo18
     go_upto_if 60 with (fail)
     repeat (go_quiet (fail); go_upto_if 60 with (fail))
     go_cut [0, 15] (fun v0 v15 wc => ∃ (kq : Nat) (x0_16 : List (S45)) (x15_16 : Int), v15 = .int .i64 x15_16 ∧ Aside0 (spec_l10Drop.j1 kq x0_16 l2 t304 x15_16 = some (r1, r2, r3)) ∧ Aside0 (kq ≤ k1) ∧ Aside0 (Kd.V k45 45 wc w.heap.size (fun k_ => (P0_ k_ ∨ w.heap.size ≤ k_) ∧ some k_ ≠ ((.slice Ao18 t304.length co18) : Value).ownBlock) v0 x0_16) ∧ Aside0 (Kd.R k79 79 wc w.heap.size (fun k_ => (w.heap.size ≤ k_)) (.slice Ao18 t304.length co18) t304) ∧ Aside0 (Below w.heap.size w wc))
     case first =>
      have H := HC17.out
      clear HC17
      by_cases c19 : (l2.length : Int) > 1
      ·rw [if_pos c19] at H
       have c19b0 : decide (1 < (l2.length : Int)) = true := decide_eq_true c19
       have c19b1 : decide (1 < l2.length) = true := decide_eq_true (by omega)
       clear c19
       (first | rw [c19b0] | (simp only [i64_w, i32_w]; rw [c19b0]) | skip)
       by_cases c20 : 1 ≤ (l2.length : Int); rotate_left
       ·rw [if_neg c20] at H; exact absurd H (by simp)
       rw [if_pos c20] at H
       have c20b0 := eq_true c20
       have c20b1 : decide (1 ≤ (l2.length : Int)) = true := decide_eq_true c20
       clear c20
       replace H := Option.bind_eq_some_iff.mp H
       obtain ⟨⟨t312, t315, t316⟩, A210, H⟩ := H
       replace H : (if t316 = true then (spec_l10Drop.j1 k1 t312 l2 t304 t315) else (some (l0, (-1), false))) = some (r1, r2, r3) := H
       have A21 := Aside0.mk A210
       clear A210
       by_cases c22 : t316 = true
       ·subst c22
        have H1 : (spec_l10Drop.j1 k1 t312 l2 t304 t315) = some (r1, r2, r3) := by rw [if_pos rfl] at H; exact H
        clear H
        have H := H1
        clear H1
        have H' := Aside0.mk H
        clear H
        obtain ⟨i023, hi023, _, hsz23, _⟩ := info_parts info9
        obtain ⟨A23, hcut23, hA23, hC23⟩ := print_drop_of (P := Try.prog) Value.string (⟨#[]⟩ : ByteArray) 46 9 .i64 Try.underlying46 hi023 hsz23 A2 c2 l2 1 (by omega) (dt_) HC2.out
        have HR311 := Aside0.mk (Kd.C_of_reads (h1 := fun _ => rfl) (hA23 _ (Kd.reads_of_C HR2.out)))
        have HC311 := Aside0.mk hC23
        clear hA23 hC23 hi023 hsz23
        go_wp2_with (first | (go_at_call 34; refine calls_of_args (args' := #[.slice A0 l0.length c0, .int .i64 x13_1, .slice A23 (l2.drop 1).length (c2 - 1)]) (by first | (simp only [List.length_drop, List.length_take] <;> rfl) | rfl) ?_; (with_reducible refine (ih k1 (by have := HK1.out; omega) (fun k_ => ((P0_ k_ ∨ w.heap.size ≤ k_) ∧ some k_ ≠ (.slice Ao18 t304.length co18 : Value).ownBlock)) _ _ l0 x13_1 _ _ (l2.drop 1) t312 t315 true _ ?side1 ?side2 ?side3 A21.out).mono ?_); (case side1 => exact HO_0.out); (case side2 => exact kC_ (Kd.C_below HR311.out HB.out)); (case side3 => exact HC311.out); rintro e w24 ⟨v313, rfl, ho0, hb⟩; have n0_ := Aside0.mk (Kd.V_below (kV_ HO_0.out) hb); have n1_ := Aside0.mk (Kd.R_below (kR_ HO_11.out) hb); have n2_ := Aside0.mk (Kd.V_lower (Kd.V_mono (ok' := fun k_ => (P0_ k_ ∨ w.heap.size ≤ k_) ∧ some k_ ≠ (.slice Ao18 t304.length co18 : Value).ownBlock) ho0 (fun k_ hk_ => ⟨Or.elim hk_ (fun hs_ => hs_.1) (fun hn_ => (.inr (Nat.le_trans (below_size hb_) hn_))), Or.elim hk_ (fun hs_ => hs_.2) (fun hn_ => (Kd.fresh' (Kd.R_lt (kR_ HO_11.out)) k_ hn_))⟩)) (below_size hb_)); have n3_ := Aside0.mk (below_step hb_ hb); clear HO_0; clear HO_11; clear HB; have HO_0 := n0_; have HO_11 := n1_; have HO314 := n2_; have HB := n3_; clear n0_ n1_ n2_ n3_; (try clear hb); (try clear ho0)))
        repeat (go_quiet (first | (go_at_call 34; refine calls_of_args (args' := #[.slice A0 l0.length c0, .int .i64 x13_1, .slice A23 (l2.drop 1).length (c2 - 1)]) (by first | (simp only [List.length_drop, List.length_take] <;> rfl) | rfl) ?_; (with_reducible refine (ih k1 (by have := HK1.out; omega) (fun k_ => ((P0_ k_ ∨ w.heap.size ≤ k_) ∧ some k_ ≠ (.slice Ao18 t304.length co18 : Value).ownBlock)) _ _ l0 x13_1 _ _ (l2.drop 1) t312 t315 true _ ?side1 ?side2 ?side3 A21.out).mono ?_); (case side1 => exact HO_0.out); (case side2 => exact kC_ (Kd.C_below HR311.out HB.out)); (case side3 => exact HC311.out); rintro e w24 ⟨v313, rfl, ho0, hb⟩; have n0_ := Aside0.mk (Kd.V_below (kV_ HO_0.out) hb); have n1_ := Aside0.mk (Kd.R_below (kR_ HO_11.out) hb); have n2_ := Aside0.mk (Kd.V_lower (Kd.V_mono (ok' := fun k_ => (P0_ k_ ∨ w.heap.size ≤ k_) ∧ some k_ ≠ (.slice Ao18 t304.length co18 : Value).ownBlock) ho0 (fun k_ hk_ => ⟨Or.elim hk_ (fun hs_ => hs_.1) (fun hn_ => (.inr (Nat.le_trans (below_size hb_) hn_))), Or.elim hk_ (fun hs_ => hs_.2) (fun hn_ => (Kd.fresh' (Kd.R_lt (kR_ HO_11.out)) k_ hn_))⟩)) (below_size hb_)); have n3_ := Aside0.mk (below_step hb_ hb); clear HO_0; clear HO_11; clear HB; have HO_0 := n0_; have HO_11 := n1_; have HO314 := n2_; have HB := n3_; clear n0_ n1_ n2_ n3_; (try clear hb); (try clear ho0))); try go_wp2_with (first | (go_at_call 34; refine calls_of_args (args' := #[.slice A0 l0.length c0, .int .i64 x13_1, .slice A23 (l2.drop 1).length (c2 - 1)]) (by first | (simp only [List.length_drop, List.length_take] <;> rfl) | rfl) ?_; (with_reducible refine (ih k1 (by have := HK1.out; omega) (fun k_ => ((P0_ k_ ∨ w.heap.size ≤ k_) ∧ some k_ ≠ (.slice Ao18 t304.length co18 : Value).ownBlock)) _ _ l0 x13_1 _ _ (l2.drop 1) t312 t315 true _ ?side1 ?side2 ?side3 A21.out).mono ?_); (case side1 => exact HO_0.out); (case side2 => exact kC_ (Kd.C_below HR311.out HB.out)); (case side3 => exact HC311.out); rintro e w24 ⟨v313, rfl, ho0, hb⟩; have n0_ := Aside0.mk (Kd.V_below (kV_ HO_0.out) hb); have n1_ := Aside0.mk (Kd.R_below (kR_ HO_11.out) hb); have n2_ := Aside0.mk (Kd.V_lower (Kd.V_mono (ok' := fun k_ => (P0_ k_ ∨ w.heap.size ≤ k_) ∧ some k_ ≠ (.slice Ao18 t304.length co18 : Value).ownBlock) ho0 (fun k_ hk_ => ⟨Or.elim hk_ (fun hs_ => hs_.1) (fun hn_ => (.inr (Nat.le_trans (below_size hb_) hn_))), Or.elim hk_ (fun hs_ => hs_.2) (fun hn_ => (Kd.fresh' (Kd.R_lt (kR_ HO_11.out)) k_ hn_))⟩)) (below_size hb_)); have n3_ := Aside0.mk (below_step hb_ hb); clear HO_0; clear HO_11; clear HB; have HO_0 := n0_; have HO_11 := n1_; have HO314 := n2_; have HB := n3_; clear n0_ n1_ n2_ n3_; (try clear hb); (try clear ho0))))
        go_meet
        case rel => exact ⟨_, (t312), (t315), rs_, H', ⟨by have := HK1.out; first | omega | exact Nat.le_refl _⟩, ⟨by (with_reducible repeat (first | apply Kd.V_alloc | apply Kd.V_drewN | apply Kd.V_drew)); exact HO314.out⟩, ⟨by (with_reducible repeat (first | apply Kd.R_alloc | apply Kd.R_drewN | apply Kd.R_drew)); exact HO_11.out⟩, ⟨hb_⟩⟩
       ·replace c22 := Bool.eq_false_iff.mpr c22
        subst c22
        have H1 : (some (l0, (-1), false)) = some (r1, r2, r3) := by rw [if_neg (show ¬ (false = true) by decide)] at H; exact H
        clear H
        have H := H1
        clear H1
        simp only [Option.some.injEq, Prod.mk.injEq] at H
        obtain ⟨rfl, rfl, rfl⟩ := H
        obtain ⟨i025, hi025, _, hsz25, _⟩ := info_parts info9
        obtain ⟨A25, hcut25, hA25, hC25⟩ := print_drop_of (P := Try.prog) Value.string (⟨#[]⟩ : ByteArray) 46 9 .i64 Try.underlying46 hi025 hsz25 A2 c2 l2 1 (by omega) (dt_) HC2.out
        have HR311 := Aside0.mk (Kd.C_of_reads (h1 := fun _ => rfl) (hA25 _ (Kd.reads_of_C HR2.out)))
        have HC311 := Aside0.mk hC25
        clear hA25 hC25 hi025 hsz25
        go_wp2_with (first | (go_at_call 34; refine calls_of_args (args' := #[.slice A0 l0.length c0, .int .i64 x13_1, .slice A25 (l2.drop 1).length (c2 - 1)]) (by first | (simp only [List.length_drop, List.length_take] <;> rfl) | rfl) ?_; (with_reducible refine (ih k1 (by have := HK1.out; omega) (fun k_ => ((P0_ k_ ∨ w.heap.size ≤ k_) ∧ some k_ ≠ (.slice Ao18 t304.length co18 : Value).ownBlock)) _ _ l0 x13_1 _ _ (l2.drop 1) t312 t315 false _ ?side1 ?side2 ?side3 A21.out).mono ?_); (case side1 => exact HO_0.out); (case side2 => exact kC_ (Kd.C_below HR311.out HB.out)); (case side3 => exact HC311.out); rintro e w26 ⟨v313, rfl, ho0, hb⟩; have n0_ := Aside0.mk (Kd.V_below (kV_ HO_0.out) hb); have n1_ := Aside0.mk (Kd.R_below (kR_ HO_11.out) hb); have n2_ := Aside0.mk (Kd.V_lower (Kd.V_mono (ok' := fun k_ => (P0_ k_ ∨ w.heap.size ≤ k_) ∧ some k_ ≠ (.slice Ao18 t304.length co18 : Value).ownBlock) ho0 (fun k_ hk_ => ⟨Or.elim hk_ (fun hs_ => hs_.1) (fun hn_ => (.inr (Nat.le_trans (below_size hb_) hn_))), Or.elim hk_ (fun hs_ => hs_.2) (fun hn_ => (Kd.fresh' (Kd.R_lt (kR_ HO_11.out)) k_ hn_))⟩)) (below_size hb_)); have n3_ := Aside0.mk (below_step hb_ hb); clear HO_0; clear HO_11; clear HB; have HO_0 := n0_; have HO_11 := n1_; have HO314 := n2_; have HB := n3_; clear n0_ n1_ n2_ n3_; (try clear hb); (try clear ho0)))
        repeat (go_quiet (first | (go_at_call 34; refine calls_of_args (args' := #[.slice A0 l0.length c0, .int .i64 x13_1, .slice A25 (l2.drop 1).length (c2 - 1)]) (by first | (simp only [List.length_drop, List.length_take] <;> rfl) | rfl) ?_; (with_reducible refine (ih k1 (by have := HK1.out; omega) (fun k_ => ((P0_ k_ ∨ w.heap.size ≤ k_) ∧ some k_ ≠ (.slice Ao18 t304.length co18 : Value).ownBlock)) _ _ l0 x13_1 _ _ (l2.drop 1) t312 t315 false _ ?side1 ?side2 ?side3 A21.out).mono ?_); (case side1 => exact HO_0.out); (case side2 => exact kC_ (Kd.C_below HR311.out HB.out)); (case side3 => exact HC311.out); rintro e w26 ⟨v313, rfl, ho0, hb⟩; have n0_ := Aside0.mk (Kd.V_below (kV_ HO_0.out) hb); have n1_ := Aside0.mk (Kd.R_below (kR_ HO_11.out) hb); have n2_ := Aside0.mk (Kd.V_lower (Kd.V_mono (ok' := fun k_ => (P0_ k_ ∨ w.heap.size ≤ k_) ∧ some k_ ≠ (.slice Ao18 t304.length co18 : Value).ownBlock) ho0 (fun k_ hk_ => ⟨Or.elim hk_ (fun hs_ => hs_.1) (fun hn_ => (.inr (Nat.le_trans (below_size hb_) hn_))), Or.elim hk_ (fun hs_ => hs_.2) (fun hn_ => (Kd.fresh' (Kd.R_lt (kR_ HO_11.out)) k_ hn_))⟩)) (below_size hb_)); have n3_ := Aside0.mk (below_step hb_ hb); clear HO_0; clear HO_11; clear HB; have HO_0 := n0_; have HO_11 := n1_; have HO314 := n2_; have HB := n3_; clear n0_ n1_ n2_ n3_; (try clear hb); (try clear ho0))); try go_wp2_with (first | (go_at_call 34; refine calls_of_args (args' := #[.slice A0 l0.length c0, .int .i64 x13_1, .slice A25 (l2.drop 1).length (c2 - 1)]) (by first | (simp only [List.length_drop, List.length_take] <;> rfl) | rfl) ?_; (with_reducible refine (ih k1 (by have := HK1.out; omega) (fun k_ => ((P0_ k_ ∨ w.heap.size ≤ k_) ∧ some k_ ≠ (.slice Ao18 t304.length co18 : Value).ownBlock)) _ _ l0 x13_1 _ _ (l2.drop 1) t312 t315 false _ ?side1 ?side2 ?side3 A21.out).mono ?_); (case side1 => exact HO_0.out); (case side2 => exact kC_ (Kd.C_below HR311.out HB.out)); (case side3 => exact HC311.out); rintro e w26 ⟨v313, rfl, ho0, hb⟩; have n0_ := Aside0.mk (Kd.V_below (kV_ HO_0.out) hb); have n1_ := Aside0.mk (Kd.R_below (kR_ HO_11.out) hb); have n2_ := Aside0.mk (Kd.V_lower (Kd.V_mono (ok' := fun k_ => (P0_ k_ ∨ w.heap.size ≤ k_) ∧ some k_ ≠ (.slice Ao18 t304.length co18 : Value).ownBlock) ho0 (fun k_ hk_ => ⟨Or.elim hk_ (fun hs_ => hs_.1) (fun hn_ => (.inr (Nat.le_trans (below_size hb_) hn_))), Or.elim hk_ (fun hs_ => hs_.2) (fun hn_ => (Kd.fresh' (Kd.R_lt (kR_ HO_11.out)) k_ hn_))⟩)) (below_size hb_)); have n3_ := Aside0.mk (below_step hb_ hb); clear HO_0; clear HO_11; clear HB; have HO_0 := n0_; have HO_11 := n1_; have HO314 := n2_; have HB := n3_; clear n0_ n1_ n2_ n3_; (try clear hb); (try clear ho0))))
        go_ret3
        exact ⟨_, er_, by (with_reducible repeat (first | apply Kd.V_alloc | apply Kd.V_drewN | apply Kd.V_drew)); exact Kd.V_mono HO_0.out (fun _ hk => hk.1), hb_⟩
      ·rw [if_neg c19] at H
       have c19b0 : decide (1 < (l2.length : Int)) = false := decide_eq_false c19
       have c19b1 : decide (1 < l2.length) = false := decide_eq_false (by omega)
       clear c19
       (first | rw [c19b0] | (simp only [i64_w, i32_w]; rw [c19b0]) | skip)
       have H' := Aside0.mk H
       clear H
       go_wp2
       repeat (go_quiet (fail); try go_wp2)
       go_meet
       case rel => exact ⟨_, (l0), ((-1)), rs_, H', ⟨by have := HK1.out; first | omega | exact Nat.le_refl _⟩, ⟨by (with_reducible repeat (first | apply Kd.V_alloc | apply Kd.V_drewN | apply Kd.V_drew)); exact HO_0.out⟩, ⟨by (with_reducible repeat (first | apply Kd.R_alloc | apply Kd.R_drewN | apply Kd.R_drew)); exact HO_11.out⟩, ⟨hb_⟩⟩
     case rest =>
      clear HC17
      try clear c1
      try clear c2
      try clear p2
      try clear c3
      try clear p3
      try clear q3
      try clear hx3
      try clear qi3
      try clear p6
      try clear c7
      try clear c7b0
      try clear c8
      try clear c9
      try clear c9b0
      try clear c10
      try clear c10b0
      try clear c10b1
      try clear c11
      try clear c11b0
      try clear c11b1
      try clear c15
      try clear c15b0
      try clear c19
      try clear c19b0
      try clear c19b1
      try clear c20
      try clear c20b0
      try clear c20b1
      try clear c22
      try clear hx308_0
      try clear hx308_1
      try clear hx309_0
      try clear hx310_0
      try clear hx310_1
      try clear p2
      try clear p308
      try clear p309
      try clear p310
      try clear q308
      try clear q309
      try clear q310
      obtain ⟨kq, x0_16, x15_16, rfl, HA, HJ16, HO_0, HO_11, HB⟩ := hcut
      cases kq with
      | zero => exact absurd HA.out (by simp [spec_l10Drop.j1])
      | succ kj16 =>
       have H := HA.out
       clear HA
       simp only [spec_l10Drop.j1] at H
       by_cases c27 : 0 < (l2.length : Int); rotate_left
       ·rw [if_neg c27] at H; exact absurd H (by simp)
       rw [if_pos c27] at H
       have c27b0 : decide (0 < (l2.length : Int)) = true := decide_eq_true c27
       have c27b1 : decide (0 < l2.length) = true := decide_eq_true (by omega)
       clear c27
       replace H := Option.bind_eq_some_iff.mp H
       obtain ⟨⟨t318, t319⟩, A280, H⟩ := H
       replace H : (if x15_16 ≥ 0 then ((spec_PutEntry.f kj16 t304 (rdOf ByteArray.empty l2 0) x15_16).bind fun bt323 => (spec_l10Drop.j2 kj16 x0_16 bt323.1)) else (spec_l10Drop.j2 kj16 x0_16 t318)) = some (r1, r2, r3) := H
       have A28 := Aside0.mk A280
       clear A280
       have HC29 := Aside0.mk H
       clear H
       have p317 : 0 ≤ (0 : Int) := (by omega)
       have q317 : 0 < (l2.length : Int) := dt_
       obtain ⟨ad317, e317, hx317_0⟩ := Kd.at_string HR2.out 0 p317 q317
       cases e317
       have qi317 : (0 < l2.length) = True := eq_true (by omega)
       (try rw [show ((0 : Int)).toNat = 0 from rfl] at hx317_0)
       (try rw [Addr.add_zero'] at hx317_0)
       replace hx317_0 := cb_ HB.out hx317_0
       replace p317 := eq_true p317
       replace q317 := eq_true q317
       go_upto_if 84 with (first | (go_at_call 45; (with_reducible refine (spec_DropEntry.calls kj16 _ _ t304 (rdOf ByteArray.empty l2 0) t318 t319 _ ?side1 ?side2 A28.out).mono ?_); (case side1 => exact kC_ ((Kd.R_reads' HO_11.out).2.2)); (case side2 => exact (Kd.R_reads' HO_11.out).2.1); rintro e w30 ⟨v320, rfl, ho0, hb⟩; have n0_ := Aside0.mk (Kd.V_elder' (kV_ HO_0.out) (Kd.R_base ho0) hb); have n1_ := Aside0.mk (Kd.R_elder' (kR_ HO_11.out) (Kd.R_base ho0) hb); have n2_ := Aside0.mk (Kd.R_lower (Kd.R_new' (Kd.R_newM (M := fun k_ => (w.heap.size ≤ k_)) ho0 (below_size hb_) (fun k_ h_ => h_)) (Kd.R_lt (kR_ HO_11.out))) (below_size hb_)); have n3_ := Aside0.mk (below_step hb_ hb); clear HO_0; clear HO_11; clear HB; have HO_0 := n0_; have HO_11 := n1_; have HO321 := n2_; have HB := n3_; clear n0_ n1_ n2_ n3_; (try clear hb); (try clear ho0)))
       repeat (go_quiet (first | (go_at_call 45; (with_reducible refine (spec_DropEntry.calls kj16 _ _ t304 (rdOf ByteArray.empty l2 0) t318 t319 _ ?side1 ?side2 A28.out).mono ?_); (case side1 => exact kC_ ((Kd.R_reads' HO_11.out).2.2)); (case side2 => exact (Kd.R_reads' HO_11.out).2.1); rintro e w30 ⟨v320, rfl, ho0, hb⟩; have n0_ := Aside0.mk (Kd.V_elder' (kV_ HO_0.out) (Kd.R_base ho0) hb); have n1_ := Aside0.mk (Kd.R_elder' (kR_ HO_11.out) (Kd.R_base ho0) hb); have n2_ := Aside0.mk (Kd.R_lower (Kd.R_new' (Kd.R_newM (M := fun k_ => (w.heap.size ≤ k_)) ho0 (below_size hb_) (fun k_ h_ => h_)) (Kd.R_lt (kR_ HO_11.out))) (below_size hb_)); have n3_ := Aside0.mk (below_step hb_ hb); clear HO_0; clear HO_11; clear HB; have HO_0 := n0_; have HO_11 := n1_; have HO321 := n2_; have HB := n3_; clear n0_ n1_ n2_ n3_; (try clear hb); (try clear ho0))); go_upto_if 84 with (first | (go_at_call 45; (with_reducible refine (spec_DropEntry.calls kj16 _ _ t304 (rdOf ByteArray.empty l2 0) t318 t319 _ ?side1 ?side2 A28.out).mono ?_); (case side1 => exact kC_ ((Kd.R_reads' HO_11.out).2.2)); (case side2 => exact (Kd.R_reads' HO_11.out).2.1); rintro e w30 ⟨v320, rfl, ho0, hb⟩; have n0_ := Aside0.mk (Kd.V_elder' (kV_ HO_0.out) (Kd.R_base ho0) hb); have n1_ := Aside0.mk (Kd.R_elder' (kR_ HO_11.out) (Kd.R_base ho0) hb); have n2_ := Aside0.mk (Kd.R_lower (Kd.R_new' (Kd.R_newM (M := fun k_ => (w.heap.size ≤ k_)) ho0 (below_size hb_) (fun k_ h_ => h_)) (Kd.R_lt (kR_ HO_11.out))) (below_size hb_)); have n3_ := Aside0.mk (below_step hb_ hb); clear HO_0; clear HO_11; clear HB; have HO_0 := n0_; have HO_11 := n1_; have HO321 := n2_; have HB := n3_; clear n0_ n1_ n2_ n3_; (try clear hb); (try clear ho0))))
       (try simp only [Act.put, List.setIfInBounds_toArray, List.set_cons_zero, List.set_cons_succ])
       go_cut [19] (fun v19 wc => ∃ (kq : Nat) (x19_28 : List (S79)), Aside0 (spec_l10Drop.j2 kq x0_16 x19_28 = some (r1, r2, r3)) ∧ Aside0 (kq ≤ kj16) ∧ Aside0 (Kd.V k45 45 wc w.heap.size (fun k_ => (P0_ k_ ∨ w.heap.size ≤ k_) ∧ some k_ ≠ (v19 : Value).ownBlock) u0 x0_16) ∧ Aside0 (Kd.R k79 79 wc w.heap.size (fun k_ => (w.heap.size ≤ k_)) v19 x19_28) ∧ Aside0 (Below w.heap.size w wc))
       case first =>
        have H := HC29.out
        clear HC29
        by_cases c31 : x15_16 ≥ 0
        ·rw [if_pos c31] at H
         have c31b0 : decide (0 ≤ x15_16) = true := decide_eq_true c31
         clear c31
         (first | rw [c31b0] | (simp only [i64_w, i32_w]; rw [c31b0]) | skip)
         replace H := Option.bind_eq_some_iff.mp H
         obtain ⟨⟨t323, t326⟩, A320, H⟩ := H
         replace H : (spec_l10Drop.j2 kj16 x0_16 t323) = some (r1, r2, r3) := H
         have A32 := Aside0.mk A320
         clear A320
         have H' := Aside0.mk H
         clear H
         have p322 : 0 ≤ (0 : Int) := (by omega)
         have q322 : 0 < (l2.length : Int) := dt_
         obtain ⟨ad322, e322, hx322_0⟩ := Kd.at_string HR2.out 0 p322 q322
         obtain rfl : ad317 = ad322 := (by injection e322)
         have qi322 : (0 < l2.length) = True := eq_true (by omega)
         (try rw [show ((0 : Int)).toNat = 0 from rfl] at hx322_0)
         (try rw [Addr.add_zero'] at hx322_0)
         replace hx322_0 := cb_ HB.out hx322_0
         replace p322 := eq_true p322
         replace q322 := eq_true q322
         go_wp2_with (first | (go_at_call 46; (with_reducible refine (spec_PutEntry.calls kj16 (fun k_ => some k_ = (.slice Ao18 t304.length co18 : Value).ownBlock) _ _ t304 (rdOf ByteArray.empty l2 0) x15_16 t323 t326 _ ?side1 A32.out).mono ?_); (case side1 => exact Kd.R_V (Kd.R_tight rfl (HO_11.out))); rintro e w33 ⟨v324, rfl, ho0, hb⟩; have n0_ := Aside0.mk (Kd.V_elder' (kV_ HO_0.out) (Kd.R_base ho0) hb); have n1_ := Aside0.mk (Kd.R_elder' (kR_ HO_11.out) (Kd.R_base ho0) hb); have n2_ := Aside0.mk (Kd.R_elder' (kR_ HO321.out) (Kd.R_base ho0) hb); have n3_ := Aside0.mk (Kd.R_lower (Kd.R_new' (Kd.R_new' (Kd.R_newM (M := fun k_ => (w.heap.size ≤ k_)) (Kd.R_mono (ok' := fun k_ => True) ho0 (fun _ hk_ => trivial)) (below_size hb_) (fun k_ h_ => h_)) (Kd.R_lt (kR_ HO_11.out))) (Kd.R_lt (kR_ HO321.out))) (below_size hb_)); have n4_ := Aside0.mk (below_step hb_ hb); clear HO_0; clear HO_11; clear HO321; clear HB; have HO_0 := n0_; have HO_11 := n1_; have HO321 := n2_; have HO325 := n3_; have HB := n4_; clear n0_ n1_ n2_ n3_ n4_; (try clear hb); (try clear ho0)))
         repeat (go_quiet (first | (go_at_call 46; (with_reducible refine (spec_PutEntry.calls kj16 (fun k_ => some k_ = (.slice Ao18 t304.length co18 : Value).ownBlock) _ _ t304 (rdOf ByteArray.empty l2 0) x15_16 t323 t326 _ ?side1 A32.out).mono ?_); (case side1 => exact Kd.R_V (Kd.R_tight rfl (HO_11.out))); rintro e w33 ⟨v324, rfl, ho0, hb⟩; have n0_ := Aside0.mk (Kd.V_elder' (kV_ HO_0.out) (Kd.R_base ho0) hb); have n1_ := Aside0.mk (Kd.R_elder' (kR_ HO_11.out) (Kd.R_base ho0) hb); have n2_ := Aside0.mk (Kd.R_elder' (kR_ HO321.out) (Kd.R_base ho0) hb); have n3_ := Aside0.mk (Kd.R_lower (Kd.R_new' (Kd.R_new' (Kd.R_newM (M := fun k_ => (w.heap.size ≤ k_)) (Kd.R_mono (ok' := fun k_ => True) ho0 (fun _ hk_ => trivial)) (below_size hb_) (fun k_ h_ => h_)) (Kd.R_lt (kR_ HO_11.out))) (Kd.R_lt (kR_ HO321.out))) (below_size hb_)); have n4_ := Aside0.mk (below_step hb_ hb); clear HO_0; clear HO_11; clear HO321; clear HB; have HO_0 := n0_; have HO_11 := n1_; have HO321 := n2_; have HO325 := n3_; have HB := n4_; clear n0_ n1_ n2_ n3_ n4_; (try clear hb); (try clear ho0))); try go_wp2_with (first | (go_at_call 46; (with_reducible refine (spec_PutEntry.calls kj16 (fun k_ => some k_ = (.slice Ao18 t304.length co18 : Value).ownBlock) _ _ t304 (rdOf ByteArray.empty l2 0) x15_16 t323 t326 _ ?side1 A32.out).mono ?_); (case side1 => exact Kd.R_V (Kd.R_tight rfl (HO_11.out))); rintro e w33 ⟨v324, rfl, ho0, hb⟩; have n0_ := Aside0.mk (Kd.V_elder' (kV_ HO_0.out) (Kd.R_base ho0) hb); have n1_ := Aside0.mk (Kd.R_elder' (kR_ HO_11.out) (Kd.R_base ho0) hb); have n2_ := Aside0.mk (Kd.R_elder' (kR_ HO321.out) (Kd.R_base ho0) hb); have n3_ := Aside0.mk (Kd.R_lower (Kd.R_new' (Kd.R_new' (Kd.R_newM (M := fun k_ => (w.heap.size ≤ k_)) (Kd.R_mono (ok' := fun k_ => True) ho0 (fun _ hk_ => trivial)) (below_size hb_) (fun k_ h_ => h_)) (Kd.R_lt (kR_ HO_11.out))) (Kd.R_lt (kR_ HO321.out))) (below_size hb_)); have n4_ := Aside0.mk (below_step hb_ hb); clear HO_0; clear HO_11; clear HO321; clear HB; have HO_0 := n0_; have HO_11 := n1_; have HO321 := n2_; have HO325 := n3_; have HB := n4_; clear n0_ n1_ n2_ n3_ n4_; (try clear hb); (try clear ho0))))
         go_meet
         case rel => exact ⟨_, (t323), H', ⟨by have := HK1.out; have := HJ16.out; first | omega | exact Nat.le_refl _⟩, ⟨by (with_reducible repeat (first | apply Kd.V_alloc | apply Kd.V_drewN | apply Kd.V_drew)); exact Kd.V_mono HO_0.out (fun _ hk => ⟨hk.1.1.1, hk.2⟩)⟩, ⟨by (with_reducible repeat (first | apply Kd.R_alloc | apply Kd.R_drewN | apply Kd.R_drew)); exact Kd.R_mono HO325.out (fun _ hk => hk.1.1.1)⟩, ⟨hb_⟩⟩
        ·rw [if_neg c31] at H
         have c31b0 : decide (0 ≤ x15_16) = false := decide_eq_false c31
         clear c31
         (first | rw [c31b0] | (simp only [i64_w, i32_w]; rw [c31b0]) | skip)
         have H' := Aside0.mk H
         clear H
         go_wp2
         repeat (go_quiet (fail); try go_wp2)
         go_meet
         case rel => exact ⟨_, (t318), H', ⟨by have := HK1.out; have := HJ16.out; first | omega | exact Nat.le_refl _⟩, ⟨by (with_reducible repeat (first | apply Kd.V_alloc | apply Kd.V_drewN | apply Kd.V_drew)); exact Kd.V_mono HO_0.out (fun _ hk => ⟨hk.1.1, hk.2⟩)⟩, ⟨by (with_reducible repeat (first | apply Kd.R_alloc | apply Kd.R_drewN | apply Kd.R_drew)); exact Kd.R_mono HO321.out (fun _ hk => hk.1.1)⟩, ⟨hb_⟩⟩
       case rest =>
        clear HC29
        try clear c1
        try clear c2
        try clear p2
        try clear c3
        try clear p3
        try clear q3
        try clear hx3
        try clear qi3
        try clear p6
        try clear c7
        try clear c7b0
        try clear c8
        try clear c9
        try clear c9b0
        try clear c10
        try clear c10b0
        try clear c10b1
        try clear c11
        try clear c11b0
        try clear c11b1
        try clear c15
        try clear c15b0
        try clear c19
        try clear c19b0
        try clear c19b1
        try clear c20
        try clear c20b0
        try clear c20b1
        try clear c22
        try clear c27
        try clear c27b0
        try clear c27b1
        try clear p30
        try clear q30
        try clear hx30
        try clear qi30
        try clear c31
        try clear c31b0
        try clear p31
        try clear q31
        try clear hx31
        try clear qi31
        try clear p32
        try clear q32
        try clear hx32
        try clear qi32
        try clear hx308_0
        try clear hx308_1
        try clear hx309_0
        try clear hx310_0
        try clear hx310_1
        try clear hx317_0
        try clear hx322_0
        try clear p2
        try clear p3
        try clear p308
        try clear p309
        try clear p310
        try clear p317
        try clear p322
        try clear p6
        try clear q3
        try clear q308
        try clear q309
        try clear q310
        try clear q317
        try clear q322
        obtain ⟨kq, x19_28, HA, HJ28, HO_0, HO_19, HB⟩ := hcut
        cases kq with
        | zero => exact absurd HA.out (by simp [spec_l10Drop.j2])
        | succ kj28 =>
         have H := HA.out
         clear HA
         simp only [spec_l10Drop.j2] at H
         by_cases c34 : (x19_28.length : Int) = 0
         ·rw [if_pos c34] at H
          have c34b0 : ((x19_28.length : Int) == 0) = true := beq_iff_eq.mpr c34
          have c34b1 : ((x19_28.length : Int) != 0) = false := bne_eq_false_iff_eq.mpr c34
          clear c34
          simp only [Option.some.injEq, Prod.mk.injEq] at H
          obtain ⟨rfl, rfl, rfl⟩ := H
          obtain ⟨Ao35, co35, eo35⟩ := Kd.R_slice HO_19.out
          subst eo35
          go_wp2
          repeat (go_quiet (fail); try go_wp2)
          go_ret3
          exact ⟨_, er_, by (with_reducible repeat (first | apply Kd.V_alloc | apply Kd.V_drewN | apply Kd.V_drew)); exact Kd.V_mono HO_0.out (fun _ hk => hk.1), hb_⟩
         ·rw [if_neg c34] at H
          have c34b0 : ((x19_28.length : Int) == 0) = false := beq_eq_false_iff_ne.mpr c34
          have c34b1 : ((x19_28.length : Int) != 0) = true := bne_iff_ne.mpr c34
          have c34b2 : ¬ (x19_28 = []) := fun h_ => c34 (by rw [h_]; rfl)
          replace H := Option.bind_eq_some_iff.mp H
          obtain ⟨t327, A360, H⟩ := H
          replace H : ((spec_PutText.f kj28 x0_16 t327).bind fun bt328 => (some (bt328.1, bt328.2.1, bt328.2.2))) = some (r1, r2, r3) := H
          have A36 := Aside0.mk A360
          clear A360
          replace H := Option.bind_eq_some_iff.mp H
          obtain ⟨⟨t328, t329, t330⟩, A370, H⟩ := H
          replace H : (some (t328, t329, t330)) = some (r1, r2, r3) := H
          have A37 := Aside0.mk A370
          clear A370
          simp only [Option.some.injEq, Prod.mk.injEq] at H
          obtain ⟨rfl, rfl, rfl⟩ := H
          obtain ⟨Ao38, co38, eo38⟩ := Kd.R_slice HO_19.out
          subst eo38
          go_wp2_with (first | (go_at_call 31; (with_reducible refine (spec_FolderText.calls kj28 _ _ x19_28 t327 _ ?side1 ?side2 A36.out).mono ?_); (case side1 => exact kC_ ((Kd.R_reads' HO_19.out).2.2)); (case side2 => exact (Kd.R_reads' HO_19.out).2.1); rintro e w39 ⟨rfl, hb⟩; have n0_ := Aside0.mk (Kd.V_below (kV_ HO_0.out) hb); have n1_ := Aside0.mk (Kd.R_below (kR_ HO_19.out) hb); have n2_ := Aside0.mk (below_step hb_ hb); clear HO_0; clear HO_19; clear HB; have HO_0 := n0_; have HO_19 := n1_; have HB := n2_; clear n0_ n1_ n2_; (try clear hb); obtain ⟨Ao40, co40, eo40⟩ := Kd.V_slice HO_0.out; subst eo40) | (go_at_call 30; (with_reducible refine (spec_PutText.calls kj28 _ _ x0_16 t327 t328 t329 t330 _ ?side1 ?side2 A37.out).mono ?_); (case side1 => exact kC_ ((Kd.V_reads' HO_0.out).2.2)); (case side2 => exact (Kd.V_reads' HO_0.out).2.1); rintro e w41 ⟨v331, rfl, ho0, hb⟩; have n0_ := Aside0.mk (Kd.V_elder' (kV_ HO_0.out) (Kd.R_base ho0) hb); have n1_ := Aside0.mk (Kd.R_below (kR_ HO_19.out) hb); have n2_ := Aside0.mk (Kd.R_lower (Kd.R_newM (M := fun k_ => (w.heap.size ≤ k_)) ho0 (below_size hb_) (fun k_ h_ => h_)) (below_size hb_)); have n3_ := Aside0.mk (below_step hb_ hb); clear HO_0; clear HO_19; clear HB; have HO_0 := n0_; have HO_19 := n1_; have HO332 := n2_; have HB := n3_; clear n0_ n1_ n2_ n3_; (try clear hb); (try clear ho0)))
          repeat (go_quiet (first | (go_at_call 31; (with_reducible refine (spec_FolderText.calls kj28 _ _ x19_28 t327 _ ?side1 ?side2 A36.out).mono ?_); (case side1 => exact kC_ ((Kd.R_reads' HO_19.out).2.2)); (case side2 => exact (Kd.R_reads' HO_19.out).2.1); rintro e w39 ⟨rfl, hb⟩; have n0_ := Aside0.mk (Kd.V_below (kV_ HO_0.out) hb); have n1_ := Aside0.mk (Kd.R_below (kR_ HO_19.out) hb); have n2_ := Aside0.mk (below_step hb_ hb); clear HO_0; clear HO_19; clear HB; have HO_0 := n0_; have HO_19 := n1_; have HB := n2_; clear n0_ n1_ n2_; (try clear hb); obtain ⟨Ao40, co40, eo40⟩ := Kd.V_slice HO_0.out; subst eo40) | (go_at_call 30; (with_reducible refine (spec_PutText.calls kj28 _ _ x0_16 t327 t328 t329 t330 _ ?side1 ?side2 A37.out).mono ?_); (case side1 => exact kC_ ((Kd.V_reads' HO_0.out).2.2)); (case side2 => exact (Kd.V_reads' HO_0.out).2.1); rintro e w41 ⟨v331, rfl, ho0, hb⟩; have n0_ := Aside0.mk (Kd.V_elder' (kV_ HO_0.out) (Kd.R_base ho0) hb); have n1_ := Aside0.mk (Kd.R_below (kR_ HO_19.out) hb); have n2_ := Aside0.mk (Kd.R_lower (Kd.R_newM (M := fun k_ => (w.heap.size ≤ k_)) ho0 (below_size hb_) (fun k_ h_ => h_)) (below_size hb_)); have n3_ := Aside0.mk (below_step hb_ hb); clear HO_0; clear HO_19; clear HB; have HO_0 := n0_; have HO_19 := n1_; have HO332 := n2_; have HB := n3_; clear n0_ n1_ n2_ n3_; (try clear hb); (try clear ho0))); try go_wp2_with (first | (go_at_call 31; (with_reducible refine (spec_FolderText.calls kj28 _ _ x19_28 t327 _ ?side1 ?side2 A36.out).mono ?_); (case side1 => exact kC_ ((Kd.R_reads' HO_19.out).2.2)); (case side2 => exact (Kd.R_reads' HO_19.out).2.1); rintro e w39 ⟨rfl, hb⟩; have n0_ := Aside0.mk (Kd.V_below (kV_ HO_0.out) hb); have n1_ := Aside0.mk (Kd.R_below (kR_ HO_19.out) hb); have n2_ := Aside0.mk (below_step hb_ hb); clear HO_0; clear HO_19; clear HB; have HO_0 := n0_; have HO_19 := n1_; have HB := n2_; clear n0_ n1_ n2_; (try clear hb); obtain ⟨Ao40, co40, eo40⟩ := Kd.V_slice HO_0.out; subst eo40) | (go_at_call 30; (with_reducible refine (spec_PutText.calls kj28 _ _ x0_16 t327 t328 t329 t330 _ ?side1 ?side2 A37.out).mono ?_); (case side1 => exact kC_ ((Kd.V_reads' HO_0.out).2.2)); (case side2 => exact (Kd.V_reads' HO_0.out).2.1); rintro e w41 ⟨v331, rfl, ho0, hb⟩; have n0_ := Aside0.mk (Kd.V_elder' (kV_ HO_0.out) (Kd.R_base ho0) hb); have n1_ := Aside0.mk (Kd.R_below (kR_ HO_19.out) hb); have n2_ := Aside0.mk (Kd.R_lower (Kd.R_newM (M := fun k_ => (w.heap.size ≤ k_)) ho0 (below_size hb_) (fun k_ h_ => h_)) (below_size hb_)); have n3_ := Aside0.mk (below_step hb_ hb); clear HO_0; clear HO_19; clear HB; have HO_0 := n0_; have HO_19 := n1_; have HO332 := n2_; have HB := n3_; clear n0_ n1_ n2_ n3_; (try clear hb); (try clear ho0))))
          go_ret3
          exact ⟨_, er_, Kd.V_mono (Kd.R_V (by refine kR_ ?_; exact Kd.R_mono HO332.out (fun _ hk => hk.1))) (fun k_ hk => by first | exact ⟨(.inr (hk.1)), hk.2⟩ | exact (.inr (hk))), hb_⟩
/-! ### spec_DropAt: function 22 -/
mutual
def spec_DropAt.j0 : Nat → List (S45) → Int → List ByteArray → Bool → Option ((List (S45)) × Int × Bool)
 | 0, _, _, _, _ => none
 | k + 1, x0, x1, x9, x33 => if x33 = true then (some ((([] : List (S45))), (-1), false)) else ((some (([] : List (S45)) : List (S45))).bind fun y341 => (if y341.length + x0.length < 5864062014805 then ((some (y341 ++ x0 : List (S45))).bind fun y344 => ((spec_l9Walk.f k x0 x1 x9).bind fun bt347 => (if bt347.2 = true then ((spec_l10Drop.f k x0 x1 x9).bind fun bt349 => (if bt349.2.2 = true then (spec_DropAt.j1 k x1 y344 bt349.1 bt349.2.1 bt349.2.2 (decide (bt349.2.1 < 0))) else (spec_DropAt.j1 k x1 y344 bt349.1 bt349.2.1 bt349.2.2 false))) else (some (y344, x1, false))))) else (none)))
def spec_DropAt.j1 : Nat → Int → List (S45) → List (S45) → Int → Bool → Bool → Option ((List (S45)) × Int × Bool)
 | 0, _, _, _, _, _, _ => none
 | k + 1, x1, x11, x14, x15, x16, x61 => if x61 = true then ((spec_EmptyRoot.f k x14).bind fun bt354 => (if bt354.2.2 = true then ((some (([] : List (S45)) : List (S45))).bind fun y359 => (if y359.length + bt354.1.length < 5864062014805 then (some ((y359 ++ bt354.1), bt354.2.1, true)) else (none))) else (some (x11, x1, false)))) else (if x16 = true then ((some (([] : List (S45)) : List (S45))).bind fun y365 => (if y365.length + x14.length < 5864062014805 then (some ((y365 ++ x14), x15, true)) else (none))) else (some (x11, x1, false)))
end
def spec_DropAt.f (k : Nat) (l0 : List (S45)) (a1 : Int) (a2 : ByteArray) : Option ((List (S45)) × Int × Bool) := (spec_PathParts.f k a2).bind fun bt333 => ((spec_StoreValid.f k l0).bind fun t337 => (if t337 = true then (if bt333.2 = true then (spec_DropAt.j0 k l0 a1 bt333.1 ((bt333.1.length : Int) == 0)) else (spec_DropAt.j0 k l0 a1 bt333.1 true)) else (spec_DropAt.j0 k l0 a1 bt333.1 true)))
theorem spec_DropAt.mono_l : ∀ k, (∀ y0 y1 y2 y3, LeO (spec_DropAt.j0 k y0 y1 y2 y3) (spec_DropAt.j0 (k + 1) y0 y1 y2 y3)) ∧ (∀ y0 y1 y2 y3 y4 y5, LeO (spec_DropAt.j1 k y0 y1 y2 y3 y4 y5) (spec_DropAt.j1 (k + 1) y0 y1 y2 y3 y4 y5))
 | 0 => ⟨fun _ _ _ _ r h => by simp [spec_DropAt.j0] at h, fun _ _ _ _ _ _ r h => by simp [spec_DropAt.j1] at h⟩
 | k + 1 => by
  obtain ⟨ih0, ih1⟩ := spec_DropAt.mono_l k
  refine ⟨?_, ?_⟩
  ·intro y0 y1 y2 y3
   unfold spec_DropAt.j0
   repeat' first
   | (with_reducible exact ih0 _ _ _ _)
   | (with_reducible exact ih1 _ _ _ _ _ _)
   | (with_reducible exact spec_EmptyRoot.mono _ _)
   | (with_reducible exact spec_PathParts.mono _ _)
   | (with_reducible exact spec_StoreValid.mono _ _)
   | (with_reducible exact spec_l10Drop.mono _ _ _ _)
   | (with_reducible exact spec_l9Walk.mono _ _ _ _)
   | (with_reducible exact LeO.refl _)
   | (with_reducible exact LeO.none _)
   | (with_reducible refine LeO.ite ?_ ?_)
   | (with_reducible refine LeO.bind ?_ (fun _ => ?_))
   | exact ih0 _ _ _ _
   | exact ih1 _ _ _ _ _ _
   | exact spec_EmptyRoot.mono _ _
   | exact spec_PathParts.mono _ _
   | exact spec_StoreValid.mono _ _
   | exact spec_l10Drop.mono _ _ _ _
   | exact spec_l9Walk.mono _ _ _ _
   | exact LeO.none _
   | refine LeO.ite ?_ ?_
   | refine LeO.bind ?_ (fun _ => ?_)
  ·intro y0 y1 y2 y3 y4 y5
   unfold spec_DropAt.j1
   repeat' first
   | (with_reducible exact ih0 _ _ _ _)
   | (with_reducible exact ih1 _ _ _ _ _ _)
   | (with_reducible exact spec_EmptyRoot.mono _ _)
   | (with_reducible exact spec_PathParts.mono _ _)
   | (with_reducible exact spec_StoreValid.mono _ _)
   | (with_reducible exact spec_l10Drop.mono _ _ _ _)
   | (with_reducible exact spec_l9Walk.mono _ _ _ _)
   | (with_reducible exact LeO.refl _)
   | (with_reducible exact LeO.none _)
   | (with_reducible refine LeO.ite ?_ ?_)
   | (with_reducible refine LeO.bind ?_ (fun _ => ?_))
   | exact ih0 _ _ _ _
   | exact ih1 _ _ _ _ _ _
   | exact spec_EmptyRoot.mono _ _
   | exact spec_PathParts.mono _ _
   | exact spec_StoreValid.mono _ _
   | exact spec_l10Drop.mono _ _ _ _
   | exact spec_l9Walk.mono _ _ _ _
   | exact LeO.none _
   | refine LeO.ite ?_ ?_
   | refine LeO.bind ?_ (fun _ => ?_)
theorem spec_DropAt.mono : ∀ a0 a1 a2 k, LeO (spec_DropAt.f k a0 a1 a2) (spec_DropAt.f (k + 1) a0 a1 a2) := by
 intro a0 a1 a2 k
 obtain ⟨ih0, ih1⟩ := spec_DropAt.mono_l k
 unfold spec_DropAt.f
 repeat' first
   | (with_reducible exact ih0 _ _ _ _)
   | (with_reducible exact ih1 _ _ _ _ _ _)
   | (with_reducible exact spec_EmptyRoot.mono _ _)
   | (with_reducible exact spec_PathParts.mono _ _)
   | (with_reducible exact spec_StoreValid.mono _ _)
   | (with_reducible exact spec_l10Drop.mono _ _ _ _)
   | (with_reducible exact spec_l9Walk.mono _ _ _ _)
   | (with_reducible exact LeO.refl _)
   | (with_reducible exact LeO.none _)
   | (with_reducible refine LeO.ite ?_ ?_)
   | (with_reducible refine LeO.bind ?_ (fun _ => ?_))
   | exact ih0 _ _ _ _
   | exact ih1 _ _ _ _ _ _
   | exact spec_EmptyRoot.mono _ _
   | exact spec_PathParts.mono _ _
   | exact spec_StoreValid.mono _ _
   | exact spec_l10Drop.mono _ _ _ _
   | exact spec_l9Walk.mono _ _ _ _
   | exact LeO.none _
   | refine LeO.ite ?_ ?_
   | refine LeO.bind ?_ (fun _ => ?_)
set_option maxHeartbeats 8000000 in
set_option maxRecDepth 100000 in
theorem spec_DropAt.calls (k : Nat) (A0 : Option Addr) (c0 : Nat) (l0 : List (S45)) (a1 : Int) (a2 : ByteArray) (r1 : List (S45)) (r2 : Int) (r3 : Bool) (w : World) (hr0 : Kd.C k45 w A0 l0.length l0) (hc0 : l0.length ≤ c0) (h : spec_DropAt.f k l0 a1 a2 = some (r1, r2, r3)) :
  Calls Try.prog 22 #[.slice A0 l0.length c0, .int .i64 a1, .string a2] w fun e w' => ∃ v0_ : Value, e = .returned (.tuple #[v0_, .int .i64 r2, .bool r3]) ∧ Kd.R k45 45 w' w.heap.size (fun _ => True) v0_ r1 ∧ Below w.heap.size w w' := by
 have HR0 := Aside0.mk hr0
 have HC0 := Aside0.mk hc0
 clear hr0 hc0
 have HB := Aside0.mk (Below.refl w.heap.size w)
 have H : ((spec_PathParts.f k a2).bind fun bt333 => ((spec_StoreValid.f k l0).bind fun t337 => (if t337 = true then (if bt333.2 = true then (spec_DropAt.j0 k l0 a1 bt333.1 ((bt333.1.length : Int) == 0)) else (spec_DropAt.j0 k l0 a1 bt333.1 true)) else (spec_DropAt.j0 k l0 a1 bt333.1 true)))) = some (r1, r2, r3) := h
 clear h
 replace H := Option.bind_eq_some_iff.mp H
 obtain ⟨⟨t333, t334⟩, A40, H⟩ := H
 replace H : ((spec_StoreValid.f k l0).bind fun t337 => (if t337 = true then (if t334 = true then (spec_DropAt.j0 k l0 a1 t333 ((t333.length : Int) == 0)) else (spec_DropAt.j0 k l0 a1 t333 true)) else (spec_DropAt.j0 k l0 a1 t333 true))) = some (r1, r2, r3) := H
 have A4 := Aside0.mk A40
 clear A40
 have HC5 := Aside0.mk H
 clear H
 go_enter Try.func22, Try.ntmps22
 go_upto_region 2 with (first | ((with_reducible refine gate_callee (f := 32) rfl ?_); refine goesL_ (some 19) rfl rfl Try.func32 (by kernel_rfl) rfl #[.string a2] rfl sl_ ?_; (with_reducible refine (spec_PathParts.calls k a2 t333 t334 _ A4.out).mono ?_); rintro e w6 ⟨v335, rfl, ho0, hb⟩; refine ⟨_, rfl, ?_⟩; have HO336 := Aside0.mk (Kd.R_lower ho0 (below_size hb_)); replace HB := Aside0.mk (below_step hb_ hb); (try clear hb); (try clear ho0)))
 (try simp only [Act.put, List.setIfInBounds_toArray, List.set_cons_zero, List.set_cons_succ])
 go_cut [33] (fun v33 wc => ∃ (kq : Nat) (x33_4 : Bool), v33 = .bool x33_4 ∧ Aside0 (spec_DropAt.j0 kq l0 a1 t333 x33_4 = some (r1, r2, r3)) ∧ Aside0 (kq ≤ k) ∧ Aside0 (Kd.R Kd.string 9 wc w.heap.size (fun _ => True) v335 t333) ∧ Aside0 (Below w.heap.size w wc))
 case first =>
  have H := HC5.out
  clear HC5
  replace H := Option.bind_eq_some_iff.mp H
  obtain ⟨t337, A70, H⟩ := H
  replace H : (if t337 = true then (if t334 = true then (spec_DropAt.j0 k l0 a1 t333 ((t333.length : Int) == 0)) else (spec_DropAt.j0 k l0 a1 t333 true)) else (spec_DropAt.j0 k l0 a1 t333 true)) = some (r1, r2, r3) := H
  have A7 := Aside0.mk A70
  clear A70
  by_cases c8 : t337 = true
  ·subst c8
   have H1 : (if t334 = true then (spec_DropAt.j0 k l0 a1 t333 ((t333.length : Int) == 0)) else (spec_DropAt.j0 k l0 a1 t333 true)) = some (r1, r2, r3) := by rw [if_pos rfl] at H; exact H
   clear H
   have H := H1
   clear H1
   by_cases c9 : t334 = true
   ·subst c9
    have H1 : (spec_DropAt.j0 k l0 a1 t333 ((t333.length : Int) == 0)) = some (r1, r2, r3) := by rw [if_pos rfl] at H; exact H
    clear H
    have H := H1
    clear H1
    have H' := Aside0.mk H
    clear H
    go_wp2_with (first | ((with_reducible refine gate_callee (f := 25) rfl ?_); refine goesL_ (some 23) rfl rfl Try.func25 (by kernel_rfl) rfl #[.slice A0 l0.length c0] rfl sl_ ?_; (with_reducible refine (spec_StoreValid.calls k _ _ l0 true _ ?side1 ?side2 A7.out).mono ?_); (case side1 => exact kC_ (Kd.C_below HR0.out HB.out)); (case side2 => exact HC0.out); rintro e w10 ⟨rfl, hb⟩; refine ⟨_, rfl, ?_⟩; replace HO336 := Aside0.mk (Kd.R_below (kR_ HO336.out) hb); replace HB := Aside0.mk (below_step hb_ hb); (try clear hb); obtain ⟨Ao11, co11, eo11⟩ := Kd.R_slice HO336.out; subst eo11))
    go_meet
    case rel => exact ⟨_, (((t333.length : Int) == 0)), rs_, H', ⟨by first | omega | exact Nat.le_refl _⟩, ⟨by (with_reducible repeat (first | apply Kd.R_alloc | apply Kd.R_drewN | apply Kd.R_drew)); exact HO336.out⟩, ⟨hb_⟩⟩
   ·replace c9 := Bool.eq_false_iff.mpr c9
    subst c9
    have H1 : (spec_DropAt.j0 k l0 a1 t333 true) = some (r1, r2, r3) := by rw [if_neg (show ¬ (false = true) by decide)] at H; exact H
    clear H
    have H := H1
    clear H1
    have H' := Aside0.mk H
    clear H
    go_wp2_with (first | ((with_reducible refine gate_callee (f := 25) rfl ?_); refine goesL_ (some 23) rfl rfl Try.func25 (by kernel_rfl) rfl #[.slice A0 l0.length c0] rfl sl_ ?_; (with_reducible refine (spec_StoreValid.calls k _ _ l0 true _ ?side1 ?side2 A7.out).mono ?_); (case side1 => exact kC_ (Kd.C_below HR0.out HB.out)); (case side2 => exact HC0.out); rintro e w12 ⟨rfl, hb⟩; refine ⟨_, rfl, ?_⟩; replace HO336 := Aside0.mk (Kd.R_below (kR_ HO336.out) hb); replace HB := Aside0.mk (below_step hb_ hb); (try clear hb)))
    go_meet
    case rel => exact ⟨_, (true), rs_, H', ⟨by first | omega | exact Nat.le_refl _⟩, ⟨by (with_reducible repeat (first | apply Kd.R_alloc | apply Kd.R_drewN | apply Kd.R_drew)); exact HO336.out⟩, ⟨hb_⟩⟩
  ·replace c8 := Bool.eq_false_iff.mpr c8
   subst c8
   have H1 : (spec_DropAt.j0 k l0 a1 t333 true) = some (r1, r2, r3) := by rw [if_neg (show ¬ (false = true) by decide)] at H; exact H
   clear H
   have H := H1
   clear H1
   have H' := Aside0.mk H
   clear H
   go_wp2_with (first | ((with_reducible refine gate_callee (f := 25) rfl ?_); refine goesL_ (some 23) rfl rfl Try.func25 (by kernel_rfl) rfl #[.slice A0 l0.length c0] rfl sl_ ?_; (with_reducible refine (spec_StoreValid.calls k _ _ l0 false _ ?side1 ?side2 A7.out).mono ?_); (case side1 => exact kC_ (Kd.C_below HR0.out HB.out)); (case side2 => exact HC0.out); rintro e w13 ⟨rfl, hb⟩; refine ⟨_, rfl, ?_⟩; replace HO336 := Aside0.mk (Kd.R_below (kR_ HO336.out) hb); replace HB := Aside0.mk (below_step hb_ hb); (try clear hb)))
   go_meet
   case rel => exact ⟨_, (true), rs_, H', ⟨by first | omega | exact Nat.le_refl _⟩, ⟨by (with_reducible repeat (first | apply Kd.R_alloc | apply Kd.R_drewN | apply Kd.R_drew)); exact HO336.out⟩, ⟨hb_⟩⟩
 case rest =>
  clear HC5
  try clear c2
  try clear p2
  try clear c3
  try clear c8
  try clear c9
  obtain ⟨kq, x33_4, rfl, HA, HJ4, HO_9, HB⟩ := hcut
  cases kq with
  | zero => exact absurd HA.out (by simp [spec_DropAt.j0])
  | succ kj4 =>
   have H := HA.out
   clear HA
   simp only [spec_DropAt.j0] at H
   by_cases c14 : x33_4 = true
   ·subst c14
    have H1 : (some ((([] : List (S45))), (-1), false)) = some (r1, r2, r3) := by rw [if_pos rfl] at H; exact H
    clear H
    have H := H1
    clear H1
    obtain ⟨y338, hy338⟩ : ∃ y_ : List (S45), y_ = (([] : List (S45))) := ⟨_, rfl⟩
    replace H : (some (y338, (-1), false)) = some (r1, r2, r3) := hq_ hy338 H
    have Ny338 := Aside0.mk hy338
    clear hy338
    simp only [Option.some.injEq, Prod.mk.injEq] at H
    obtain ⟨rfl, rfl, rfl⟩ := H
    go_wp2_with (first | ((with_reducible refine gate_dst (N := 34) rfl ?_); refine Kd.R_lit k45 _ 45 ?hg (N := 34) ?hd (xs := ([] : List (S45))) (inner := []) (ok := fun _ => True) (okp := fun _ => True) ?hr ?hp (fun _ hk => hk) trivial (Below.refl _ _) (Nat.le_refl _) (by simp) ?_; (case hd => rfl); (case hg => rfl); (case hr => first | (go_simp; done) | (go_simp; rfl)); (case hp => exact (Reps.none _ _)); intro v339 w15 ho16 hb hg_ hnew_; clear hg_ hnew_; (first | rw [← Ny338.out] at ho16 | (simp only [Int.reduceToNat] at ho16; rw [← Ny338.out] at ho16)); replace HO_9 := Aside0.mk (Kd.R_below (kR_ HO_9.out) hb); have HO340 := Aside0.mk (Kd.R_lower ho16 (below_size hb_)); replace HB := Aside0.mk (below_step hb_ hb); clear hb ho16))
    go_ret3
    exact ⟨_, er_, by (with_reducible repeat (first | apply Kd.R_alloc | apply Kd.R_drewN | apply Kd.R_drew)); exact HO340.out, hb_⟩
   ·replace c14 := Bool.eq_false_iff.mpr c14
    subst c14
    have H1 : ((some (([] : List (S45)) : List (S45))).bind fun y341 => (if y341.length + l0.length < 5864062014805 then ((some (y341 ++ l0 : List (S45))).bind fun y344 => ((spec_l9Walk.f kj4 l0 a1 t333).bind fun bt347 => (if bt347.2 = true then ((spec_l10Drop.f kj4 l0 a1 t333).bind fun bt349 => (if bt349.2.2 = true then (spec_DropAt.j1 kj4 a1 y344 bt349.1 bt349.2.1 bt349.2.2 (decide (bt349.2.1 < 0))) else (spec_DropAt.j1 kj4 a1 y344 bt349.1 bt349.2.1 bt349.2.2 false))) else (some (y344, a1, false))))) else (none))) = some (r1, r2, r3) := by rw [if_neg (show ¬ (false = true) by decide)] at H; exact H
    clear H
    have H := H1
    clear H1
    obtain ⟨y341, hy341⟩ : ∃ y_ : List (S45), y_ = (([] : List (S45))) := ⟨_, rfl⟩
    replace H : (if y341.length + l0.length < 5864062014805 then ((some (y341 ++ l0 : List (S45))).bind fun y344 => ((spec_l9Walk.f kj4 l0 a1 t333).bind fun bt347 => (if bt347.2 = true then ((spec_l10Drop.f kj4 l0 a1 t333).bind fun bt349 => (if bt349.2.2 = true then (spec_DropAt.j1 kj4 a1 y344 bt349.1 bt349.2.1 bt349.2.2 (decide (bt349.2.1 < 0))) else (spec_DropAt.j1 kj4 a1 y344 bt349.1 bt349.2.1 bt349.2.2 false))) else (some (y344, a1, false))))) else (none)) = some (r1, r2, r3) := hq_ hy341 H
    have Ny341 := Aside0.mk hy341
    clear hy341
    by_cases c17 : y341.length + l0.length < 5864062014805; rotate_left
    ·rw [if_neg c17] at H; exact absurd H (by simp)
    rw [if_pos c17] at H
    have LMc17 := Aside0.mk c17
    clear c17
    obtain ⟨y344, hy344⟩ : ∃ y_ : List (S45), y_ = (y341 ++ l0) := ⟨_, rfl⟩
    replace H : ((spec_l9Walk.f kj4 l0 a1 t333).bind fun bt347 => (if bt347.2 = true then ((spec_l10Drop.f kj4 l0 a1 t333).bind fun bt349 => (if bt349.2.2 = true then (spec_DropAt.j1 kj4 a1 y344 bt349.1 bt349.2.1 bt349.2.2 (decide (bt349.2.1 < 0))) else (spec_DropAt.j1 kj4 a1 y344 bt349.1 bt349.2.1 bt349.2.2 false))) else (some (y344, a1, false)))) = some (r1, r2, r3) := hq_ hy344 H
    have Ny344 := Aside0.mk hy344
    clear hy344
    replace H := Option.bind_eq_some_iff.mp H
    obtain ⟨⟨t347, t348⟩, A180, H⟩ := H
    replace H : (if t348 = true then ((spec_l10Drop.f kj4 l0 a1 t333).bind fun bt349 => (if bt349.2.2 = true then (spec_DropAt.j1 kj4 a1 y344 bt349.1 bt349.2.1 bt349.2.2 (decide (bt349.2.1 < 0))) else (spec_DropAt.j1 kj4 a1 y344 bt349.1 bt349.2.1 bt349.2.2 false))) else (some (y344, a1, false))) = some (r1, r2, r3) := H
    have A18 := Aside0.mk A180
    clear A180
    by_cases c19 : t348 = true
    ·subst c19
     have H1 : ((spec_l10Drop.f kj4 l0 a1 t333).bind fun bt349 => (if bt349.2.2 = true then (spec_DropAt.j1 kj4 a1 y344 bt349.1 bt349.2.1 bt349.2.2 (decide (bt349.2.1 < 0))) else (spec_DropAt.j1 kj4 a1 y344 bt349.1 bt349.2.1 bt349.2.2 false))) = some (r1, r2, r3) := by rw [if_pos rfl] at H; exact H
     clear H
     have H := H1
     clear H1
     replace H := Option.bind_eq_some_iff.mp H
     obtain ⟨⟨t349, t352, t353⟩, A200, H⟩ := H
     replace H : (if t353 = true then (spec_DropAt.j1 kj4 a1 y344 t349 t352 t353 (decide (t352 < 0))) else (spec_DropAt.j1 kj4 a1 y344 t349 t352 t353 false)) = some (r1, r2, r3) := H
     have A20 := Aside0.mk A200
     clear A200
     have HC21 := Aside0.mk H
     clear H
     go_upto_region 9 with (first | ((with_reducible refine gate_dst (N := 35) rfl ?_); refine Kd.R_lit k45 _ 45 ?hg (N := 35) ?hd (xs := ([] : List (S45))) (inner := []) (ok := fun _ => True) (okp := fun _ => True) ?hr ?hp (fun _ hk => hk) trivial (Below.refl _ _) (Nat.le_refl _) (by simp) ?_; (case hd => rfl); (case hg => rfl); (case hr => first | (go_simp; done) | (go_simp; rfl)); (case hp => exact (Reps.none _ _)); intro v342 w22 ho23 hb hg_ hnew_; clear hg_ hnew_; (first | rw [← Ny341.out] at ho23 | (simp only [Int.reduceToNat] at ho23; rw [← Ny341.out] at ho23)); replace HO_9 := Aside0.mk (Kd.R_below (kR_ HO_9.out) hb); have HO343 := Aside0.mk (Kd.R_lower ho23 (below_size hb_)); replace HB := Aside0.mk (below_step hb_ hb); clear hb ho23) | ((with_reducible refine gate_builtin (b := .append) (xs := #[.tmp 35, .tmp 36]) rfl ?_); at_builtin; refine Kd.R_append_rows k45 (w0 := w) w.heap.size rfl (.tmp 35) (.tmp 36) 29 45 (.agg #[(.int .i64 0), (.string ⟨#[]⟩)]) 24 rfl Try.underlying29 info45 rfl (by decide) (by omega) v342 y341 l0 _ _ _ (fun _ => True) (fun _ => False) rfl rfl ?aO ?aR (fun _ _ h => h) (fun _ h => h.elim) ?aF ?aB ?aS ?aL ?_; (case aR => repeat (first | exact (Kd.C_below HR0.out HB.out) | (with_reducible refine Kd.C_alloc ?_ _) | (with_reducible refine Kd.C_drewN ?_ _) | (with_reducible refine Kd.C_drew ?_))); (case aB => exact hb_); (case aF => exact (fun _ _ => trivial)); (case aO => exact (kR_ HO343.out)); (case aS => exact (below_size hb_)); (case aL => have := LMc17.out; omega); intro v345 w24 ho hb hg hat; rw [← Ny344.out] at ho; have n0_ := Aside0.mk (Kd.R_over' (kR_ HO_9.out) (Kd.R_typed (kR_ HO343.out)) (by decide) hg); have n1_ := Aside0.mk (hb); have n2_ := Aside0.mk (ho); clear HO_9; clear HB; clear HO343; have HO_9 := n0_; have HB := n1_; have HO346 := n2_; clear n0_ n1_ n2_; clear ho hb hg hat; obtain ⟨Ao25, co25, eo25⟩ := Kd.R_slice HO_9.out; subst eo25) | ((with_reducible refine gate_callee (f := 33) rfl ?_); refine goesL_ (some 42) rfl rfl Try.func33 (by kernel_rfl) rfl #[.slice A0 l0.length c0, .int .i64 a1, .slice Ao25 t333.length co25] rfl sl_ ?_; (with_reducible refine (spec_l9Walk.calls kj4 _ _ l0 a1 _ _ t333 t347 true _ ?side1 ?side2 ?side3 ?side4 A18.out).mono ?_); (case side1 => exact kC_ (Kd.C_below HR0.out HB.out)); (case side2 => exact HC0.out); (case side3 => exact kC_ ((Kd.R_reads' HO_9.out).2.2)); (case side4 => exact (Kd.R_reads' HO_9.out).2.1); rintro e w26 ⟨rfl, hb⟩; refine ⟨_, rfl, ?_⟩; replace HO_9 := Aside0.mk (Kd.R_below (kR_ HO_9.out) hb); replace HO346 := Aside0.mk (Kd.R_below (kR_ HO346.out) hb); replace HB := Aside0.mk (below_step hb_ hb); (try clear hb); (try clear hk)) | ((with_reducible refine gate_callee (f := 34) rfl ?_); refine goesL_ (some 53) rfl rfl Try.func34 (by kernel_rfl) rfl #[.slice A0 l0.length c0, .int .i64 a1, .slice Ao25 t333.length co25] rfl sl_ ?_; (with_reducible refine (spec_l10Drop.calls kj4 (fun k_ => k_ < w.heap.size) _ _ l0 a1 _ _ t333 t349 t352 t353 _ ?side1 ?side2 ?side3 A20.out).mono ?_); (case side1 => exact Kd.V_mk HC0.out (Kd.F_below (Kd.C_F k45_heap HR0.out) hb_)); (case side2 => exact kC_ ((Kd.R_reads' HO_9.out).2.2)); (case side3 => exact (Kd.R_reads' HO_9.out).2.1); rintro e w27 ⟨v350, rfl, ho0, hb⟩; refine ⟨_, rfl, ?_⟩; have HO351 := Aside0.mk (Kd.V_lower (Kd.V_mono (ok' := fun k_ => some k_ ≠ (.slice Ao25 t333.length co25 : Value).ownBlock ∧ some k_ ≠ (v345 : Value).ownBlock) ho0 (fun k_ hk_ => ⟨Or.elim hk_ (fun hs_ => fun e_ => Nat.not_le.2 hs_ (Kd.R_base HO_9.out k_ e_.symm)) (fun hn_ => (Kd.fresh' (Kd.R_lt (kR_ HO_9.out)) k_ hn_)), Or.elim hk_ (fun hs_ => fun e_ => Nat.not_le.2 hs_ (Kd.R_base HO346.out k_ e_.symm)) (fun hn_ => (Kd.fresh' (Kd.R_lt (kR_ HO346.out)) k_ hn_))⟩)) (below_size hb_)); replace HO_9 := Aside0.mk (Kd.R_below (kR_ HO_9.out) hb); replace HO346 := Aside0.mk (Kd.R_below (kR_ HO346.out) hb); replace HB := Aside0.mk (below_step hb_ hb); (try clear hb); (try clear hk); (try clear ho0)))
     (try simp only [Act.put, List.setIfInBounds_toArray, List.set_cons_zero, List.set_cons_succ])
     go_cut [61] (fun v61 wc => ∃ (kq : Nat) (x61_20 : Bool), v61 = .bool x61_20 ∧ Aside0 (spec_DropAt.j1 kq a1 y344 t349 t352 t353 x61_20 = some (r1, r2, r3)) ∧ Aside0 (kq ≤ kj4) ∧ Aside0 (Kd.R k45 45 wc w.heap.size (fun _ => True) v345 y344) ∧ Aside0 (Kd.V k45 45 wc w.heap.size (fun k_ => some k_ ≠ (v345 : Value).ownBlock) v350 t349) ∧ Aside0 (Below w.heap.size w wc))
     case first =>
      have H := HC21.out
      clear HC21
      by_cases c28 : t353 = true
      ·subst c28
       have H1 : (spec_DropAt.j1 kj4 a1 y344 t349 t352 true (decide (t352 < 0))) = some (r1, r2, r3) := by rw [if_pos rfl] at H; exact H
       clear H
       have H := H1
       clear H1
       have H' := Aside0.mk H
       clear H
       go_wp2
       go_meet
       case rel => exact ⟨_, (decide (t352 < 0)), rs_, H', ⟨by have := HJ4.out; first | omega | exact Nat.le_refl _⟩, ⟨by (with_reducible repeat (first | apply Kd.R_alloc | apply Kd.R_drewN | apply Kd.R_drew)); exact HO346.out⟩, ⟨by (with_reducible repeat (first | apply Kd.V_alloc | apply Kd.V_drewN | apply Kd.V_drew)); exact Kd.V_mono HO351.out (fun _ hk => hk.2)⟩, ⟨hb_⟩⟩
      ·replace c28 := Bool.eq_false_iff.mpr c28
       subst c28
       have H1 : (spec_DropAt.j1 kj4 a1 y344 t349 t352 false false) = some (r1, r2, r3) := by rw [if_neg (show ¬ (false = true) by decide)] at H; exact H
       clear H
       have H := H1
       clear H1
       have H' := Aside0.mk H
       clear H
       go_wp2
       go_meet
       case rel => exact ⟨_, (false), rs_, H', ⟨by have := HJ4.out; first | omega | exact Nat.le_refl _⟩, ⟨by (with_reducible repeat (first | apply Kd.R_alloc | apply Kd.R_drewN | apply Kd.R_drew)); exact HO346.out⟩, ⟨by (with_reducible repeat (first | apply Kd.V_alloc | apply Kd.V_drewN | apply Kd.V_drew)); exact Kd.V_mono HO351.out (fun _ hk => hk.2)⟩, ⟨hb_⟩⟩
     case rest =>
      clear HC21
      try clear c1
      try clear c2
      try clear p2
      try clear c3
      try clear c8
      try clear c9
      try clear c14
      try clear c17
      try clear c19
      try clear c22
      try clear c25
      try clear c28
      try clear p2
      obtain ⟨kq, x61_20, rfl, HA, HJ20, HO_11, HO_14, HB⟩ := hcut
      cases kq with
      | zero => exact absurd HA.out (by simp [spec_DropAt.j1])
      | succ kj20 =>
       have H := HA.out
       clear HA
       simp only [spec_DropAt.j1] at H
       by_cases c29 : x61_20 = true
       ·subst c29
        have H1 : ((spec_EmptyRoot.f kj20 t349).bind fun bt354 => (if bt354.2.2 = true then ((some (([] : List (S45)) : List (S45))).bind fun y359 => (if y359.length + bt354.1.length < 5864062014805 then (some ((y359 ++ bt354.1), bt354.2.1, true)) else (none))) else (some (y344, a1, false)))) = some (r1, r2, r3) := by rw [if_pos rfl] at H; exact H
        clear H
        have H := H1
        clear H1
        replace H := Option.bind_eq_some_iff.mp H
        obtain ⟨⟨t354, t355, t356⟩, A300, H⟩ := H
        replace H : (if t356 = true then ((some (([] : List (S45)) : List (S45))).bind fun y359 => (if y359.length + t354.length < 5864062014805 then (some ((y359 ++ t354), t355, true)) else (none))) else (some (y344, a1, false))) = some (r1, r2, r3) := H
        have A30 := Aside0.mk A300
        clear A300
        by_cases c31 : t356 = true
        ·subst c31
         have H1 : ((some (([] : List (S45)) : List (S45))).bind fun y359 => (if y359.length + t354.length < 5864062014805 then (some ((y359 ++ t354), t355, true)) else (none))) = some (r1, r2, r3) := by rw [if_pos rfl] at H; exact H
         clear H
         have H := H1
         clear H1
         obtain ⟨y359, hy359⟩ : ∃ y_ : List (S45), y_ = (([] : List (S45))) := ⟨_, rfl⟩
         replace H : (if y359.length + t354.length < 5864062014805 then (some ((y359 ++ t354), t355, true)) else (none)) = some (r1, r2, r3) := hq_ hy359 H
         have Ny359 := Aside0.mk hy359
         clear hy359
         by_cases c32 : y359.length + t354.length < 5864062014805; rotate_left
         ·rw [if_neg c32] at H; exact absurd H (by simp)
         rw [if_pos c32] at H
         have LMc32 := Aside0.mk c32
         clear c32
         obtain ⟨y362, hy362⟩ : ∃ y_ : List (S45), y_ = (y359 ++ t354) := ⟨_, rfl⟩
         replace H : (some (y362, t355, true)) = some (r1, r2, r3) := hq_ hy362 H
         have Ny362 := Aside0.mk hy362
         clear hy362
         simp only [Option.some.injEq, Prod.mk.injEq] at H
         obtain ⟨rfl, rfl, rfl⟩ := H
         obtain ⟨Ao33, co33, eo33⟩ := Kd.V_slice HO_14.out
         subst eo33
         go_wp2_with (first | ((with_reducible refine gate_callee (f := 20) rfl ?_); refine goesL_ (some 64) rfl rfl Try.func20 (by kernel_rfl) rfl #[.slice Ao33 t349.length co33] rfl sl_ ?_; (with_reducible refine (spec_EmptyRoot.calls kj20 _ _ t349 t354 t355 true _ ?side1 ?side2 A30.out).mono ?_); (case side1 => exact kC_ ((Kd.V_reads' HO_14.out).2.2)); (case side2 => exact (Kd.V_reads' HO_14.out).2.1); rintro e w34 ⟨v357, rfl, ho0, hb⟩; refine ⟨_, rfl, ?_⟩; have n0_ := Aside0.mk (Kd.R_elder' (kR_ HO_11.out) (Kd.R_base ho0) hb); have n1_ := Aside0.mk (Kd.V_elder' (kV_ HO_14.out) (Kd.R_base ho0) hb); have n2_ := Aside0.mk (Kd.R_lower (Kd.R_new' ho0 (Kd.R_lt (kR_ HO_11.out))) (below_size hb_)); have n3_ := Aside0.mk (below_step hb_ hb); clear HO_11; clear HO_14; clear HB; have HO_11 := n0_; have HO_14 := n1_; have HO358 := n2_; have HB := n3_; clear n0_ n1_ n2_ n3_; (try clear hb); (try clear hk); (try clear ho0)) | ((with_reducible refine gate_dst (N := 72) rfl ?_); refine Kd.R_lit k45 _ 45 ?hg (N := 72) ?hd (xs := ([] : List (S45))) (inner := []) (ok := fun _ => True) (okp := fun _ => True) ?hr ?hp (fun _ hk => hk) trivial (Below.refl _ _) (Nat.le_refl _) (by simp) ?_; (case hd => rfl); (case hg => rfl); (case hr => first | (go_simp; done) | (go_simp; rfl)); (case hp => exact (Reps.none _ _)); intro v360 w35 ho36 hb hg_ hnew_; clear hg_ hnew_; (first | rw [← Ny359.out] at ho36 | (simp only [Int.reduceToNat] at ho36; rw [← Ny359.out] at ho36)); have n0_ := Aside0.mk (Kd.R_elder' (kR_ HO_11.out) (Kd.R_base ho36) hb); have n1_ := Aside0.mk (Kd.V_elder' (kV_ HO_14.out) (Kd.R_base ho36) hb); have n2_ := Aside0.mk (Kd.R_elder' (kR_ HO358.out) (Kd.R_base ho36) hb); have n3_ := Aside0.mk (Kd.R_lower (Kd.R_new' (Kd.R_new' ho36 (Kd.R_lt (kR_ HO_11.out))) (Kd.R_lt (kR_ HO358.out))) (below_size hb_)); have n4_ := Aside0.mk (below_step hb_ hb); clear HO_11; clear HO_14; clear HO358; clear HB; have HO_11 := n0_; have HO_14 := n1_; have HO358 := n2_; have HO361 := n3_; have HB := n4_; clear n0_ n1_ n2_ n3_ n4_; clear hb ho36; obtain ⟨Ao38, co38, eo38⟩ := Kd.R_slice HO358.out; subst eo38) | ((with_reducible refine gate_builtin (b := .append) (xs := #[.tmp 72, .tmp 73]) rfl ?_); at_builtin; refine Kd.R_append_rows k45 (w0 := w) w.heap.size rfl (.tmp 72) (.tmp 73) 29 45 (.agg #[(.int .i64 0), (.string ⟨#[]⟩)]) 24 rfl Try.underlying29 info45 rfl (by decide) (by omega) v360 y359 t354 _ _ _ (fun k_ => some k_ ≠ (v345 : Value).ownBlock ∧ some k_ ≠ (.slice Ao38 t354.length co38 : Value).ownBlock) (fun _ => False) rfl rfl ?aO ?aR (fun _ _ h => h) (fun _ h => h.elim) ?aF ?aB ?aS ?aL ?_; (case aR => repeat (first | exact (Kd.R_reads' HO358.out).2.2 | (with_reducible refine Kd.C_alloc ?_ _) | (with_reducible refine Kd.C_drewN ?_ _) | (with_reducible refine Kd.C_drew ?_))); (case aB => exact hb_); (case aF => exact (fun k_ hk => ⟨Kd.fresh' (Kd.R_lt (kR_ HO_11.out)) k_ hk, Kd.fresh' (Kd.R_lt (kR_ HO358.out)) k_ hk⟩)); (case aO => exact (by refine kR_ ?_; exact Kd.R_mono HO361.out (fun _ hk => ⟨hk.1.2, hk.2⟩))); (case aS => exact (below_size hb_)); (case aL => have := LMc32.out; omega); intro v363 w37 ho hb hg hat; rw [← Ny362.out] at ho; have n0_ := Aside0.mk (Kd.R_after (ok := (fun k_ => some k_ ≠ (.slice Ao38 t354.length co38 : Value).ownBlock)) (by refine kR_ ?_; exact Kd.R_mono HO_11.out (fun _ hk => ⟨hk.1.2, hk.2⟩)) hg hat); have n1_ := Aside0.mk (Kd.V_afterv (ok := (fun k_ => some k_ ≠ (v345 : Value).ownBlock ∧ some k_ ≠ (.slice Ao38 t354.length co38 : Value).ownBlock)) (kV_ HO_14.out) hg hat); have n2_ := Aside0.mk (Kd.R_after (ok := (fun k_ => some k_ ≠ (v345 : Value).ownBlock)) (by refine kR_ ?_; exact Kd.R_mono HO358.out (fun _ hk => ⟨hk.1.2, hk.2⟩)) hg hat); have n3_ := Aside0.mk (hb); have n4_ := Aside0.mk (ho); clear HO_11; clear HO_14; clear HO358; clear HB; clear HO361; have HO_11 := n0_; have HO_14 := n1_; have HO358 := n2_; have HB := n3_; have HO364 := n4_; clear n0_ n1_ n2_ n3_ n4_; clear ho hb hg hat))
         go_ret3
         exact ⟨_, er_, by (with_reducible repeat (first | apply Kd.R_alloc | apply Kd.R_drewN | apply Kd.R_drew)); exact Kd.R_mono HO364.out (fun _ hk => trivial), hb_⟩
        ·replace c31 := Bool.eq_false_iff.mpr c31
         subst c31
         have H1 : (some (y344, a1, false)) = some (r1, r2, r3) := by rw [if_neg (show ¬ (false = true) by decide)] at H; exact H
         clear H
         have H := H1
         clear H1
         simp only [Option.some.injEq, Prod.mk.injEq] at H
         obtain ⟨rfl, rfl, rfl⟩ := H
         obtain ⟨Ao39, co39, eo39⟩ := Kd.V_slice HO_14.out
         subst eo39
         go_wp2_with (first | ((with_reducible refine gate_callee (f := 20) rfl ?_); refine goesL_ (some 64) rfl rfl Try.func20 (by kernel_rfl) rfl #[.slice Ao39 t349.length co39] rfl sl_ ?_; (with_reducible refine (spec_EmptyRoot.calls kj20 _ _ t349 t354 t355 false _ ?side1 ?side2 A30.out).mono ?_); (case side1 => exact kC_ ((Kd.V_reads' HO_14.out).2.2)); (case side2 => exact (Kd.V_reads' HO_14.out).2.1); rintro e w40 ⟨v357, rfl, ho0, hb⟩; refine ⟨_, rfl, ?_⟩; have n0_ := Aside0.mk (Kd.R_elder' (kR_ HO_11.out) (Kd.R_base ho0) hb); have n1_ := Aside0.mk (Kd.V_elder' (kV_ HO_14.out) (Kd.R_base ho0) hb); have n2_ := Aside0.mk (Kd.R_lower (Kd.R_new' ho0 (Kd.R_lt (kR_ HO_11.out))) (below_size hb_)); have n3_ := Aside0.mk (below_step hb_ hb); clear HO_11; clear HO_14; clear HB; have HO_11 := n0_; have HO_14 := n1_; have HO358 := n2_; have HB := n3_; clear n0_ n1_ n2_ n3_; (try clear hb); (try clear ho0)))
         go_ret3
         exact ⟨_, er_, by (with_reducible repeat (first | apply Kd.R_alloc | apply Kd.R_drewN | apply Kd.R_drew)); exact Kd.R_mono HO_11.out (fun _ hk => trivial), hb_⟩
       ·replace c29 := Bool.eq_false_iff.mpr c29
        subst c29
        have H1 : (if t353 = true then ((some (([] : List (S45)) : List (S45))).bind fun y365 => (if y365.length + t349.length < 5864062014805 then (some ((y365 ++ t349), t352, true)) else (none))) else (some (y344, a1, false))) = some (r1, r2, r3) := by rw [if_neg (show ¬ (false = true) by decide)] at H; exact H
        clear H
        have H := H1
        clear H1
        by_cases c41 : t353 = true
        ·subst c41
         have H1 : ((some (([] : List (S45)) : List (S45))).bind fun y365 => (if y365.length + t349.length < 5864062014805 then (some ((y365 ++ t349), t352, true)) else (none))) = some (r1, r2, r3) := by rw [if_pos rfl] at H; exact H
         clear H
         have H := H1
         clear H1
         obtain ⟨y365, hy365⟩ : ∃ y_ : List (S45), y_ = (([] : List (S45))) := ⟨_, rfl⟩
         replace H : (if y365.length + t349.length < 5864062014805 then (some ((y365 ++ t349), t352, true)) else (none)) = some (r1, r2, r3) := hq_ hy365 H
         have Ny365 := Aside0.mk hy365
         clear hy365
         by_cases c42 : y365.length + t349.length < 5864062014805; rotate_left
         ·rw [if_neg c42] at H; exact absurd H (by simp)
         rw [if_pos c42] at H
         have LMc42 := Aside0.mk c42
         clear c42
         obtain ⟨y368, hy368⟩ : ∃ y_ : List (S45), y_ = (y365 ++ t349) := ⟨_, rfl⟩
         replace H : (some (y368, t352, true)) = some (r1, r2, r3) := hq_ hy368 H
         have Ny368 := Aside0.mk hy368
         clear hy368
         simp only [Option.some.injEq, Prod.mk.injEq] at H
         obtain ⟨rfl, rfl, rfl⟩ := H
         go_wp2_with (first | ((with_reducible refine gate_dst (N := 72) rfl ?_); refine Kd.R_lit k45 _ 45 ?hg (N := 72) ?hd (xs := ([] : List (S45))) (inner := []) (ok := fun _ => True) (okp := fun _ => True) ?hr ?hp (fun _ hk => hk) trivial (Below.refl _ _) (Nat.le_refl _) (by simp) ?_; (case hd => rfl); (case hg => rfl); (case hr => first | (go_simp; done) | (go_simp; rfl)); (case hp => exact (Reps.none _ _)); intro v366 w43 ho44 hb hg_ hnew_; clear hg_ hnew_; (first | rw [← Ny365.out] at ho44 | (simp only [Int.reduceToNat] at ho44; rw [← Ny365.out] at ho44)); have n0_ := Aside0.mk (Kd.R_elder' (kR_ HO_11.out) (Kd.R_base ho44) hb); have n1_ := Aside0.mk (Kd.V_elder' (kV_ HO_14.out) (Kd.R_base ho44) hb); have n2_ := Aside0.mk (Kd.R_lower (Kd.R_new' ho44 (Kd.R_lt (kR_ HO_11.out))) (below_size hb_)); have n3_ := Aside0.mk (below_step hb_ hb); clear HO_11; clear HO_14; clear HB; have HO_11 := n0_; have HO_14 := n1_; have HO367 := n2_; have HB := n3_; clear n0_ n1_ n2_ n3_; clear hb ho44; obtain ⟨Ao46, co46, eo46⟩ := Kd.V_slice HO_14.out; subst eo46) | ((with_reducible refine gate_builtin (b := .append) (xs := #[.tmp 72, .tmp 73]) rfl ?_); at_builtin; refine Kd.R_append_rows k45 (w0 := w) w.heap.size rfl (.tmp 72) (.tmp 73) 29 45 (.agg #[(.int .i64 0), (.string ⟨#[]⟩)]) 24 rfl Try.underlying29 info45 rfl (by decide) (by omega) v366 y365 t349 _ _ _ (fun k_ => some k_ ≠ (v345 : Value).ownBlock) (fun _ => False) rfl rfl ?aO ?aR (fun _ _ h => h) (fun _ h => h.elim) ?aF ?aB ?aS ?aL ?_; (case aR => repeat (first | exact (Kd.V_reads' HO_14.out).2.2 | (with_reducible refine Kd.C_alloc ?_ _) | (with_reducible refine Kd.C_drewN ?_ _) | (with_reducible refine Kd.C_drew ?_))); (case aB => exact hb_); (case aF => exact (fun k_ hk => Kd.fresh' (Kd.R_lt (kR_ HO_11.out)) k_ hk)); (case aO => exact (by refine kR_ ?_; exact Kd.R_mono HO367.out (fun _ hk => hk.2))); (case aS => exact (below_size hb_)); (case aL => have := LMc42.out; omega); intro v369 w45 ho hb hg hat; rw [← Ny368.out] at ho; have n0_ := Aside0.mk (Kd.R_after (ok := (fun _ => True)) (kR_ HO_11.out) hg hat); have n1_ := Aside0.mk (Kd.V_afterv (ok := (fun k_ => some k_ ≠ (v345 : Value).ownBlock)) (kV_ HO_14.out) hg hat); have n2_ := Aside0.mk (hb); have n3_ := Aside0.mk (ho); clear HO_11; clear HO_14; clear HB; clear HO367; have HO_11 := n0_; have HO_14 := n1_; have HB := n2_; have HO370 := n3_; clear n0_ n1_ n2_ n3_; clear ho hb hg hat))
         go_ret3
         exact ⟨_, er_, by (with_reducible repeat (first | apply Kd.R_alloc | apply Kd.R_drewN | apply Kd.R_drew)); exact Kd.R_mono HO370.out (fun _ hk => trivial), hb_⟩
        ·replace c41 := Bool.eq_false_iff.mpr c41
         subst c41
         have H1 : (some (y344, a1, false)) = some (r1, r2, r3) := by rw [if_neg (show ¬ (false = true) by decide)] at H; exact H
         clear H
         have H := H1
         clear H1
         simp only [Option.some.injEq, Prod.mk.injEq] at H
         obtain ⟨rfl, rfl, rfl⟩ := H
         go_wp2
         go_ret3
         exact ⟨_, er_, by (with_reducible repeat (first | apply Kd.R_alloc | apply Kd.R_drewN | apply Kd.R_drew)); exact HO_11.out, hb_⟩
    ·replace c19 := Bool.eq_false_iff.mpr c19
     subst c19
     have H1 : (some (y344, a1, false)) = some (r1, r2, r3) := by rw [if_neg (show ¬ (false = true) by decide)] at H; exact H
     clear H
     have H := H1
     clear H1
     simp only [Option.some.injEq, Prod.mk.injEq] at H
     obtain ⟨rfl, rfl, rfl⟩ := H
     go_wp2_with (first | ((with_reducible refine gate_dst (N := 35) rfl ?_); refine Kd.R_lit k45 _ 45 ?hg (N := 35) ?hd (xs := ([] : List (S45))) (inner := []) (ok := fun _ => True) (okp := fun _ => True) ?hr ?hp (fun _ hk => hk) trivial (Below.refl _ _) (Nat.le_refl _) (by simp) ?_; (case hd => rfl); (case hg => rfl); (case hr => first | (go_simp; done) | (go_simp; rfl)); (case hp => exact (Reps.none _ _)); intro v342 w47 ho48 hb hg_ hnew_; clear hg_ hnew_; (first | rw [← Ny341.out] at ho48 | (simp only [Int.reduceToNat] at ho48; rw [← Ny341.out] at ho48)); replace HO_9 := Aside0.mk (Kd.R_below (kR_ HO_9.out) hb); have HO343 := Aside0.mk (Kd.R_lower ho48 (below_size hb_)); replace HB := Aside0.mk (below_step hb_ hb); clear hb ho48) | ((with_reducible refine gate_builtin (b := .append) (xs := #[.tmp 35, .tmp 36]) rfl ?_); at_builtin; refine Kd.R_append_rows k45 (w0 := w) w.heap.size rfl (.tmp 35) (.tmp 36) 29 45 (.agg #[(.int .i64 0), (.string ⟨#[]⟩)]) 24 rfl Try.underlying29 info45 rfl (by decide) (by omega) v342 y341 l0 _ _ _ (fun _ => True) (fun _ => False) rfl rfl ?aO ?aR (fun _ _ h => h) (fun _ h => h.elim) ?aF ?aB ?aS ?aL ?_; (case aR => repeat (first | exact (Kd.C_below HR0.out HB.out) | (with_reducible refine Kd.C_alloc ?_ _) | (with_reducible refine Kd.C_drewN ?_ _) | (with_reducible refine Kd.C_drew ?_))); (case aB => exact hb_); (case aF => exact (fun _ _ => trivial)); (case aO => exact (kR_ HO343.out)); (case aS => exact (below_size hb_)); (case aL => have := LMc17.out; omega); intro v345 w49 ho hb hg hat; rw [← Ny344.out] at ho; have n0_ := Aside0.mk (Kd.R_over' (kR_ HO_9.out) (Kd.R_typed (kR_ HO343.out)) (by decide) hg); have n1_ := Aside0.mk (hb); have n2_ := Aside0.mk (ho); clear HO_9; clear HB; clear HO343; have HO_9 := n0_; have HB := n1_; have HO346 := n2_; clear n0_ n1_ n2_; clear ho hb hg hat; obtain ⟨Ao50, co50, eo50⟩ := Kd.R_slice HO_9.out; subst eo50) | ((with_reducible refine gate_callee (f := 33) rfl ?_); refine goesL_ (some 42) rfl rfl Try.func33 (by kernel_rfl) rfl #[.slice A0 l0.length c0, .int .i64 a1, .slice Ao50 t333.length co50] rfl sl_ ?_; (with_reducible refine (spec_l9Walk.calls kj4 _ _ l0 a1 _ _ t333 t347 false _ ?side1 ?side2 ?side3 ?side4 A18.out).mono ?_); (case side1 => exact kC_ (Kd.C_below HR0.out HB.out)); (case side2 => exact HC0.out); (case side3 => exact kC_ ((Kd.R_reads' HO_9.out).2.2)); (case side4 => exact (Kd.R_reads' HO_9.out).2.1); rintro e w51 ⟨rfl, hb⟩; refine ⟨_, rfl, ?_⟩; replace HO_9 := Aside0.mk (Kd.R_below (kR_ HO_9.out) hb); replace HO346 := Aside0.mk (Kd.R_below (kR_ HO346.out) hb); replace HB := Aside0.mk (below_step hb_ hb); (try clear hb); (try clear hk)))
     go_ret3
     exact ⟨_, er_, by (with_reducible repeat (first | apply Kd.R_alloc | apply Kd.R_drewN | apply Kd.R_drew)); exact HO346.out, hb_⟩
/-! ### spec_ContentValid: function 35 -/
def spec_ContentValid.f (k : Nat) (a0 : ByteArray) : Option (Bool) := (spec_TextValid.f k a0).bind fun t371 => (if t371 = true then (some (decide ((a0.size : Int) ≤ 40))) else (some false))
theorem spec_ContentValid.mono : ∀ a0 k, LeO (spec_ContentValid.f k a0) (spec_ContentValid.f (k + 1) a0) := by
 intro a0 k
 unfold spec_ContentValid.f
 repeat' first
   | (with_reducible exact spec_TextValid.mono _ _)
   | (with_reducible exact LeO.refl _)
   | (with_reducible exact LeO.none _)
   | (with_reducible refine LeO.ite ?_ ?_)
   | (with_reducible refine LeO.bind ?_ (fun _ => ?_))
   | exact spec_TextValid.mono _ _
   | exact LeO.none _
   | refine LeO.ite ?_ ?_
   | refine LeO.bind ?_ (fun _ => ?_)
set_option maxHeartbeats 8000000 in
set_option maxRecDepth 100000 in
theorem spec_ContentValid.calls (k : Nat) (a0 : ByteArray) (r : Bool) (w : World) (h : spec_ContentValid.f k a0 = some r) :
  Calls Try.prog 35 #[.string a0] w fun e w' => e = .returned (.bool r) ∧ Drawn0 w w' := by
 have H : ((spec_TextValid.f k a0).bind fun t371 => (if t371 = true then (some (decide ((a0.size : Int) ≤ 40))) else (some false))) = some r := h
 clear h
 replace H := Option.bind_eq_some_iff.mp H
 obtain ⟨t371, A20, H⟩ := H
 replace H : (if t371 = true then (some (decide ((a0.size : Int) ≤ 40))) else (some false)) = some r := H
 have A2 := Aside0.mk A20
 clear A20
 by_cases c3 : t371 = true
 ·subst c3
  have H1 : (some (decide ((a0.size : Int) ≤ 40))) = some r := by rw [if_pos rfl] at H; exact H
  clear H
  have H := H1
  clear H1
  obtain rfl := Option.some.inj H
  go_enter Try.func35, Try.ntmps35
  go_wp2_with (first | ((with_reducible refine gate_callee (f := 40) rfl ?_); refine goesL_ (some 4) rfl rfl Try.func40 (by kernel_rfl) rfl #[.string a0] rfl sl_ ?_; (with_reducible refine (spec_TextValid.calls k a0 true _ A2.out).mono ?_); rintro e w' ⟨rfl, ⟨nd, rfl⟩⟩; refine ⟨_, rfl, ?_⟩))
  go_ret
  exact ⟨by first | rfl | (simp; done) | (simp [*]; done), by repeat (first | exact Drawn0.refl _ | apply Drawn0.step)⟩
 ·replace c3 := Bool.eq_false_iff.mpr c3
  subst c3
  have H1 : (some false) = some r := by rw [if_neg (show ¬ (false = true) by decide)] at H; exact H
  clear H
  have H := H1
  clear H1
  obtain rfl := Option.some.inj H
  go_enter Try.func35, Try.ntmps35
  go_wp2_with (first | ((with_reducible refine gate_callee (f := 40) rfl ?_); refine goesL_ (some 4) rfl rfl Try.func40 (by kernel_rfl) rfl #[.string a0] rfl sl_ ?_; (with_reducible refine (spec_TextValid.calls k a0 false _ A2.out).mono ?_); rintro e w' ⟨rfl, ⟨nd, rfl⟩⟩; refine ⟨_, rfl, ?_⟩))
  go_ret
  exact ⟨by first | rfl | (simp; done) | (simp [*]; done), by repeat (first | exact Drawn0.refl _ | apply Drawn0.step)⟩
/-! ### spec_ReadFile: function 29 -/
def spec_ReadFile.f (k : Nat) (a0 : ByteArray) : Option (ByteArray × Bool) := if a0.toList = ([] : List UInt8) then (some ((⟨#[]⟩ : ByteArray), false)) else (if 0 < (a0.size : Int) then (if (bt a0 0) = 102 then (if 1 ≤ (a0.size : Int) then ((spec_ContentValid.f k (a0.extract 1 a0.size)).bind fun t372 => (if t372 = true then (some (a0.extract 1 a0.size, true)) else (some ((⟨#[]⟩ : ByteArray), false)))) else (none)) else (some ((⟨#[]⟩ : ByteArray), false))) else (none))
theorem spec_ReadFile.mono : ∀ a0 k, LeO (spec_ReadFile.f k a0) (spec_ReadFile.f (k + 1) a0) := by
 intro a0 k
 unfold spec_ReadFile.f
 repeat' first
   | (with_reducible exact spec_ContentValid.mono _ _)
   | (with_reducible exact LeO.refl _)
   | (with_reducible exact LeO.none _)
   | (with_reducible refine LeO.ite ?_ ?_)
   | (with_reducible refine LeO.bind ?_ (fun _ => ?_))
   | exact spec_ContentValid.mono _ _
   | exact LeO.none _
   | refine LeO.ite ?_ ?_
   | refine LeO.bind ?_ (fun _ => ?_)
set_option maxHeartbeats 8000000 in
set_option maxRecDepth 100000 in
theorem spec_ReadFile.calls (k : Nat) (a0 : ByteArray) (r1 : ByteArray) (r2 : Bool) (w : World) (h : spec_ReadFile.f k a0 = some (r1, r2)) :
  Calls Try.prog 29 #[.string a0] w fun e w' => e = .returned (.tuple #[.string r1, .bool r2]) ∧ Drawn0 w w' := by
 have H : (if a0.toList = ([] : List UInt8) then (some ((⟨#[]⟩ : ByteArray), false)) else (if 0 < (a0.size : Int) then (if (bt a0 0) = 102 then (if 1 ≤ (a0.size : Int) then ((spec_ContentValid.f k (a0.extract 1 a0.size)).bind fun t372 => (if t372 = true then (some (a0.extract 1 a0.size, true)) else (some ((⟨#[]⟩ : ByteArray), false)))) else (none)) else (some ((⟨#[]⟩ : ByteArray), false))) else (none))) = some (r1, r2) := h
 clear h
 by_cases c2 : a0.toList = ([] : List UInt8)
 ·rw [if_pos c2] at H
  have c2b0 : (a0.toList == ([] : List UInt8)) = true := beq_iff_eq.mpr c2
  have c2b1 : (a0.toList != ([] : List UInt8)) = false := bne_eq_false_iff_eq.mpr c2
  clear c2
  simp only [Option.some.injEq, Prod.mk.injEq] at H
  obtain ⟨rfl, rfl⟩ := H
  go_enter Try.func29, Try.ntmps29
  go_wp2
  go_ret2
  exact ⟨by first | rfl | (simp; done) | (simp [*]; done), by repeat (first | exact Drawn0.refl _ | apply Drawn0.step)⟩
 ·rw [if_neg c2] at H
  have c2b0 : (a0.toList == ([] : List UInt8)) = false := beq_eq_false_iff_ne.mpr c2
  have c2b1 : (a0.toList != ([] : List UInt8)) = true := bne_iff_ne.mpr c2
  by_cases c3 : 0 < (a0.size : Int); rotate_left
  ·rw [if_neg c3] at H; exact absurd H (by simp)
  rw [if_pos c3] at H
  have c3b0 : decide (0 < (a0.size : Int)) = true := decide_eq_true c3
  have c3b1 : decide (0 < a0.size) = true := decide_eq_true (by omega)
  clear c3
  by_cases c5 : (bt a0 0) = 102
  ·rw [if_pos c5] at H
   have c5b0 : ((bt a0 0) == 102) = true := beq_iff_eq.mpr c5
   have c5b1 : ((bt a0 0) != 102) = false := bne_eq_false_iff_eq.mpr c5
   clear c5
   by_cases c6 : 1 ≤ (a0.size : Int); rotate_left
   ·rw [if_neg c6] at H; exact absurd H (by simp)
   rw [if_pos c6] at H
   have c6b0 := eq_true c6
   have c6b1 : decide (1 ≤ (a0.size : Int)) = true := decide_eq_true c6
   clear c6
   replace H := Option.bind_eq_some_iff.mp H
   obtain ⟨t372, A70, H⟩ := H
   replace H : (if t372 = true then (some (a0.extract 1 a0.size, true)) else (some ((⟨#[]⟩ : ByteArray), false))) = some (r1, r2) := H
   have A7 := Aside0.mk A70
   clear A70
   by_cases c8 : t372 = true
   ·subst c8
    have H1 : (some (a0.extract 1 a0.size, true)) = some (r1, r2) := by rw [if_pos rfl] at H; exact H
    clear H
    have H := H1
    clear H1
    have c9b0 := eq_true (dt_ : 1 ≤ (a0.size : Int))
    simp only [Option.some.injEq, Prod.mk.injEq] at H
    obtain ⟨rfl, rfl⟩ := H
    have p4 : 0 ≤ (0 : Int) := (by omega)
    have q4 : 0 < a0.size := (by have : (0 : Int) < (a0.size : Int) := dt_; omega)
    have hx4 : ∀ h : 0 < a0.size, ((a0[0]'h).toNat : Int) = bt a0 0 := bt_at a0 0
    clear p4
    have qi4 : (0 < (a0.size : Int)) = True := eq_true (dt_)
    replace q4 := eq_true q4
    go_enter Try.func29, Try.ntmps29
    go_wp2_with (first | (go_at_call 35; (with_reducible refine (spec_ContentValid.calls k (a0.extract 1 a0.size) true _ A7.out).mono ?_); rintro e w' ⟨rfl, ⟨nd, rfl⟩⟩))
    go_ret2
    exact ⟨by first | rfl | (simp; done) | (simp [*]; done), by repeat (first | exact Drawn0.refl _ | apply Drawn0.step)⟩
   ·replace c8 := Bool.eq_false_iff.mpr c8
    subst c8
    have H1 : (some ((⟨#[]⟩ : ByteArray), false)) = some (r1, r2) := by rw [if_neg (show ¬ (false = true) by decide)] at H; exact H
    clear H
    have H := H1
    clear H1
    simp only [Option.some.injEq, Prod.mk.injEq] at H
    obtain ⟨rfl, rfl⟩ := H
    have p4 : 0 ≤ (0 : Int) := (by omega)
    have q4 : 0 < a0.size := (by have : (0 : Int) < (a0.size : Int) := dt_; omega)
    have hx4 : ∀ h : 0 < a0.size, ((a0[0]'h).toNat : Int) = bt a0 0 := bt_at a0 0
    clear p4
    have qi4 : (0 < (a0.size : Int)) = True := eq_true (dt_)
    replace q4 := eq_true q4
    go_enter Try.func29, Try.ntmps29
    go_wp2_with (first | (go_at_call 35; (with_reducible refine (spec_ContentValid.calls k (a0.extract 1 a0.size) false _ A7.out).mono ?_); rintro e w' ⟨rfl, ⟨nd, rfl⟩⟩))
    go_ret2
    exact ⟨by first | rfl | (simp; done) | (simp [*]; done), by repeat (first | exact Drawn0.refl _ | apply Drawn0.step)⟩
  ·rw [if_neg c5] at H
   have c5b0 : ((bt a0 0) == 102) = false := beq_eq_false_iff_ne.mpr c5
   have c5b1 : ((bt a0 0) != 102) = true := bne_iff_ne.mpr c5
   simp only [Option.some.injEq, Prod.mk.injEq] at H
   obtain ⟨rfl, rfl⟩ := H
   have p4 : 0 ≤ (0 : Int) := (by omega)
   have q4 : 0 < a0.size := (by have : (0 : Int) < (a0.size : Int) := dt_; omega)
   have hx4 : ∀ h : 0 < a0.size, ((a0[0]'h).toNat : Int) = bt a0 0 := bt_at a0 0
   clear p4
   have qi4 : (0 < (a0.size : Int)) = True := eq_true (dt_)
   replace q4 := eq_true q4
   go_enter Try.func29, Try.ntmps29
   go_wp2
   go_ret2
   exact ⟨by first | rfl | (simp; done) | (simp [*]; done), by repeat (first | exact Drawn0.refl _ | apply Drawn0.step)⟩
/-! ### spec_TextKind: function 47 -/
def spec_TextKind.f (k : Nat) (a0 : ByteArray) : Option (Int) := (spec_ReadFile.f k a0).bind fun bt373 => ((spec_ReadFolder.f k a0).bind fun bt375 => (if bt373.2 = true then (some 1) else (if bt375.2 = true then (some 2) else (some 0))))
theorem spec_TextKind.mono : ∀ a0 k, LeO (spec_TextKind.f k a0) (spec_TextKind.f (k + 1) a0) := by
 intro a0 k
 unfold spec_TextKind.f
 repeat' first
   | (with_reducible exact spec_ReadFile.mono _ _)
   | (with_reducible exact spec_ReadFolder.mono _ _)
   | (with_reducible exact LeO.refl _)
   | (with_reducible exact LeO.none _)
   | (with_reducible refine LeO.ite ?_ ?_)
   | (with_reducible refine LeO.bind ?_ (fun _ => ?_))
   | exact spec_ReadFile.mono _ _
   | exact spec_ReadFolder.mono _ _
   | exact LeO.none _
   | refine LeO.ite ?_ ?_
   | refine LeO.bind ?_ (fun _ => ?_)
set_option maxHeartbeats 8000000 in
set_option maxRecDepth 100000 in
theorem spec_TextKind.calls (k : Nat) (a0 : ByteArray) (r : Int) (w : World) (h : spec_TextKind.f k a0 = some r) :
  Calls Try.prog 47 #[.string a0] w fun e w' => e = .returned (.int .i64 r) ∧ Below w.heap.size w w' := by
 have HB := Aside0.mk (Below.refl w.heap.size w)
 have H : ((spec_ReadFile.f k a0).bind fun bt373 => ((spec_ReadFolder.f k a0).bind fun bt375 => (if bt373.2 = true then (some 1) else (if bt375.2 = true then (some 2) else (some 0))))) = some r := h
 clear h
 replace H := Option.bind_eq_some_iff.mp H
 obtain ⟨⟨t373, t374⟩, A20, H⟩ := H
 replace H : ((spec_ReadFolder.f k a0).bind fun bt375 => (if t374 = true then (some 1) else (if bt375.2 = true then (some 2) else (some 0)))) = some r := H
 have A2 := Aside0.mk A20
 clear A20
 replace H := Option.bind_eq_some_iff.mp H
 obtain ⟨⟨t375, t376⟩, A30, H⟩ := H
 replace H : (if t374 = true then (some 1) else (if t376 = true then (some 2) else (some 0))) = some r := H
 have A3 := Aside0.mk A30
 clear A30
 by_cases c4 : t374 = true
 ·subst c4
  have H1 : (some 1) = some r := by rw [if_pos rfl] at H; exact H
  clear H
  have H := H1
  clear H1
  obtain rfl := Option.some.inj H
  go_enter Try.func47, Try.ntmps47
  go_wp2_with (first | ((with_reducible refine gate_callee (f := 29) rfl ?_); refine goesL_ (some 9) rfl rfl Try.func29 (by kernel_rfl) rfl #[.string a0] rfl sl_ ?_; (with_reducible refine (spec_ReadFile.calls k a0 t373 true _ A2.out).mono ?_); rintro e w' ⟨rfl, ⟨nd, rfl⟩⟩; refine ⟨_, rfl, ?_⟩) | ((with_reducible refine gate_callee (f := 42) rfl ?_); refine goesL_ (some 14) rfl rfl Try.func42 (by kernel_rfl) rfl #[.string a0] rfl sl_ ?_; (with_reducible refine (spec_ReadFolder.calls k a0 t375 t376 _ A3.out).mono ?_); rintro e w5 ⟨v377, rfl, ho0, hb⟩; refine ⟨_, rfl, ?_⟩; have HO378 := Aside0.mk (Kd.R_lower ho0 (below_size hb_)); replace HB := Aside0.mk (below_step hb_ hb); (try clear hb); (try clear ho0)))
  go_ret
  exact ⟨er_, hb_⟩
 ·replace c4 := Bool.eq_false_iff.mpr c4
  subst c4
  have H1 : (if t376 = true then (some 2) else (some 0)) = some r := by rw [if_neg (show ¬ (false = true) by decide)] at H; exact H
  clear H
  have H := H1
  clear H1
  by_cases c6 : t376 = true
  ·subst c6
   have H1 : (some 2) = some r := by rw [if_pos rfl] at H; exact H
   clear H
   have H := H1
   clear H1
   obtain rfl := Option.some.inj H
   go_enter Try.func47, Try.ntmps47
   go_wp2_with (first | ((with_reducible refine gate_callee (f := 29) rfl ?_); refine goesL_ (some 9) rfl rfl Try.func29 (by kernel_rfl) rfl #[.string a0] rfl sl_ ?_; (with_reducible refine (spec_ReadFile.calls k a0 t373 false _ A2.out).mono ?_); rintro e w' ⟨rfl, ⟨nd, rfl⟩⟩; refine ⟨_, rfl, ?_⟩) | ((with_reducible refine gate_callee (f := 42) rfl ?_); refine goesL_ (some 14) rfl rfl Try.func42 (by kernel_rfl) rfl #[.string a0] rfl sl_ ?_; (with_reducible refine (spec_ReadFolder.calls k a0 t375 true _ A3.out).mono ?_); rintro e w7 ⟨v377, rfl, ho0, hb⟩; refine ⟨_, rfl, ?_⟩; have HO378 := Aside0.mk (Kd.R_lower ho0 (below_size hb_)); replace HB := Aside0.mk (below_step hb_ hb); (try clear hb); (try clear ho0)))
   go_ret
   exact ⟨er_, hb_⟩
  ·replace c6 := Bool.eq_false_iff.mpr c6
   subst c6
   have H1 : (some 0) = some r := by rw [if_neg (show ¬ (false = true) by decide)] at H; exact H
   clear H
   have H := H1
   clear H1
   obtain rfl := Option.some.inj H
   go_enter Try.func47, Try.ntmps47
   go_wp2_with (first | ((with_reducible refine gate_callee (f := 29) rfl ?_); refine goesL_ (some 9) rfl rfl Try.func29 (by kernel_rfl) rfl #[.string a0] rfl sl_ ?_; (with_reducible refine (spec_ReadFile.calls k a0 t373 false _ A2.out).mono ?_); rintro e w' ⟨rfl, ⟨nd, rfl⟩⟩; refine ⟨_, rfl, ?_⟩) | ((with_reducible refine gate_callee (f := 42) rfl ?_); refine goesL_ (some 14) rfl rfl Try.func42 (by kernel_rfl) rfl #[.string a0] rfl sl_ ?_; (with_reducible refine (spec_ReadFolder.calls k a0 t375 false _ A3.out).mono ?_); rintro e w8 ⟨v377, rfl, ho0, hb⟩; refine ⟨_, rfl, ?_⟩; have HO378 := Aside0.mk (Kd.R_lower ho0 (below_size hb_)); replace HB := Aside0.mk (below_step hb_ hb); (try clear hb); (try clear ho0)))
   go_ret
   exact ⟨er_, hb_⟩
end Go.Proofs.Ytjgbidklkhohfaa.P
