-- The functions of the seat as plain Lean functions, made by the kit's print.py for all laws at once. Not trusted: Lean checks it.
import Derived.Test.YtjgbidklkhohfaaDoorPx0
import Derived.Test.YtjgbidklkhohfaaDoorPx1
import Derived.Test.YtjgbidklkhohfaaDoorPx3
import Derived.Test.YtjgbidklkhohfaaDoorPx4
import Derived.Test.YtjgbidklkhohfaaDoorPx5
namespace Go.Proofs.YtjgbidklkhohfaaDoor.P
open Go.RowKit Go.Proofs.YtjgbidklkhohfaaDoorW.PrintWords Go.Proofs.YtjgbidklkhohfaaDoorW.PrintLast Go.Proofs.YtjgbidklkhohfaaDoorW.PrintMore
attribute [local go_sem] max2_int min2_int max_two min_two max_three min_three max_four min_four   -- for this text's walks alone
set_option linter.unusedVariables false
set_option linter.unusedSimpArgs false
/-! ### spec_AbsenceRight: function 42 -/
mutual
def spec_AbsenceRight.j0 : Nat → List ByteArray → List ByteArray → Bool → Option (Bool)
 | 0, _, _, _ => none
 | k + 1, x2, x7, x33 => if x33 = true then (some false) else (if 0 ≤ (wrap64 ((x2.length : Int) - 1)) then (if (wrap64 ((x2.length : Int) - 1)) < (x2.length : Int) then ((spec_ReadFolder.f k (rdOf ByteArray.empty x2 (wrap64 ((x2.length : Int) - 1)))).bind fun bt980 => (spec_AbsenceRight.l0 k x2 x7 bt980.1 bt980.2 0)) else (none)) else (none))
def spec_AbsenceRight.l0 : Nat → List ByteArray → List ByteArray → List (S63) → Bool → Int → Option (Bool)
 | 0, _, _, _, _, _ => none
 | k + 1, x2, x7, x9, x10, x11 => if x11 < (x9.length : Int) then (if 0 ≤ x11 then (if 0 ≤ (wrap64 ((x2.length : Int) - 1)) then (if (wrap64 ((x2.length : Int) - 1)) < (x7.length : Int) then (if ((rd_T63 x9 x11).f0).toList = (rdOf ByteArray.empty x7 (wrap64 ((x2.length : Int) - 1))).toList then (some false) else (spec_AbsenceRight.l0 k x2 x7 x9 x10 (wrap64 (x11 + 1)))) else (none)) else (none)) else (none)) else (some x10)
end
def spec_AbsenceRight.f (k : Nat) (a0 : Int) (a1 : ByteArray) (l2 : List ByteArray) : Option (Bool) := (spec_PathParts.f k a1).bind fun bt973 => (if bt973.2 = true then ((spec_l1In.f (l2.length : Int) 1 (bt973.1.length : Int)).bind fun t977 => (if t977 = true then ((spec_l12Way.f k a0 bt973.1 l2).bind fun t978 => (spec_AbsenceRight.j0 k l2 bt973.1 (!t978))) else (spec_AbsenceRight.j0 k l2 bt973.1 true))) else (spec_AbsenceRight.j0 k l2 bt973.1 true))
theorem spec_AbsenceRight.mono_l : ∀ k, (∀ y0 y1 y2, LeO (spec_AbsenceRight.j0 k y0 y1 y2) (spec_AbsenceRight.j0 (k + 1) y0 y1 y2)) ∧ (∀ y0 y1 y2 y3 y4, LeO (spec_AbsenceRight.l0 k y0 y1 y2 y3 y4) (spec_AbsenceRight.l0 (k + 1) y0 y1 y2 y3 y4))
 | 0 => ⟨fun _ _ _ r h => by simp [spec_AbsenceRight.j0] at h, fun _ _ _ _ _ r h => by simp [spec_AbsenceRight.l0] at h⟩
 | k + 1 => by
  obtain ⟨ih0, ih1⟩ := spec_AbsenceRight.mono_l k
  refine ⟨?_, ?_⟩
  ·intro y0 y1 y2
   unfold spec_AbsenceRight.j0
   repeat' first
   | (with_reducible exact ih0 _ _ _)
   | (with_reducible exact ih1 _ _ _ _ _)
   | (with_reducible exact spec_PathParts.mono _ _)
   | (with_reducible exact spec_ReadFolder.mono _ _)
   | (with_reducible exact spec_l12Way.mono _ _ _ _)
   | (with_reducible exact LeO.refl _)
   | (with_reducible exact LeO.none _)
   | (with_reducible refine LeO.ite ?_ ?_)
   | (with_reducible refine LeO.bind ?_ (fun _ => ?_))
   | exact ih0 _ _ _
   | exact ih1 _ _ _ _ _
   | exact spec_PathParts.mono _ _
   | exact spec_ReadFolder.mono _ _
   | exact spec_l12Way.mono _ _ _ _
   | exact LeO.none _
   | refine LeO.ite ?_ ?_
   | refine LeO.bind ?_ (fun _ => ?_)
  ·intro y0 y1 y2 y3 y4
   unfold spec_AbsenceRight.l0
   repeat' first
   | (with_reducible exact ih0 _ _ _)
   | (with_reducible exact ih1 _ _ _ _ _)
   | (with_reducible exact spec_PathParts.mono _ _)
   | (with_reducible exact spec_ReadFolder.mono _ _)
   | (with_reducible exact spec_l12Way.mono _ _ _ _)
   | (with_reducible exact LeO.refl _)
   | (with_reducible exact LeO.none _)
   | (with_reducible refine LeO.ite ?_ ?_)
   | (with_reducible refine LeO.bind ?_ (fun _ => ?_))
   | exact ih0 _ _ _
   | exact ih1 _ _ _ _ _
   | exact spec_PathParts.mono _ _
   | exact spec_ReadFolder.mono _ _
   | exact spec_l12Way.mono _ _ _ _
   | exact LeO.none _
   | refine LeO.ite ?_ ?_
   | refine LeO.bind ?_ (fun _ => ?_)
theorem spec_AbsenceRight.mono : ∀ a0 a1 a2 k, LeO (spec_AbsenceRight.f k a0 a1 a2) (spec_AbsenceRight.f (k + 1) a0 a1 a2) := by
 intro a0 a1 a2 k
 obtain ⟨ih0, ih1⟩ := spec_AbsenceRight.mono_l k
 unfold spec_AbsenceRight.f
 repeat' first
   | (with_reducible exact ih0 _ _ _)
   | (with_reducible exact ih1 _ _ _ _ _)
   | (with_reducible exact spec_PathParts.mono _ _)
   | (with_reducible exact spec_ReadFolder.mono _ _)
   | (with_reducible exact spec_l12Way.mono _ _ _ _)
   | (with_reducible exact LeO.refl _)
   | (with_reducible exact LeO.none _)
   | (with_reducible refine LeO.ite ?_ ?_)
   | (with_reducible refine LeO.bind ?_ (fun _ => ?_))
   | exact ih0 _ _ _
   | exact ih1 _ _ _ _ _
   | exact spec_PathParts.mono _ _
   | exact spec_ReadFolder.mono _ _
   | exact spec_l12Way.mono _ _ _ _
   | exact LeO.none _
   | refine LeO.ite ?_ ?_
   | refine LeO.bind ?_ (fun _ => ?_)
set_option maxHeartbeats 8000000 in
set_option maxRecDepth 100000 in
theorem spec_AbsenceRight.calls (k : Nat) (a0 : Int) (a1 : ByteArray) (A2 : Option Addr) (c2 : Nat) (l2 : List ByteArray) (r : Bool) (w : World) (hr2 : Kd.C Kd.string w A2 l2.length l2) (hc2 : l2.length ≤ c2) (h : spec_AbsenceRight.f k a0 a1 l2 = some r) :
  Calls Tryd.prog 42 #[.int .i64 a0, .string a1, .slice A2 l2.length c2] w fun e w' => e = .returned (.bool r) ∧ Below w.heap.size w w' := by
 have HR2 := Aside0.mk hr2
 have HC2 := Aside0.mk hc2
 clear hr2 hc2
 have HB := Aside0.mk (Below.refl w.heap.size w)
 have H : ((spec_PathParts.f k a1).bind fun bt973 => (if bt973.2 = true then ((spec_l1In.f (l2.length : Int) 1 (bt973.1.length : Int)).bind fun t977 => (if t977 = true then ((spec_l12Way.f k a0 bt973.1 l2).bind fun t978 => (spec_AbsenceRight.j0 k l2 bt973.1 (!t978))) else (spec_AbsenceRight.j0 k l2 bt973.1 true))) else (spec_AbsenceRight.j0 k l2 bt973.1 true))) = some r := h
 clear h
 replace H := Option.bind_eq_some_iff.mp H
 obtain ⟨⟨t973, t974⟩, A40, H⟩ := H
 replace H : (if t974 = true then ((spec_l1In.f (l2.length : Int) 1 (t973.length : Int)).bind fun t977 => (if t977 = true then ((spec_l12Way.f k a0 t973 l2).bind fun t978 => (spec_AbsenceRight.j0 k l2 t973 (!t978))) else (spec_AbsenceRight.j0 k l2 t973 true))) else (spec_AbsenceRight.j0 k l2 t973 true)) = some r := H
 have A4 := Aside0.mk A40
 clear A40
 have HC5 := Aside0.mk H
 clear H
 go_enter Tryd.func42, Tryd.ntmps42
 go_upto_region 2 with (first | (go_at_call 63; (with_reducible refine (spec_PathParts.calls k a1 t973 t974 _ A4.out).mono ?_); rintro e w6 ⟨v975, rfl, ho0, hb⟩; have HO976 := Aside0.mk (Kd.R_lower ho0 (below_size hb_)); replace HB := Aside0.mk (below_step hb_ hb); (try clear hb); (try clear ho0)))
 repeat (go_quiet (first | (go_at_call 63; (with_reducible refine (spec_PathParts.calls k a1 t973 t974 _ A4.out).mono ?_); rintro e w6 ⟨v975, rfl, ho0, hb⟩; have HO976 := Aside0.mk (Kd.R_lower ho0 (below_size hb_)); replace HB := Aside0.mk (below_step hb_ hb); (try clear hb); (try clear ho0))); go_upto_region 2 with (first | (go_at_call 63; (with_reducible refine (spec_PathParts.calls k a1 t973 t974 _ A4.out).mono ?_); rintro e w6 ⟨v975, rfl, ho0, hb⟩; have HO976 := Aside0.mk (Kd.R_lower ho0 (below_size hb_)); replace HB := Aside0.mk (below_step hb_ hb); (try clear hb); (try clear ho0))))
 (try simp only [Act.put, List.setIfInBounds_toArray, List.set_cons_zero, List.set_cons_succ])
 go_cut [33] (fun v33 wc => ∃ (kq : Nat) (x33_4 : Bool), v33 = .bool x33_4 ∧ Aside0 (spec_AbsenceRight.j0 kq l2 t973 x33_4 = some r) ∧ Aside0 (kq ≤ k) ∧ Aside0 (Kd.R Kd.string 9 wc w.heap.size (fun _ => True) v975 t973) ∧ Aside0 (Below w.heap.size w wc))
 case first =>
  have H := HC5.out
  clear HC5
  by_cases c7 : t974 = true
  ·subst c7
   have H1 : ((spec_l1In.f (l2.length : Int) 1 (t973.length : Int)).bind fun t977 => (if t977 = true then ((spec_l12Way.f k a0 t973 l2).bind fun t978 => (spec_AbsenceRight.j0 k l2 t973 (!t978))) else (spec_AbsenceRight.j0 k l2 t973 true))) = some r := by rw [if_pos rfl] at H; exact H
   clear H
   have H := H1
   clear H1
   replace H := Option.bind_eq_some_iff.mp H
   obtain ⟨t977, A80, H⟩ := H
   replace H : (if t977 = true then ((spec_l12Way.f k a0 t973 l2).bind fun t978 => (spec_AbsenceRight.j0 k l2 t973 (!t978))) else (spec_AbsenceRight.j0 k l2 t973 true)) = some r := H
   have A8 := Aside0.mk A80
   clear A80
   by_cases c9 : t977 = true
   ·subst c9
    have H1 : ((spec_l12Way.f k a0 t973 l2).bind fun t978 => (spec_AbsenceRight.j0 k l2 t973 (!t978))) = some r := by rw [if_pos rfl] at H; exact H
    clear H
    have H := H1
    clear H1
    replace H := Option.bind_eq_some_iff.mp H
    obtain ⟨t978, A100, H⟩ := H
    replace H : (spec_AbsenceRight.j0 k l2 t973 (!t978)) = some r := H
    have A10 := Aside0.mk A100
    clear A100
    have H' := Aside0.mk H
    clear H
    obtain ⟨Ao11, co11, eo11⟩ := Kd.R_slice HO976.out
    subst eo11
    go_wp2_with (first | (go_at_call 67; (with_reducible refine (spec_l1In.calls (l2.length : Int) 1 (t973.length : Int) true _ A8.out).mono ?_); rintro e w' ⟨rfl, ⟨nd, rfl⟩⟩; (try first | exact ⟨rfl, _, World.drewN_drewN _ _ _⟩ | exact ⟨rfl, _, Eq.trans (World.drewN_drewN _ _ _) (congrArg (World.drewN _) (Nat.add_assoc _ _ _))⟩)) | (go_at_call 64; (with_reducible refine (spec_l12Way.calls k a0 _ _ t973 _ _ l2 t978 _ ?side1 ?side2 ?side3 ?side4 A10.out).mono ?_); (case side1 => exact kC_ ((Kd.R_reads' HO976.out).2.2)); (case side2 => exact (Kd.R_reads' HO976.out).2.1); (case side3 => exact kC_ (Kd.C_below HR2.out hb_)); (case side4 => exact HC2.out); rintro e w12 ⟨rfl, hb⟩; replace HO976 := Aside0.mk (Kd.R_below (kR_ HO976.out) hb); replace HB := Aside0.mk (below_step hb_ hb); (try clear hb)))
    repeat (go_quiet (first | (go_at_call 67; (with_reducible refine (spec_l1In.calls (l2.length : Int) 1 (t973.length : Int) true _ A8.out).mono ?_); rintro e w' ⟨rfl, ⟨nd, rfl⟩⟩; (try first | exact ⟨rfl, _, World.drewN_drewN _ _ _⟩ | exact ⟨rfl, _, Eq.trans (World.drewN_drewN _ _ _) (congrArg (World.drewN _) (Nat.add_assoc _ _ _))⟩)) | (go_at_call 64; (with_reducible refine (spec_l12Way.calls k a0 _ _ t973 _ _ l2 t978 _ ?side1 ?side2 ?side3 ?side4 A10.out).mono ?_); (case side1 => exact kC_ ((Kd.R_reads' HO976.out).2.2)); (case side2 => exact (Kd.R_reads' HO976.out).2.1); (case side3 => exact kC_ (Kd.C_below HR2.out hb_)); (case side4 => exact HC2.out); rintro e w12 ⟨rfl, hb⟩; replace HO976 := Aside0.mk (Kd.R_below (kR_ HO976.out) hb); replace HB := Aside0.mk (below_step hb_ hb); (try clear hb))); try go_wp2_with (first | (go_at_call 67; (with_reducible refine (spec_l1In.calls (l2.length : Int) 1 (t973.length : Int) true _ A8.out).mono ?_); rintro e w' ⟨rfl, ⟨nd, rfl⟩⟩; (try first | exact ⟨rfl, _, World.drewN_drewN _ _ _⟩ | exact ⟨rfl, _, Eq.trans (World.drewN_drewN _ _ _) (congrArg (World.drewN _) (Nat.add_assoc _ _ _))⟩)) | (go_at_call 64; (with_reducible refine (spec_l12Way.calls k a0 _ _ t973 _ _ l2 t978 _ ?side1 ?side2 ?side3 ?side4 A10.out).mono ?_); (case side1 => exact kC_ ((Kd.R_reads' HO976.out).2.2)); (case side2 => exact (Kd.R_reads' HO976.out).2.1); (case side3 => exact kC_ (Kd.C_below HR2.out hb_)); (case side4 => exact HC2.out); rintro e w12 ⟨rfl, hb⟩; replace HO976 := Aside0.mk (Kd.R_below (kR_ HO976.out) hb); replace HB := Aside0.mk (below_step hb_ hb); (try clear hb))))
    go_meet
    case rel => exact ⟨_, (!t978), (by first | rfl | (simp; done) | (simp [*]; done)), H', ⟨by first | omega | exact Nat.le_refl _⟩, ⟨by (with_reducible repeat (first | apply Kd.R_alloc | apply Kd.R_drewN | apply Kd.R_drew)); exact HO976.out⟩, ⟨hb_⟩⟩
   ·replace c9 := Bool.eq_false_iff.mpr c9
    subst c9
    have H1 : (spec_AbsenceRight.j0 k l2 t973 true) = some r := by rw [if_neg (show ¬ (false = true) by decide)] at H; exact H
    clear H
    have H := H1
    clear H1
    have H' := Aside0.mk H
    clear H
    obtain ⟨Ao13, co13, eo13⟩ := Kd.R_slice HO976.out
    subst eo13
    go_wp2_with (first | (go_at_call 67; (with_reducible refine (spec_l1In.calls (l2.length : Int) 1 (t973.length : Int) false _ A8.out).mono ?_); rintro e w' ⟨rfl, ⟨nd, rfl⟩⟩; (try first | exact ⟨rfl, _, World.drewN_drewN _ _ _⟩ | exact ⟨rfl, _, Eq.trans (World.drewN_drewN _ _ _) (congrArg (World.drewN _) (Nat.add_assoc _ _ _))⟩)))
    repeat (go_quiet (first | (go_at_call 67; (with_reducible refine (spec_l1In.calls (l2.length : Int) 1 (t973.length : Int) false _ A8.out).mono ?_); rintro e w' ⟨rfl, ⟨nd, rfl⟩⟩; (try first | exact ⟨rfl, _, World.drewN_drewN _ _ _⟩ | exact ⟨rfl, _, Eq.trans (World.drewN_drewN _ _ _) (congrArg (World.drewN _) (Nat.add_assoc _ _ _))⟩))); try go_wp2_with (first | (go_at_call 67; (with_reducible refine (spec_l1In.calls (l2.length : Int) 1 (t973.length : Int) false _ A8.out).mono ?_); rintro e w' ⟨rfl, ⟨nd, rfl⟩⟩; (try first | exact ⟨rfl, _, World.drewN_drewN _ _ _⟩ | exact ⟨rfl, _, Eq.trans (World.drewN_drewN _ _ _) (congrArg (World.drewN _) (Nat.add_assoc _ _ _))⟩))))
    go_meet
    case rel => exact ⟨_, (true), (by first | rfl | (simp; done) | (simp [*]; done)), H', ⟨by first | omega | exact Nat.le_refl _⟩, ⟨by (with_reducible repeat (first | apply Kd.R_alloc | apply Kd.R_drewN | apply Kd.R_drew)); exact HO976.out⟩, ⟨hb_⟩⟩
  ·replace c7 := Bool.eq_false_iff.mpr c7
   subst c7
   have H1 : (spec_AbsenceRight.j0 k l2 t973 true) = some r := by rw [if_neg (show ¬ (false = true) by decide)] at H; exact H
   clear H
   have H := H1
   clear H1
   have H' := Aside0.mk H
   clear H
   go_wp2
   repeat (go_quiet (fail); try go_wp2)
   go_meet
   case rel => exact ⟨_, (true), (by first | rfl | (simp; done) | (simp [*]; done)), H', ⟨by first | omega | exact Nat.le_refl _⟩, ⟨by (with_reducible repeat (first | apply Kd.R_alloc | apply Kd.R_drewN | apply Kd.R_drew)); exact HO976.out⟩, ⟨hb_⟩⟩
 case rest =>
  clear HC5
  try clear c2
  try clear p2
  try clear c4
  try clear c7
  try clear c9
  obtain ⟨kq, x33_4, rfl, HA, HJ4, HO_7, HB⟩ := hcut
  cases kq with
  | zero => exact absurd HA.out (by simp [spec_AbsenceRight.j0])
  | succ kj4 =>
   have H := HA.out
   clear HA
   simp only [spec_AbsenceRight.j0] at H
   by_cases c14 : x33_4 = true
   ·subst c14
    have H1 : (some false) = some r := by rw [if_pos rfl] at H; exact H
    clear H
    have H := H1
    clear H1
    obtain rfl := Option.some.inj H
    go_wp2
    repeat (go_quiet (fail); try go_wp2)
    go_ret
    exact ⟨er_, hb_⟩
   ·replace c14 := Bool.eq_false_iff.mpr c14
    subst c14
    have H1 : (if 0 ≤ (wrap64 ((l2.length : Int) - 1)) then (if (wrap64 ((l2.length : Int) - 1)) < (l2.length : Int) then ((spec_ReadFolder.f kj4 (rdOf ByteArray.empty l2 (wrap64 ((l2.length : Int) - 1)))).bind fun bt980 => (spec_AbsenceRight.l0 kj4 l2 t973 bt980.1 bt980.2 0)) else (none)) else (none)) = some r := by rw [if_neg (show ¬ (false = true) by decide)] at H; exact H
    clear H
    have H := H1
    clear H1
    obtain ⟨ji15, hji15⟩ : ∃ j_ : Int, (wrap64 ((l2.length : Int) - 1)) = j_ := ⟨_, rfl⟩
    replace H : (if 0 ≤ (ji15) then (if (ji15) < (l2.length : Int) then ((spec_ReadFolder.f kj4 (rdOf ByteArray.empty l2 (ji15))).bind fun bt980 => (spec_AbsenceRight.l0 kj4 l2 t973 bt980.1 bt980.2 0)) else (none)) else (none)) = some r := by first | (rw [hji15] at H; exact H) | (simp only [hji15] at H ⊢; exact H)
    have hji15w : (IntKind.i64.wrap ((l2.length : Int) - 1)) = ji15 := (i64_w _).trans hji15
    by_cases c16 : 0 ≤ (ji15)
    ·rw [if_pos c16] at H
     have c16b0 : decide (0 ≤ (ji15)) = true := decide_eq_true c16
     clear c16
     by_cases c17 : (ji15) < (l2.length : Int)
     ·rw [if_pos c17] at H
      have c17b0 : decide ((ji15) < (l2.length : Int)) = true := decide_eq_true c17
      clear c17
      replace H := Option.bind_eq_some_iff.mp H
      obtain ⟨⟨t980, t981⟩, A180, H⟩ := H
      replace H : (spec_AbsenceRight.l0 kj4 l2 t973 t980 t981 0) = some r := H
      have A18 := Aside0.mk A180
      clear A180
      have H' := Aside0.mk H
      clear H
      have p979 : 0 ≤ ((ji15) : Int) := of_decide_eq_true ma_
      have q979 : (ji15) < (l2.length : Int) := of_decide_eq_true ma_
      obtain ⟨ad979, e979, hx979_0⟩ := Kd.at_string HR2.out (ji15) p979 q979
      cases e979
      replace hx979_0 := (HB.out.cell (World.block_lt_of_cell? w _ hx979_0)).trans hx979_0
      replace p979 := eq_true p979
      replace q979 := eq_true q979
      go_wp2_with (first | (go_at_call 51; (with_reducible refine (spec_ReadFolder.calls kj4 (rdOf ByteArray.empty l2 (ji15)) t980 t981 _ A18.out).mono ?_); rintro e w19 ⟨v982, rfl, ho0, hb⟩; replace HO_7 := Aside0.mk (Kd.R_below (kR_ HO_7.out) hb); have HO983 := Aside0.mk (Kd.R_lower ho0 (below_size hb_)); replace HB := Aside0.mk (below_step hb_ hb); (try clear hb); (try clear ho0)))
      repeat (go_quiet (first | (go_at_call 51; (with_reducible refine (spec_ReadFolder.calls kj4 (rdOf ByteArray.empty l2 (ji15)) t980 t981 _ A18.out).mono ?_); rintro e w19 ⟨v982, rfl, ho0, hb⟩; replace HO_7 := Aside0.mk (Kd.R_below (kR_ HO_7.out) hb); have HO983 := Aside0.mk (Kd.R_lower ho0 (below_size hb_)); replace HB := Aside0.mk (below_step hb_ hb); (try clear hb); (try clear ho0))); try go_wp2_with (first | (go_at_call 51; (with_reducible refine (spec_ReadFolder.calls kj4 (rdOf ByteArray.empty l2 (ji15)) t980 t981 _ A18.out).mono ?_); rintro e w19 ⟨v982, rfl, ho0, hb⟩; replace HO_7 := Aside0.mk (Kd.R_below (kR_ HO_7.out) hb); have HO983 := Aside0.mk (Kd.R_lower ho0 (below_size hb_)); replace HB := Aside0.mk (below_step hb_ hb); (try clear hb); (try clear ho0))))
      go_loopg [11] kj4 (fun kq v11 w' => ∃ (x11_2 : Int), v11 = .int .i64 x11_2 ∧ Aside0 (spec_AbsenceRight.l0 kq l2 t973 t980 t981 x11_2 = some r) ∧ Aside0 (kq ≤ kj4) ∧ Aside0 (Kd.R Kd.string 9 w' w.heap.size (fun _ => True) v975 t973) ∧ Aside0 (Kd.R k63 63 w' w.heap.size (fun _ => True) v982 t980) ∧ Aside0 (Below w.heap.size w w'))
      case atStart => exact ⟨(0), (by first | rfl | (simp; done) | (simp [*]; done)), H', ⟨Nat.le_refl _⟩, ⟨by (with_reducible repeat (first | apply Kd.R_alloc | apply Kd.R_drewN | apply Kd.R_drew)); exact HO_7.out⟩, ⟨by (with_reducible repeat (first | apply Kd.R_alloc | apply Kd.R_drewN | apply Kd.R_drew)); exact HO983.out⟩, ⟨hb_⟩⟩
      case round =>
       clear H'
       try clear c1
       try clear c2
       try clear p2
       try clear c4
       try clear p6
       try clear c7
       try clear c9
       try clear p9
       try clear q9
       try clear hx9
       try clear c14
       try clear c16
       try clear c16b0
       try clear c17
       try clear c17b0
       try clear hx979_0
       try clear p2
       try clear p979
       try clear q979
       obtain ⟨x11_2, rfl, HA, HK2, HO_7, HO_9, HB⟩ := hrel
       cases gk with
       | zero => exact absurd HA.out (by simp [spec_AbsenceRight.l0])
       | succ k2 =>
        have H := HA.out
        clear HA
        simp only [spec_AbsenceRight.l0] at H
        by_cases c20 : x11_2 < (t980.length : Int)
        ·rw [if_pos c20] at H
         have c20b0 : decide (x11_2 < (t980.length : Int)) = true := decide_eq_true c20
         clear c20
         by_cases c21 : 0 ≤ x11_2
         ·rw [if_pos c21] at H
          have c21b0 : decide (0 ≤ x11_2) = true := decide_eq_true c21
          clear c21
          try (have e_ : (wrap64 ((l2.length : Int) - 1)) = ji15 := hji15; clear e_; clear hji15; try clear hji15w)
          obtain ⟨ji22, hji22⟩ : ∃ j_ : Int, (wrap64 ((l2.length : Int) - 1)) = j_ := ⟨_, rfl⟩
          replace H : (if 0 ≤ (ji22) then (if (ji22) < (t973.length : Int) then (if ((rd_T63 t980 x11_2).f0).toList = (rdOf ByteArray.empty t973 (ji22)).toList then (some false) else (spec_AbsenceRight.l0 k2 l2 t973 t980 t981 (wrap64 (x11_2 + 1)))) else (none)) else (none)) = some r := by first | (rw [hji22] at H; exact H) | (simp only [hji22] at H ⊢; exact H)
          have hji22w : (IntKind.i64.wrap ((l2.length : Int) - 1)) = ji22 := (i64_w _).trans hji22
          by_cases c23 : 0 ≤ (ji22)
          ·rw [if_pos c23] at H
           have c23b0 : decide (0 ≤ (ji22)) = true := decide_eq_true c23
           clear c23
           by_cases c24 : (ji22) < (t973.length : Int)
           ·rw [if_pos c24] at H
            have c24b0 : decide ((ji22) < (t973.length : Int)) = true := decide_eq_true c24
            clear c24
            by_cases c25 : ((rd_T63 t980 x11_2).f0).toList = (rdOf ByteArray.empty t973 (ji22)).toList
            ·rw [if_pos c25] at H
             have c25b0 : (((rd_T63 t980 x11_2).f0).toList == (rdOf ByteArray.empty t973 (ji22)).toList) = true := beq_iff_eq.mpr c25
             have c25b1 : (((rd_T63 t980 x11_2).f0).toList != (rdOf ByteArray.empty t973 (ji22)).toList) = false := bne_eq_false_iff_eq.mpr c25
             clear c25
             obtain rfl := Option.some.inj H
             obtain ⟨Ao26, co26, eo26⟩ := Kd.R_slice HO_9.out
             subst eo26
             have p984 : 0 ≤ (x11_2 : Int) := of_decide_eq_true ma_
             have q984 : x11_2 < (t980.length : Int) := of_decide_eq_true ma_
             obtain ⟨ad984, e984, hx984_0, hx984_1⟩ := at_T63 (Kd.R_reads' HO_9.out).2.2 x11_2 p984 q984
             cases e984
             replace p984 := eq_true p984
             replace q984 := eq_true q984
             obtain ⟨Ao27, co27, eo27⟩ := Kd.R_slice HO_7.out
             subst eo27
             have p985 : 0 ≤ ((ji22) : Int) := of_decide_eq_true ma_
             have q985 : (ji22) < (t973.length : Int) := of_decide_eq_true ma_
             obtain ⟨ad985, e985, hx985_0⟩ := Kd.at_string (Kd.R_reads' HO_7.out).2.2 (ji22) p985 q985
             cases e985
             replace p985 := eq_true p985
             replace q985 := eq_true q985
             go_wp2
             repeat (go_quiet (fail); try go_wp2)
             go_ret
             exact ⟨by first | rfl | (simp [errW_none, errW_some] <;> rfl) | (simp only [← hji15, ← hji22]; first | rfl | (simp [errW_none, errW_some] <;> rfl)) | (simp [*, errW_none, errW_some] <;> rfl), hb_⟩
            ·rw [if_neg c25] at H
             have c25b0 : (((rd_T63 t980 x11_2).f0).toList == (rdOf ByteArray.empty t973 (ji22)).toList) = false := beq_eq_false_iff_ne.mpr c25
             have c25b1 : (((rd_T63 t980 x11_2).f0).toList != (rdOf ByteArray.empty t973 (ji22)).toList) = true := bne_iff_ne.mpr c25
             have H' := Aside0.mk H
             clear H
             obtain ⟨Ao28, co28, eo28⟩ := Kd.R_slice HO_9.out
             subst eo28
             have p984 : 0 ≤ (x11_2 : Int) := of_decide_eq_true ma_
             have q984 : x11_2 < (t980.length : Int) := of_decide_eq_true ma_
             obtain ⟨ad984, e984, hx984_0, hx984_1⟩ := at_T63 (Kd.R_reads' HO_9.out).2.2 x11_2 p984 q984
             cases e984
             replace p984 := eq_true p984
             replace q984 := eq_true q984
             obtain ⟨Ao29, co29, eo29⟩ := Kd.R_slice HO_7.out
             subst eo29
             have p985 : 0 ≤ ((ji22) : Int) := of_decide_eq_true ma_
             have q985 : (ji22) < (t973.length : Int) := of_decide_eq_true ma_
             obtain ⟨ad985, e985, hx985_0⟩ := Kd.at_string (Kd.R_reads' HO_7.out).2.2 (ji22) p985 q985
             cases e985
             replace p985 := eq_true p985
             replace q985 := eq_true q985
             go_wp2
             repeat (go_quiet (fail); try go_wp2)
             go_roundg k2
             case measure => have := HJ4.out; have := HK2.out; omega
             case rel => exact ⟨(wrap64 (x11_2 + 1)), (by first | rfl | (simp; done) | (simp [*]; done)), H', ⟨by have := HJ4.out; have := HK2.out; omega⟩, ⟨by (with_reducible repeat (first | apply Kd.R_alloc | apply Kd.R_drewN | apply Kd.R_drew)); exact HO_7.out⟩, ⟨by (with_reducible repeat (first | apply Kd.R_alloc | apply Kd.R_drewN | apply Kd.R_drew)); exact HO_9.out⟩, ⟨hb_⟩⟩
           ·rw [if_neg c24] at H
            exact absurd H (by simp)
          ·rw [if_neg c23] at H
           exact absurd H (by simp)
         ·rw [if_neg c21] at H
          exact absurd H (by simp)
        ·rw [if_neg c20] at H
         have c20b0 : decide (x11_2 < (t980.length : Int)) = false := decide_eq_false c20
         clear c20
         obtain rfl := Option.some.inj H
         obtain ⟨Ao30, co30, eo30⟩ := Kd.R_slice HO_9.out
         subst eo30
         go_wp2
         repeat (go_quiet (fail); try go_wp2)
         go_ret
         exact ⟨by first | rfl | (simp [errW_none, errW_some] <;> rfl) | (simp only [← hji15]; first | rfl | (simp [errW_none, errW_some] <;> rfl)) | (simp [*, errW_none, errW_some] <;> rfl), hb_⟩
     ·rw [if_neg c17] at H
      exact absurd H (by simp)
    ·rw [if_neg c16] at H
     exact absurd H (by simp)
/-! ### impl_AbsenceRight: function 43 -/
def impl_AbsenceRight.j0 : Nat → List ByteArray → List ByteArray → Bool → Option (Bool)
 | 0, _, _, _ => none
 | k + 1, x2, x7, x38 => if x38 = true then (some false) else (if 0 ≤ (wrap64 ((x2.length : Int) - 1)) then (if (wrap64 ((x2.length : Int) - 1)) < (x2.length : Int) then ((impl_ReadFolder.f k (rdOf ByteArray.empty x2 (wrap64 ((x2.length : Int) - 1)))).bind fun bt992 => (if bt992.2 = true then (if (wrap64 ((x2.length : Int) - 1)) < (x7.length : Int) then ((impl_printNamed.f k bt992.1 (rdOf ByteArray.empty x7 (wrap64 ((x2.length : Int) - 1)))).bind fun bt997 => (some (!bt997.2))) else (none)) else (some false))) else (none)) else (none))
def impl_AbsenceRight.f (k : Nat) (a0 : Int) (a1 : ByteArray) (l2 : List ByteArray) : Option (Bool) := (impl_PathParts.f k a1).bind fun bt986 => (if bt986.2 = true then (if (l2.length : Int) < 1 then (impl_AbsenceRight.j0 k l2 bt986.1 true) else (if (l2.length : Int) > (bt986.1.length : Int) then (impl_AbsenceRight.j0 k l2 bt986.1 true) else ((impl_onTheWay.f k a0 bt986.1 l2).bind fun t990 => (impl_AbsenceRight.j0 k l2 bt986.1 (!t990))))) else (impl_AbsenceRight.j0 k l2 bt986.1 true))
theorem impl_AbsenceRight.mono_l : ∀ k, (∀ y0 y1 y2, LeO (impl_AbsenceRight.j0 k y0 y1 y2) (impl_AbsenceRight.j0 (k + 1) y0 y1 y2))
 | 0 => fun _ _ _ r h => by simp [impl_AbsenceRight.j0] at h
 | k + 1 => by
  have ih0 := impl_AbsenceRight.mono_l k
  ·intro y0 y1 y2
   unfold impl_AbsenceRight.j0
   repeat' first
   | (with_reducible exact ih0 _ _ _)
   | (with_reducible exact impl_PathParts.mono _ _)
   | (with_reducible exact impl_ReadFolder.mono _ _)
   | (with_reducible exact impl_onTheWay.mono _ _ _ _)
   | (with_reducible exact impl_printNamed.mono _ _ _)
   | (with_reducible exact LeO.refl _)
   | (with_reducible exact LeO.none _)
   | (with_reducible refine LeO.ite ?_ ?_)
   | (with_reducible refine LeO.bind ?_ (fun _ => ?_))
   | exact ih0 _ _ _
   | exact impl_PathParts.mono _ _
   | exact impl_ReadFolder.mono _ _
   | exact impl_onTheWay.mono _ _ _ _
   | exact impl_printNamed.mono _ _ _
   | exact LeO.none _
   | refine LeO.ite ?_ ?_
   | refine LeO.bind ?_ (fun _ => ?_)
theorem impl_AbsenceRight.mono : ∀ a0 a1 a2 k, LeO (impl_AbsenceRight.f k a0 a1 a2) (impl_AbsenceRight.f (k + 1) a0 a1 a2) := by
 intro a0 a1 a2 k
 have ih0 := impl_AbsenceRight.mono_l k
 unfold impl_AbsenceRight.f
 repeat' first
   | (with_reducible exact ih0 _ _ _)
   | (with_reducible exact impl_PathParts.mono _ _)
   | (with_reducible exact impl_ReadFolder.mono _ _)
   | (with_reducible exact impl_onTheWay.mono _ _ _ _)
   | (with_reducible exact impl_printNamed.mono _ _ _)
   | (with_reducible exact LeO.refl _)
   | (with_reducible exact LeO.none _)
   | (with_reducible refine LeO.ite ?_ ?_)
   | (with_reducible refine LeO.bind ?_ (fun _ => ?_))
   | exact ih0 _ _ _
   | exact impl_PathParts.mono _ _
   | exact impl_ReadFolder.mono _ _
   | exact impl_onTheWay.mono _ _ _ _
   | exact impl_printNamed.mono _ _ _
   | exact LeO.none _
   | refine LeO.ite ?_ ?_
   | refine LeO.bind ?_ (fun _ => ?_)
set_option maxHeartbeats 8000000 in
set_option maxRecDepth 100000 in
theorem impl_AbsenceRight.calls (k : Nat) (a0 : Int) (a1 : ByteArray) (A2 : Option Addr) (c2 : Nat) (l2 : List ByteArray) (r : Bool) (w : World) (hr2 : Kd.C Kd.string w A2 l2.length l2) (hc2 : l2.length ≤ c2) (hG : GT w) (h : impl_AbsenceRight.f k a0 a1 l2 = some r) :
  Calls Tryd.prog 43 #[.int .i64 a0, .string a1, .slice A2 l2.length c2] w fun e w' => e = .returned (.bool r) ∧ Below w.heap.size w w' := by
 have HR2 := Aside0.mk hr2
 have HC2 := Aside0.mk hc2
 clear hr2 hc2
 have HB := Aside0.mk (Below.refl w.heap.size w)
 have H : ((impl_PathParts.f k a1).bind fun bt986 => (if bt986.2 = true then (if (l2.length : Int) < 1 then (impl_AbsenceRight.j0 k l2 bt986.1 true) else (if (l2.length : Int) > (bt986.1.length : Int) then (impl_AbsenceRight.j0 k l2 bt986.1 true) else ((impl_onTheWay.f k a0 bt986.1 l2).bind fun t990 => (impl_AbsenceRight.j0 k l2 bt986.1 (!t990))))) else (impl_AbsenceRight.j0 k l2 bt986.1 true))) = some r := h
 clear h
 replace H := Option.bind_eq_some_iff.mp H
 obtain ⟨⟨t986, t987⟩, A40, H⟩ := H
 replace H : (if t987 = true then (if (l2.length : Int) < 1 then (impl_AbsenceRight.j0 k l2 t986 true) else (if (l2.length : Int) > (t986.length : Int) then (impl_AbsenceRight.j0 k l2 t986 true) else ((impl_onTheWay.f k a0 t986 l2).bind fun t990 => (impl_AbsenceRight.j0 k l2 t986 (!t990))))) else (impl_AbsenceRight.j0 k l2 t986 true)) = some r := H
 have A4 := Aside0.mk A40
 clear A40
 have HC5 := Aside0.mk H
 clear H
 go_enter Tryd.func43, Tryd.ntmps43
 go_upto_region 2 with (first | ((with_reducible refine gate_callee (f := 65) rfl ?_); refine goesL_ (some 15) rfl rfl Tryd.func65 (by kernel_rfl) rfl #[.string a1] rfl sl_ ?_; (with_reducible refine (impl_PathParts.calls k a1 t986 t987 _ A4.out).mono ?_); rintro e w6 ⟨v988, rfl, ho0, hb⟩; refine ⟨_, rfl, ?_⟩; have HO989 := Aside0.mk (Kd.R_lower ho0 (below_size hb_)); replace HB := Aside0.mk (below_step hb_ hb); (try clear hb); (try clear ho0)))
 (try simp only [Act.put, List.setIfInBounds_toArray, List.set_cons_zero, List.set_cons_succ])
 go_cut [38] (fun v38 wc => ∃ (kq : Nat) (x38_4 : Bool), v38 = .bool x38_4 ∧ Aside0 (impl_AbsenceRight.j0 kq l2 t986 x38_4 = some r) ∧ Aside0 (kq ≤ k) ∧ Aside0 (Kd.R Kd.string 9 wc w.heap.size (fun _ => True) v988 t986) ∧ Aside0 (Below w.heap.size w wc))
 case first =>
  have H := HC5.out
  clear HC5
  by_cases c7 : t987 = true
  ·subst c7
   have H1 : (if (l2.length : Int) < 1 then (impl_AbsenceRight.j0 k l2 t986 true) else (if (l2.length : Int) > (t986.length : Int) then (impl_AbsenceRight.j0 k l2 t986 true) else ((impl_onTheWay.f k a0 t986 l2).bind fun t990 => (impl_AbsenceRight.j0 k l2 t986 (!t990))))) = some r := by rw [if_pos rfl] at H; exact H
   clear H
   have H := H1
   clear H1
   by_cases c8 : (l2.length : Int) < 1
   ·rw [if_pos c8] at H
    have c8b0 : decide ((l2.length : Int) < 1) = true := decide_eq_true c8
    have c8b1 : decide (l2.length < 1) = true := decide_eq_true (by omega)
    clear c8
    (first | rw [c8b0] | (simp only [i64_w, i32_w]; rw [c8b0]) | skip)
    have H' := Aside0.mk H
    clear H
    go_wp2
    go_meet
    case rel => exact ⟨_, (true), (by first | rfl | (simp; done) | (simp [*]; done)), H', ⟨by first | omega | exact Nat.le_refl _⟩, ⟨by (with_reducible repeat (first | apply Kd.R_alloc | apply Kd.R_drewN | apply Kd.R_drew)); exact HO989.out⟩, ⟨hb_⟩⟩
   ·rw [if_neg c8] at H
    have c8b0 : decide ((l2.length : Int) < 1) = false := decide_eq_false c8
    have c8b1 : decide (l2.length < 1) = false := decide_eq_false (by omega)
    clear c8
    (first | rw [c8b0] | (simp only [i64_w, i32_w]; rw [c8b0]) | skip)
    by_cases c9 : (l2.length : Int) > (t986.length : Int)
    ·rw [if_pos c9] at H
     have c9b0 : decide ((t986.length : Int) < (l2.length : Int)) = true := decide_eq_true c9
     have c9b1 : decide (t986.length < l2.length) = true := decide_eq_true (Int.ofNat_lt.mp c9)
     clear c9
     have H' := Aside0.mk H
     clear H
     obtain ⟨Ao10, co10, eo10⟩ := Kd.R_slice HO989.out
     subst eo10
     go_wp2
     go_meet
     case rel => exact ⟨_, (true), (by first | rfl | (simp; done) | (simp [*]; done)), H', ⟨by first | omega | exact Nat.le_refl _⟩, ⟨by (with_reducible repeat (first | apply Kd.R_alloc | apply Kd.R_drewN | apply Kd.R_drew)); exact HO989.out⟩, ⟨hb_⟩⟩
    ·rw [if_neg c9] at H
     have c9b0 : decide ((t986.length : Int) < (l2.length : Int)) = false := decide_eq_false c9
     have c9b1 : decide (t986.length < l2.length) = false := decide_eq_false (fun h => c9 (Int.ofNat_lt.mpr h))
     clear c9
     replace H := Option.bind_eq_some_iff.mp H
     obtain ⟨t990, A110, H⟩ := H
     replace H : (impl_AbsenceRight.j0 k l2 t986 (!t990)) = some r := H
     have A11 := Aside0.mk A110
     clear A110
     have H' := Aside0.mk H
     clear H
     obtain ⟨Ao12, co12, eo12⟩ := Kd.R_slice HO989.out
     subst eo12
     go_wp2_with (first | (go_at_call 66; (with_reducible refine (impl_onTheWay.calls k a0 _ _ t986 _ _ l2 t990 _ ?side1 ?side2 ?side3 ?side4 (GT_on hb_ hG) A11.out).mono ?_); (case side1 => exact kC_ ((Kd.R_reads' HO989.out).2.2)); (case side2 => exact (Kd.R_reads' HO989.out).2.1); (case side3 => exact kC_ (Kd.C_below HR2.out HB.out)); (case side4 => exact HC2.out); rintro e w13 ⟨rfl, hb⟩; replace HO989 := Aside0.mk (Kd.R_below (kR_ HO989.out) hb); replace HB := Aside0.mk (below_step hb_ hb); (try clear hb)))
     go_meet
     case rel => exact ⟨_, (!t990), (by first | rfl | (simp; done) | (simp [*]; done)), H', ⟨by first | omega | exact Nat.le_refl _⟩, ⟨by (with_reducible repeat (first | apply Kd.R_alloc | apply Kd.R_drewN | apply Kd.R_drew)); exact HO989.out⟩, ⟨hb_⟩⟩
  ·replace c7 := Bool.eq_false_iff.mpr c7
   subst c7
   have H1 : (impl_AbsenceRight.j0 k l2 t986 true) = some r := by rw [if_neg (show ¬ (false = true) by decide)] at H; exact H
   clear H
   have H := H1
   clear H1
   have H' := Aside0.mk H
   clear H
   go_wp2
   go_meet
   case rel => exact ⟨_, (true), (by first | rfl | (simp; done) | (simp [*]; done)), H', ⟨by first | omega | exact Nat.le_refl _⟩, ⟨by (with_reducible repeat (first | apply Kd.R_alloc | apply Kd.R_drewN | apply Kd.R_drew)); exact HO989.out⟩, ⟨hb_⟩⟩
 case rest =>
  clear HC5
  try clear c2
  try clear p2
  try clear c4
  try clear c6
  try clear c7
  try clear c8
  try clear c8b0
  try clear c8b1
  try clear c9
  try clear c9b0
  try clear c9b1
  obtain ⟨kq, x38_4, rfl, HA, HJ4, HO_7, HB⟩ := hcut
  cases kq with
  | zero => exact absurd HA.out (by simp [impl_AbsenceRight.j0])
  | succ kj4 =>
   have H := HA.out
   clear HA
   simp only [impl_AbsenceRight.j0] at H
   by_cases c14 : x38_4 = true
   ·subst c14
    have H1 : (some false) = some r := by rw [if_pos rfl] at H; exact H
    clear H
    have H := H1
    clear H1
    obtain rfl := Option.some.inj H
    go_wp2
    go_ret
    exact ⟨er_, hb_⟩
   ·replace c14 := Bool.eq_false_iff.mpr c14
    subst c14
    have H1 : (if 0 ≤ (wrap64 ((l2.length : Int) - 1)) then (if (wrap64 ((l2.length : Int) - 1)) < (l2.length : Int) then ((impl_ReadFolder.f kj4 (rdOf ByteArray.empty l2 (wrap64 ((l2.length : Int) - 1)))).bind fun bt992 => (if bt992.2 = true then (if (wrap64 ((l2.length : Int) - 1)) < (t986.length : Int) then ((impl_printNamed.f kj4 bt992.1 (rdOf ByteArray.empty t986 (wrap64 ((l2.length : Int) - 1)))).bind fun bt997 => (some (!bt997.2))) else (none)) else (some false))) else (none)) else (none)) = some r := by rw [if_neg (show ¬ (false = true) by decide)] at H; exact H
    clear H
    have H := H1
    clear H1
    try (have e_ : (wrap64 ((l2.length : Int) - 1)) = ji22 := hji22; clear e_; clear hji22; try clear hji22w)
    obtain ⟨ji15, hji15⟩ : ∃ j_ : Int, (wrap64 ((l2.length : Int) - 1)) = j_ := ⟨_, rfl⟩
    replace H : (if 0 ≤ (ji15) then (if (ji15) < (l2.length : Int) then ((impl_ReadFolder.f kj4 (rdOf ByteArray.empty l2 (ji15))).bind fun bt992 => (if bt992.2 = true then (if (ji15) < (t986.length : Int) then ((impl_printNamed.f kj4 bt992.1 (rdOf ByteArray.empty t986 (ji15))).bind fun bt997 => (some (!bt997.2))) else (none)) else (some false))) else (none)) else (none)) = some r := by first | (rw [hji15] at H; exact H) | (simp only [hji15] at H ⊢; exact H)
    have hji15w : (IntKind.i64.wrap ((l2.length : Int) - 1)) = ji15 := (i64_w _).trans hji15
    by_cases c16 : 0 ≤ (ji15)
    ·rw [if_pos c16] at H
     have c16b0 : decide (0 ≤ (ji15)) = true := decide_eq_true c16
     clear c16
     by_cases c17 : (ji15) < (l2.length : Int)
     ·rw [if_pos c17] at H
      have c17b0 : decide ((ji15) < (l2.length : Int)) = true := decide_eq_true c17
      clear c17
      replace H := Option.bind_eq_some_iff.mp H
      obtain ⟨⟨t992, t993⟩, A180, H⟩ := H
      replace H : (if t993 = true then (if (ji15) < (t986.length : Int) then ((impl_printNamed.f kj4 t992 (rdOf ByteArray.empty t986 (ji15))).bind fun bt997 => (some (!bt997.2))) else (none)) else (some false)) = some r := H
      have A18 := Aside0.mk A180
      clear A180
      by_cases c19 : t993 = true
      ·subst c19
       have H1 : (if (ji15) < (t986.length : Int) then ((impl_printNamed.f kj4 t992 (rdOf ByteArray.empty t986 (ji15))).bind fun bt997 => (some (!bt997.2))) else (none)) = some r := by rw [if_pos rfl] at H; exact H
       clear H
       have H := H1
       clear H1
       by_cases c20 : (ji15) < (t986.length : Int)
       ·rw [if_pos c20] at H
        have c20b0 : decide ((ji15) < (t986.length : Int)) = true := decide_eq_true c20
        clear c20
        replace H := Option.bind_eq_some_iff.mp H
        obtain ⟨⟨t997, t998⟩, A210, H⟩ := H
        replace H : (some (!t998)) = some r := H
        have A21 := Aside0.mk A210
        clear A210
        obtain rfl := Option.some.inj H
        have p991 : 0 ≤ ((ji15) : Int) := of_decide_eq_true ma_
        have q991 : (ji15) < (l2.length : Int) := of_decide_eq_true ma_
        obtain ⟨ad991, e991, hx991_0⟩ := Kd.at_string HR2.out (ji15) p991 q991
        cases e991
        replace hx991_0 := (HB.out.cell (World.block_lt_of_cell? w _ hx991_0)).trans hx991_0
        replace p991 := eq_true p991
        replace q991 := eq_true q991
        go_wp2_with (first | ((with_reducible refine gate_callee (f := 68) rfl ?_); refine goesL_ (some 47) rfl rfl Tryd.func68 (by kernel_rfl) rfl #[.string (rdOf ByteArray.empty l2 (ji15))] rfl (by (try simp only [List.map_toArray, List.map_cons, List.map_nil]); first | done | (simp only [hji15]; rfl) | rfl | (simp only [List.length_drop, List.length_take]; rfl)) ?_; (with_reducible refine (impl_ReadFolder.calls kj4 (rdOf ByteArray.empty l2 (ji15)) t992 true _ (GT_on hb_ hG) A18.out).mono ?_); rintro e w22 ⟨v994, rfl, ho0, hb⟩; refine ⟨_, rfl, ?_⟩; replace HO_7 := Aside0.mk (Kd.R_below (kR_ HO_7.out) hb); have HO995 := Aside0.mk (Kd.R_lower ho0 (below_size hb_)); replace HB := Aside0.mk (below_step hb_ hb); (try clear hb); (try clear ho0); obtain ⟨Ao23, co23, eo23⟩ := Kd.R_slice HO_7.out; subst eo23; have p996 : 0 ≤ ((ji15) : Int) := of_decide_eq_true ma_; have q996 : (ji15) < (t986.length : Int) := of_decide_eq_true ma_; obtain ⟨ad996, e996, hx996_0⟩ := Kd.at_string (Kd.R_reads' HO_7.out).2.2 (ji15) p996 q996; cases e996; replace p996 := eq_true p996; replace q996 := eq_true q996; obtain ⟨Ao24, co24, eo24⟩ := Kd.R_slice HO995.out; subst eo24) | ((with_reducible refine gate_callee (f := 69) rfl ?_); refine goesL_ (some 58) rfl rfl Tryd.func69 (by kernel_rfl) rfl #[.slice Ao24 t992.length co24, .string (rdOf ByteArray.empty t986 (ji15))] rfl (by (try simp only [List.map_toArray, List.map_cons, List.map_nil]); first | done | (simp only [hji15]; rfl) | rfl | (simp only [List.length_drop, List.length_take]; rfl)) ?_; (with_reducible refine (impl_printNamed.calls kj4 _ _ t992 (rdOf ByteArray.empty t986 (ji15)) t997 t998 _ ?side1 ?side2 A21.out).mono ?_); (case side1 => exact kC_ ((Kd.R_reads' HO995.out).2.2)); (case side2 => exact (Kd.R_reads' HO995.out).2.1); rintro e w25 ⟨rfl, hb⟩; refine ⟨_, rfl, ?_⟩; replace HO_7 := Aside0.mk (Kd.R_below (kR_ HO_7.out) hb); replace HO995 := Aside0.mk (Kd.R_below (kR_ HO995.out) hb); replace HB := Aside0.mk (below_step hb_ hb); (try clear hb)))
        go_ret
        exact ⟨by first | rfl | (simp [errW_none, errW_some] <;> rfl) | (simp only [← hji15]; first | rfl | (simp [errW_none, errW_some] <;> rfl)) | (simp [*, errW_none, errW_some] <;> rfl), hb_⟩
       ·rw [if_neg c20] at H
        exact absurd H (by simp)
      ·replace c19 := Bool.eq_false_iff.mpr c19
       subst c19
       have H1 : (some false) = some r := by rw [if_neg (show ¬ (false = true) by decide)] at H; exact H
       clear H
       have H := H1
       clear H1
       obtain rfl := Option.some.inj H
       have p991 : 0 ≤ ((ji15) : Int) := of_decide_eq_true ma_
       have q991 : (ji15) < (l2.length : Int) := of_decide_eq_true ma_
       obtain ⟨ad991, e991, hx991_0⟩ := Kd.at_string HR2.out (ji15) p991 q991
       cases e991
       replace hx991_0 := (HB.out.cell (World.block_lt_of_cell? w _ hx991_0)).trans hx991_0
       replace p991 := eq_true p991
       replace q991 := eq_true q991
       go_wp2_with (first | ((with_reducible refine gate_callee (f := 68) rfl ?_); refine goesL_ (some 47) rfl rfl Tryd.func68 (by kernel_rfl) rfl #[.string (rdOf ByteArray.empty l2 (ji15))] rfl (by (try simp only [List.map_toArray, List.map_cons, List.map_nil]); first | done | (simp only [hji15]; rfl) | rfl | (simp only [List.length_drop, List.length_take]; rfl)) ?_; (with_reducible refine (impl_ReadFolder.calls kj4 (rdOf ByteArray.empty l2 (ji15)) t992 false _ (GT_on hb_ hG) A18.out).mono ?_); rintro e w26 ⟨v994, rfl, ho0, hb⟩; refine ⟨_, rfl, ?_⟩; replace HO_7 := Aside0.mk (Kd.R_below (kR_ HO_7.out) hb); have HO995 := Aside0.mk (Kd.R_lower ho0 (below_size hb_)); replace HB := Aside0.mk (below_step hb_ hb); (try clear hb); (try clear ho0)))
       go_ret
       exact ⟨by first | rfl | (simp [errW_none, errW_some] <;> rfl) | (simp only [← hji15]; first | rfl | (simp [errW_none, errW_some] <;> rfl)) | (simp [*, errW_none, errW_some] <;> rfl), hb_⟩
     ·rw [if_neg c17] at H
      exact absurd H (by simp)
    ·rw [if_neg c16] at H
     exact absurd H (by simp)
/-! ### laws_FnExactAbsenceRight: function 9 -/
def laws_FnExactAbsenceRight.f (k : Nat) (a0 : Int) (a1 : ByteArray) (l2 : List ByteArray) : Option (Bool) := if (a1.size : Int) > 1048576 then (some true) else ((laws_szStringS.f k l2 1048576).bind fun t999 => (if t999 < 0 then (some true) else ((laws_toStringS.f k l2).bind fun t1000 => ((spec_AbsenceRight.f k a0 a1 t1000).bind fun t1003 => ((laws_toStringS.f k l2).bind fun t1004 => ((impl_AbsenceRight.f k a0 a1 t1004).bind fun t1007 => (if (t1007 != t1003) = true then (some false) else ((laws_toStringS.f k l2).bind fun t1008 => ((laws_eqStringS.f k t1004 t1008).bind fun t1011 => (if t1011 = true then (some true) else (some false)))))))))))
theorem laws_FnExactAbsenceRight.mono : ∀ a0 a1 a2 k, LeO (laws_FnExactAbsenceRight.f k a0 a1 a2) (laws_FnExactAbsenceRight.f (k + 1) a0 a1 a2) := by
 intro a0 a1 a2 k
 unfold laws_FnExactAbsenceRight.f
 repeat' first
   | (with_reducible exact impl_AbsenceRight.mono _ _ _ _)
   | (with_reducible exact laws_eqStringS.mono _ _ _)
   | (with_reducible exact laws_szStringS.mono _ _ _)
   | (with_reducible exact laws_toStringS.mono _ _)
   | (with_reducible exact spec_AbsenceRight.mono _ _ _ _)
   | (with_reducible exact LeO.refl _)
   | (with_reducible exact LeO.none _)
   | (with_reducible refine LeO.ite ?_ ?_)
   | (with_reducible refine LeO.bind ?_ (fun _ => ?_))
   | exact impl_AbsenceRight.mono _ _ _ _
   | exact laws_eqStringS.mono _ _ _
   | exact laws_szStringS.mono _ _ _
   | exact laws_toStringS.mono _ _
   | exact spec_AbsenceRight.mono _ _ _ _
   | exact LeO.none _
   | refine LeO.ite ?_ ?_
   | refine LeO.bind ?_ (fun _ => ?_)
set_option maxHeartbeats 8000000 in
set_option maxRecDepth 100000 in
theorem laws_FnExactAbsenceRight.calls (k : Nat) (a0 : Int) (a1 : ByteArray) (A2 : Option Addr) (c2 : Nat) (l2 : List ByteArray) (r : Bool) (w : World) (hr2 : Kd.C Kd.string w A2 l2.length l2) (hc2 : l2.length ≤ c2) (hG : GT w) (h : laws_FnExactAbsenceRight.f k a0 a1 l2 = some r) (hrt : r = true) :
  Calls Tryd.prog 9 #[.int .i64 a0, .string a1, .slice A2 l2.length c2] w fun e w' => e = .returned (.bool r) ∧ Below w.heap.size w w' := by
 have HR2 := Aside0.mk hr2
 have HC2 := Aside0.mk hc2
 clear hr2 hc2
 have HB := Aside0.mk (Below.refl w.heap.size w)
 have H : (if (a1.size : Int) > 1048576 then (some true) else ((laws_szStringS.f k l2 1048576).bind fun t999 => (if t999 < 0 then (some true) else ((laws_toStringS.f k l2).bind fun t1000 => ((spec_AbsenceRight.f k a0 a1 t1000).bind fun t1003 => ((laws_toStringS.f k l2).bind fun t1004 => ((impl_AbsenceRight.f k a0 a1 t1004).bind fun t1007 => (if (t1007 != t1003) = true then (some false) else ((laws_toStringS.f k l2).bind fun t1008 => ((laws_eqStringS.f k t1004 t1008).bind fun t1011 => (if t1011 = true then (some true) else (some false)))))))))))) = some r := h
 clear h
 by_cases c4 : (a1.size : Int) > 1048576
 ·rw [if_pos c4] at H
  have c4b0 : decide (1048576 < (a1.size : Int)) = true := decide_eq_true c4
  have c4b1 : decide (1048576 < a1.size) = true := decide_eq_true (by omega)
  clear c4
  obtain rfl := Option.some.inj H
  go_enter Tryd.func9, Tryd.ntmps9
  go_wp2
  go_ret
  exact ⟨er_, hb_⟩
 ·rw [if_neg c4] at H
  have c4b0 : decide (1048576 < (a1.size : Int)) = false := decide_eq_false c4
  have c4b1 : decide (1048576 < a1.size) = false := decide_eq_false (by omega)
  clear c4
  replace H := Option.bind_eq_some_iff.mp H
  obtain ⟨t999, A50, H⟩ := H
  replace H : (if t999 < 0 then (some true) else ((laws_toStringS.f k l2).bind fun t1000 => ((spec_AbsenceRight.f k a0 a1 t1000).bind fun t1003 => ((laws_toStringS.f k l2).bind fun t1004 => ((impl_AbsenceRight.f k a0 a1 t1004).bind fun t1007 => (if (t1007 != t1003) = true then (some false) else ((laws_toStringS.f k l2).bind fun t1008 => ((laws_eqStringS.f k t1004 t1008).bind fun t1011 => (if t1011 = true then (some true) else (some false)))))))))) = some r := H
  have A5 := Aside0.mk A50
  clear A50
  by_cases c6 : t999 < 0
  ·rw [if_pos c6] at H
   have c6b0 : decide (t999 < 0) = true := decide_eq_true c6
   clear c6
   obtain rfl := Option.some.inj H
   go_enter Tryd.func9, Tryd.ntmps9
   go_wp2_with (first | ((with_reducible refine gate_callee (f := 38) rfl ?_); refine goesL_ (some 16) rfl rfl Tryd.func38 (by kernel_rfl) rfl #[.slice A2 l2.length c2, .int .i64 1048576] rfl sl_ ?_; (with_reducible refine (laws_szStringS.calls k _ _ l2 1048576 t999 _ ?side1 ?side2 A5.out).mono ?_); (case side1 => exact kC_ HR2.out); (case side2 => exact HC2.out); rintro e w' ⟨rfl, ⟨nd, rfl⟩⟩; refine ⟨_, rfl, ?_⟩))
   go_ret
   exact ⟨er_, hb_⟩
  ·rw [if_neg c6] at H
   have c6b0 : decide (t999 < 0) = false := decide_eq_false c6
   clear c6
   replace H := Option.bind_eq_some_iff.mp H
   obtain ⟨t1000, A70, H⟩ := H
   replace H : ((spec_AbsenceRight.f k a0 a1 t1000).bind fun t1003 => ((laws_toStringS.f k l2).bind fun t1004 => ((impl_AbsenceRight.f k a0 a1 t1004).bind fun t1007 => (if (t1007 != t1003) = true then (some false) else ((laws_toStringS.f k l2).bind fun t1008 => ((laws_eqStringS.f k t1004 t1008).bind fun t1011 => (if t1011 = true then (some true) else (some false)))))))) = some r := H
   have A7 := Aside0.mk A70
   clear A70
   replace H := Option.bind_eq_some_iff.mp H
   obtain ⟨t1003, A80, H⟩ := H
   replace H : ((laws_toStringS.f k l2).bind fun t1004 => ((impl_AbsenceRight.f k a0 a1 t1004).bind fun t1007 => (if (t1007 != t1003) = true then (some false) else ((laws_toStringS.f k l2).bind fun t1008 => ((laws_eqStringS.f k t1004 t1008).bind fun t1011 => (if t1011 = true then (some true) else (some false))))))) = some r := H
   have A8 := Aside0.mk A80
   clear A80
   replace H := Option.bind_eq_some_iff.mp H
   obtain ⟨t1004, A90, H⟩ := H
   replace H : ((impl_AbsenceRight.f k a0 a1 t1004).bind fun t1007 => (if (t1007 != t1003) = true then (some false) else ((laws_toStringS.f k l2).bind fun t1008 => ((laws_eqStringS.f k t1004 t1008).bind fun t1011 => (if t1011 = true then (some true) else (some false)))))) = some r := H
   have A9 := Aside0.mk A90
   clear A90
   replace H := Option.bind_eq_some_iff.mp H
   obtain ⟨t1007, A100, H⟩ := H
   replace H : (if (t1007 != t1003) = true then (some false) else ((laws_toStringS.f k l2).bind fun t1008 => ((laws_eqStringS.f k t1004 t1008).bind fun t1011 => (if t1011 = true then (some true) else (some false))))) = some r := H
   have A10 := Aside0.mk A100
   clear A100
   by_cases c11 : (t1007 != t1003) = true
   ·rw [if_pos c11] at H
    have c11b0 : (t1007 != t1003) = true := c11
    (try (have c11b1 : decide (t1007 = t1003) = false := by simpa using c11))
    (try (have c11b2 : (t1007 == t1003) = false := by simpa using c11))
    (try (have c11b3 : ¬ (t1007 = t1003) := by simpa using c11))
    clear c11
    exact absurd H (by subst hrt; decide)
   ·rw [if_neg c11] at H
    have c11b0 : (t1007 != t1003) = false := by simpa using c11
    (try (have c11b1 : decide (t1007 = t1003) = true := by simpa using c11))
    (try (have c11b2 : (t1007 == t1003) = true := by simpa using c11))
    clear c11
    replace H := Option.bind_eq_some_iff.mp H
    obtain ⟨t1008, A180, H⟩ := H
    replace H : ((laws_eqStringS.f k t1004 t1008).bind fun t1011 => (if t1011 = true then (some true) else (some false))) = some r := H
    have A18 := Aside0.mk A180
    clear A180
    replace H := Option.bind_eq_some_iff.mp H
    obtain ⟨t1011, A190, H⟩ := H
    replace H : (if t1011 = true then (some true) else (some false)) = some r := H
    have A19 := Aside0.mk A190
    clear A190
    by_cases c20 : t1011 = true
    ·subst c20
     have H1 : (some true) = some r := by rw [if_pos rfl] at H; exact H
     clear H
     have H := H1
     clear H1
     obtain rfl := Option.some.inj H
     go_enter Tryd.func9, Tryd.ntmps9
     go_wp2_with (first | ((with_reducible refine gate_callee (f := 38) rfl ?_); refine goesL_ (some 16) rfl rfl Tryd.func38 (by kernel_rfl) rfl #[.slice A2 l2.length c2, .int .i64 1048576] rfl sl_ ?_; (with_reducible refine (laws_szStringS.calls k _ _ l2 1048576 t999 _ ?side1 ?side2 A5.out).mono ?_); (case side1 => exact kC_ HR2.out); (case side2 => exact HC2.out); rintro e w' ⟨rfl, ⟨nd, rfl⟩⟩; refine ⟨_, rfl, ?_⟩) | ((with_reducible refine gate_callee (f := 40) rfl ?_); refine goesL_ (some 22) rfl rfl Tryd.func40 (by kernel_rfl) rfl #[.slice A2 l2.length c2] rfl sl_ ?_; (with_reducible refine (laws_toStringS.calls k _ _ l2 t1000 _ ?side1 ?side2 A7.out).mono ?_); (case side1 => exact kC_ HR2.out); (case side2 => exact HC2.out); rintro e w21 ⟨v1001, rfl, ho0, hb⟩; refine ⟨_, rfl, ?_⟩; have HO1002 := Aside0.mk (Kd.R_lower ho0 (below_size hb_)); replace HB := Aside0.mk (below_step hb_ hb); (try clear hb); (try clear ho0); obtain ⟨Ao22, co22, eo22⟩ := Kd.R_slice HO1002.out; subst eo22) | ((with_reducible refine gate_callee (f := 42) rfl ?_); refine goesL_ (some 23) rfl rfl Tryd.func42 (by kernel_rfl) rfl #[.int .i64 a0, .string a1, .slice Ao22 t1000.length co22] rfl sl_ ?_; (with_reducible refine (spec_AbsenceRight.calls k a0 a1 _ _ t1000 t1003 _ ?side1 ?side2 A8.out).mono ?_); (case side1 => exact kC_ ((Kd.R_reads' HO1002.out).2.2)); (case side2 => exact (Kd.R_reads' HO1002.out).2.1); rintro e w23 ⟨rfl, hb⟩; refine ⟨_, rfl, ?_⟩; replace HO1002 := Aside0.mk (Kd.R_below (kR_ HO1002.out) hb); replace HB := Aside0.mk (below_step hb_ hb); (try clear hb)) | ((with_reducible refine gate_callee (f := 40) rfl ?_); refine goesL_ (some 25) rfl rfl Tryd.func40 (by kernel_rfl) rfl #[.slice A2 l2.length c2] rfl sl_ ?_; (with_reducible refine (laws_toStringS.calls k _ _ l2 t1004 _ ?side1 ?side2 A9.out).mono ?_); (case side1 => exact kC_ (Kd.C_below HR2.out HB.out)); (case side2 => exact HC2.out); rintro e w24 ⟨v1005, rfl, ho0, hb⟩; refine ⟨_, rfl, ?_⟩; have HO1006 := Aside0.mk (Kd.R_lower (Kd.R_new' ho0 (Kd.R_lt (kR_ HO1002.out))) (below_size hb_)); replace HO1002 := Aside0.mk (Kd.R_elder' (kR_ HO1002.out) (Kd.R_base ho0) hb); replace HB := Aside0.mk (below_step hb_ hb); (try clear hb); (try clear ho0); obtain ⟨Ao25, co25, eo25⟩ := Kd.R_slice HO1006.out; subst eo25) | ((with_reducible refine gate_callee (f := 43) rfl ?_); refine goesL_ (some 29) rfl rfl Tryd.func43 (by kernel_rfl) rfl #[.int .i64 a0, .string a1, .slice Ao25 t1004.length co25] rfl sl_ ?_; (with_reducible refine (impl_AbsenceRight.calls k a0 a1 _ _ t1004 t1007 _ ?side1 ?side2 (GT_on hb_ hG) A10.out).mono ?_); (case side1 => exact kC_ ((Kd.R_reads' HO1006.out).2.2)); (case side2 => exact (Kd.R_reads' HO1006.out).2.1); rintro e w26 ⟨rfl, hb⟩; refine ⟨_, rfl, ?_⟩; replace HO1002 := Aside0.mk (Kd.R_below (kR_ HO1002.out) hb); replace HO1006 := Aside0.mk (Kd.R_below (kR_ HO1006.out) hb); replace HB := Aside0.mk (below_step hb_ hb); (try clear hb)) | ((with_reducible refine gate_callee (f := 40) rfl ?_); refine goesL_ (some 35) rfl rfl Tryd.func40 (by kernel_rfl) rfl #[.slice A2 l2.length c2] rfl sl_ ?_; (with_reducible refine (laws_toStringS.calls k _ _ l2 t1008 _ ?side1 ?side2 A18.out).mono ?_); (case side1 => exact kC_ (Kd.C_below HR2.out HB.out)); (case side2 => exact HC2.out); rintro e w27 ⟨v1009, rfl, ho0, hb⟩; refine ⟨_, rfl, ?_⟩; have HO1010 := Aside0.mk (Kd.R_lower (Kd.R_new' (Kd.R_new' ho0 (Kd.R_lt (kR_ HO1002.out))) (Kd.R_lt (kR_ HO1006.out))) (below_size hb_)); replace HO1002 := Aside0.mk (Kd.R_elder' (kR_ HO1002.out) (Kd.R_base ho0) hb); replace HO1006 := Aside0.mk (Kd.R_elder' (kR_ HO1006.out) (Kd.R_base ho0) hb); replace HB := Aside0.mk (below_step hb_ hb); (try clear hb); (try clear ho0); obtain ⟨Ao28, co28, eo28⟩ := Kd.R_slice HO1010.out; subst eo28) | ((with_reducible refine gate_callee (f := 35) rfl ?_); refine goesL_ (some 36) rfl rfl Tryd.func35 (by kernel_rfl) rfl #[.slice Ao25 t1004.length co25, .slice Ao28 t1008.length co28] rfl sl_ ?_; (with_reducible refine (laws_eqStringS.calls k _ _ t1004 _ _ t1008 true _ ?side1 ?side2 ?side3 ?side4 A19.out).mono ?_); (case side1 => exact kC_ ((Kd.R_reads' HO1006.out).2.2)); (case side2 => exact (Kd.R_reads' HO1006.out).2.1); (case side3 => exact kC_ ((Kd.R_reads' HO1010.out).2.2)); (case side4 => exact (Kd.R_reads' HO1010.out).2.1); rintro e w' ⟨rfl, ⟨nd, rfl⟩⟩; refine ⟨_, rfl, ?_⟩))
     go_ret
     exact ⟨er_, hb_⟩
    ·replace c20 := Bool.eq_false_iff.mpr c20
     subst c20
     have H1 : (some false) = some r := by rw [if_neg (show ¬ (false = true) by decide)] at H; exact H
     clear H
     have H := H1
     clear H1
     exact absurd H (by subst hrt; decide)
end Go.Proofs.YtjgbidklkhohfaaDoor.P
