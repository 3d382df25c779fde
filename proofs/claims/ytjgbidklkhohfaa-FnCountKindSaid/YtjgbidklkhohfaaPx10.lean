-- The functions of the seat as plain Lean functions, made by the kit's print.py for all laws at once. Not trusted: Lean checks it.
import Derived.Test.YtjgbidklkhohfaaPx0
import Derived.Test.YtjgbidklkhohfaaPx1
import Derived.Test.YtjgbidklkhohfaaPx2
import Derived.Test.YtjgbidklkhohfaaPx3
import Derived.Test.YtjgbidklkhohfaaPx6
import Derived.Test.YtjgbidklkhohfaaPx8
import Derived.Test.YtjgbidklkhohfaaPx9
namespace Go.Proofs.Ytjgbidklkhohfaa.P
open Go.RowKit Go.Proofs.YtjgbidklkhohfaaW.PrintWords Go.Proofs.YtjgbidklkhohfaaW.PrintLast Go.Proofs.YtjgbidklkhohfaaW.PrintMore
attribute [local go_sem] max2_int min2_int max_two min_two max_three min_three max_four min_four   -- for this text's walks alone
set_option linter.unusedVariables false
set_option linter.unusedSimpArgs false
/-! ### spec_l20Two: function 8 -/
def spec_l20Two.l0 : Nat → List (S45) → Int → Int → Int → List Int → Int → Option ((List (S45)) × Int × Int)
 | 0, _, _, _, _, _, _ => none
 | k + 1, x6, x7, x8, x9, x528000, x528001 => if x9 > 0 then ((spec_l20Step.f k x528000 x528001 x6 x8).bind fun bt535 => (spec_l20Two.l0 k bt535.1 x7 bt535.2.1 (wrap64 (x9 - 1)) x528000 bt535.2.2.2)) else ((spec_l20Rd_odd.f k x528000 x528001 12).bind fun bt541 => (if bt541.1 = true then ((some (([] : List (S45)) : List (S45))).bind fun y543 => (if y543.length + x6.length < 5864062014805 then ((some (y543 ++ x6 : List (S45))).bind fun y546 => (if 0 < (y546.length : Int) then (some ((y546.set (0 : Int).toNat (⟨(rd_T45 y546 0).f0, (⟨#[116, 117, 114, 110, 101, 100]⟩ : ByteArray)⟩ : S45)), x7, x8)) else (none))) else (none))) else (some (x6, x7, x8))))
def spec_l20Two.f (k : Nat) (l0 : List Int) : Option ((List (S45)) × Int × Int) := (spec_l20Open.f l0).bind fun bt525 => ((spec_l20Store.f k bt525.1 bt525.2 0).bind fun bt528 => ((spec_l20Rd_pick.f k bt525.1 bt528.2.2 4).bind fun bt533 => (spec_l20Two.l0 k bt528.1 bt528.2.1 bt528.2.1 bt533.1 bt525.1 bt533.2)))
theorem spec_l20Two.mono_l : ∀ k, (∀ y0 y1 y2 y3 y4 y5, LeO (spec_l20Two.l0 k y0 y1 y2 y3 y4 y5) (spec_l20Two.l0 (k + 1) y0 y1 y2 y3 y4 y5))
 | 0 => fun _ _ _ _ _ _ r h => by simp [spec_l20Two.l0] at h
 | k + 1 => by
  have ih0 := spec_l20Two.mono_l k
  ·intro y0 y1 y2 y3 y4 y5
   unfold spec_l20Two.l0
   repeat' first
   | (with_reducible exact ih0 _ _ _ _ _ _)
   | (with_reducible exact spec_l20Rd_odd.mono _ _ _ _)
   | (with_reducible exact spec_l20Rd_pick.mono _ _ _ _)
   | (with_reducible exact spec_l20Step.mono _ _ _ _ _)
   | (with_reducible exact spec_l20Store.mono _ _ _ _)
   | (with_reducible exact LeO.refl _)
   | (with_reducible exact LeO.none _)
   | (with_reducible refine LeO.ite ?_ ?_)
   | (with_reducible refine LeO.bind ?_ (fun _ => ?_))
   | exact ih0 _ _ _ _ _ _
   | exact spec_l20Rd_odd.mono _ _ _ _
   | exact spec_l20Rd_pick.mono _ _ _ _
   | exact spec_l20Step.mono _ _ _ _ _
   | exact spec_l20Store.mono _ _ _ _
   | exact LeO.none _
   | refine LeO.ite ?_ ?_
   | refine LeO.bind ?_ (fun _ => ?_)
theorem spec_l20Two.mono : ∀ a0 k, LeO (spec_l20Two.f k a0) (spec_l20Two.f (k + 1) a0) := by
 intro a0 k
 have ih0 := spec_l20Two.mono_l k
 unfold spec_l20Two.f
 repeat' first
   | (with_reducible exact ih0 _ _ _ _ _ _)
   | (with_reducible exact spec_l20Rd_odd.mono _ _ _ _)
   | (with_reducible exact spec_l20Rd_pick.mono _ _ _ _)
   | (with_reducible exact spec_l20Step.mono _ _ _ _ _)
   | (with_reducible exact spec_l20Store.mono _ _ _ _)
   | (with_reducible exact LeO.refl _)
   | (with_reducible exact LeO.none _)
   | (with_reducible refine LeO.ite ?_ ?_)
   | (with_reducible refine LeO.bind ?_ (fun _ => ?_))
   | exact ih0 _ _ _ _ _ _
   | exact spec_l20Rd_odd.mono _ _ _ _
   | exact spec_l20Rd_pick.mono _ _ _ _
   | exact spec_l20Step.mono _ _ _ _ _
   | exact spec_l20Store.mono _ _ _ _
   | exact LeO.none _
   | refine LeO.ite ?_ ?_
   | refine LeO.bind ?_ (fun _ => ?_)
set_option maxHeartbeats 8000000 in
set_option maxRecDepth 100000 in
theorem spec_l20Two.calls (k : Nat) (A0 : Option Addr) (c0 : Nat) (l0 : List Int) (r1 : List (S45)) (r2 : Int) (r3 : Int) (w : World) (hr0 : Kd.C (Kd.int .u8) w A0 l0.length l0) (hc0 : l0.length ≤ c0) (h : spec_l20Two.f k l0 = some (r1, r2, r3)) :
  Calls Try.prog 8 #[.slice A0 l0.length c0] w fun e w' => ∃ v0_ : Value, e = .returned (.tuple #[v0_, .int .i64 r2, .int .i64 r3]) ∧ Kd.V k45 45 w' w.heap.size (fun k_ => (w.heap.size ≤ k_)) v0_ r1 ∧ Below w.heap.size w w' := by
 have HR0 := Aside0.mk hr0
 have HC0 := Aside0.mk hc0
 clear hr0 hc0
 have HB := Aside0.mk (Below.refl w.heap.size w)
 have H : ((spec_l20Open.f l0).bind fun bt525 => ((spec_l20Store.f k bt525.1 bt525.2 0).bind fun bt528 => ((spec_l20Rd_pick.f k bt525.1 bt528.2.2 4).bind fun bt533 => (spec_l20Two.l0 k bt528.1 bt528.2.1 bt528.2.1 bt533.1 bt525.1 bt533.2)))) = some (r1, r2, r3) := h
 clear h
 replace H := Option.bind_eq_some_iff.mp H
 obtain ⟨⟨t525, t526⟩, A20, H⟩ := H
 replace H : ((spec_l20Store.f k t525 t526 0).bind fun bt528 => ((spec_l20Rd_pick.f k t525 bt528.2.2 4).bind fun bt533 => (spec_l20Two.l0 k bt528.1 bt528.2.1 bt528.2.1 bt533.1 t525 bt533.2))) = some (r1, r2, r3) := H
 have A2 := Aside0.mk A20
 clear A20
 replace H := Option.bind_eq_some_iff.mp H
 obtain ⟨⟨t528, t531, t532⟩, A30, H⟩ := H
 replace H : ((spec_l20Rd_pick.f k t525 t532 4).bind fun bt533 => (spec_l20Two.l0 k t528 t531 t531 bt533.1 t525 bt533.2)) = some (r1, r2, r3) := H
 have A3 := Aside0.mk A30
 clear A30
 replace H := Option.bind_eq_some_iff.mp H
 obtain ⟨⟨t533, t534⟩, A40, H⟩ := H
 replace H : (spec_l20Two.l0 k t528 t531 t531 t533 t525 t534) = some (r1, r2, r3) := H
 have A4 := Aside0.mk A40
 clear A40
 have H' := Aside0.mk H
 clear H
 go_enter Try.func8, Try.ntmps8
 go_wp2_with (first | ((with_reducible refine gate_callee (f := 10) rfl ?_); refine goesL_ (some 11) rfl rfl Try.func10 (by kernel_rfl) rfl #[.slice A0 l0.length c0] rfl sl_ ?_; (with_reducible refine (spec_l20Open.calls _ _ l0 t525 t526 w _ ?side1 ?side2 ?side3 A2.out).mono ?_); (case side1 => repeat (first | (with_reducible first | exact HB.out | apply below_alloc | apply pw_below_drewN | apply below_drew1) | exact HB.out)); (case side2 => exact HR0.out); (case side3 => exact HC0.out); rintro e w5 ⟨g527, rfl, hi, hb, hb2⟩; refine ⟨_, rfl, ?_⟩; replace HB := Aside0.mk (hb); have HI527 := Aside0.mk (hi); (try clear hb); (try clear hb2); (try clear hk); (try clear hi)) | ((with_reducible refine gate_callee (f := 13) rfl ?_); refine goesL_ (some 14) rfl rfl Try.func13 (by kernel_rfl) rfl #[.pointer (some ⟨g527, 0, none⟩), .int .i64 0] rfl sl_ ?_; (with_reducible refine (spec_l20Store.calls k g527 t525 t526 0 t528 t531 t532 w _ ?side1 ?side2 A3.out).mono ?_); (case side1 => repeat (first | (with_reducible first | exact HI527.out | apply IsS51.alloc | apply IsS51.drewN | apply IsS51.drew | apply IsS51.set_1) | exact HI527.out)); (case side2 => repeat (first | (with_reducible first | exact HB.out | apply below_alloc | apply pw_below_drewN | apply below_drew1 | refine below_set ?_ (IsS51.ge HI527.out)) | exact HB.out)); rintro e w6 ⟨v529, rfl, ho0, hi, hb, hk⟩; refine ⟨_, rfl, ?_⟩; have HO530 := Aside0.mk (Kd.V_lower (Kd.V_mono (ok' := fun k_ => (w.heap.size ≤ k_) ∧ k_ ≠ g527) ho0 (fun k_ hk_ => ⟨(Nat.le_trans (below_size (by repeat (first | (with_reducible first | exact HB.out | apply below_alloc | apply pw_below_drewN | apply below_drew1 | refine below_set ?_ (IsS51.ge HI527.out)) | exact HB.out))) hk_), (IsS51.fresh (by repeat (first | (with_reducible first | exact HI527.out | apply IsS51.alloc | apply IsS51.drewN | apply IsS51.drew | apply IsS51.set_1) | exact HI527.out)) k_ hk_)⟩)) (below_size (by repeat (first | (with_reducible first | exact HB.out | apply below_alloc | apply pw_below_drewN | apply below_drew1 | refine below_set ?_ (IsS51.ge HI527.out)) | exact HB.out)))); replace HB := Aside0.mk (hb); replace HI527 := Aside0.mk (hi); (try clear hb); (try clear hb2); (try clear hk); (try clear hi); (try clear ho0)) | ((with_reducible refine gate_callee (f := 11) rfl ?_); refine goesL_ (some 19) rfl rfl Try.func11 (by kernel_rfl) rfl #[.pointer (some ⟨g527, 0, none⟩), .int .i64 4] rfl sl_ ?_; (with_reducible refine (spec_l20Rd_pick.calls k g527 t525 t532 4 t533 t534 w _ ?side1 ?side2 A4.out).mono ?_); (case side1 => repeat (first | (with_reducible first | exact HI527.out | apply IsS51.alloc | apply IsS51.drewN | apply IsS51.drew | apply IsS51.set_1) | exact HI527.out)); (case side2 => repeat (first | (with_reducible first | exact HB.out | apply below_alloc | apply pw_below_drewN | apply below_drew1 | refine below_set ?_ (IsS51.ge HI527.out)) | exact HB.out)); rintro e w7 ⟨rfl, hi, hb, hk⟩; refine ⟨_, rfl, ?_⟩; have n0_ := Aside0.mk (Kd.V_mono (Kd.V_keep (Kd.V_mono (ok := fun k_ => (((w.heap.size ≤ k_)) ∧ k_ ≠ g527)) (kV_ HO530.out) (fun k_ hk_ => (⟨hk_, hk_.2⟩ : _ ∧ k_ ≠ g527))) hk (fun _ h => h.2)) (fun _ h => h.1)); have n1_ := Aside0.mk (hb); have n2_ := Aside0.mk (hi); clear HO530; clear HB; clear HI527; have HO530 := n0_; have HB := n1_; have HI527 := n2_; clear n0_ n1_ n2_; (try clear hb); (try clear hb2); (try clear hk); (try clear hi)))
 go_loopg [6, 8, 9] k (fun kq v6 v8 v9 w' => ∃ (x6_1 : List (S45)) (x8_1 : Int) (x9_1 : Int) (x528001_1 : Int), v8 = .int .i64 x8_1 ∧ v9 = .int .i64 x9_1 ∧ Aside0 (spec_l20Two.l0 kq x6_1 t531 x8_1 x9_1 t525 x528001_1 = some (r1, r2, r3)) ∧ Aside0 (kq ≤ k) ∧ Aside0 (Kd.V k45 45 w' w.heap.size (fun k_ => (w.heap.size ≤ k_) ∧ k_ ≠ g527) v6 x6_1) ∧ Aside0 (IsS51 w w' g527 t525 x528001_1) ∧ Aside0 (Below w.heap.size w w'))
 case atStart => exact ⟨(t528), (t531), (t533), (t534), rs_, rs_, H', ⟨Nat.le_refl _⟩, ⟨by (with_reducible repeat (first | apply Kd.V_alloc | apply Kd.V_drewN | apply Kd.V_drew)); exact HO530.out⟩, ⟨by repeat (first | (with_reducible first | exact HI527.out | apply IsS51.alloc | apply IsS51.drewN | apply IsS51.drew | apply IsS51.set_1) | exact HI527.out)⟩, ⟨by repeat (first | (with_reducible first | exact HB.out | apply below_alloc | apply pw_below_drewN | apply below_drew1 | refine below_set ?_ (IsS51.ge HI527.out)) | exact HB.out)⟩⟩
 case round =>
  clear H'
  try clear c1
  try clear p2
  obtain ⟨x6_1, x8_1, x9_1, x528001_1, rfl, rfl, HA, HK1, HO_6, HI527, HB⟩ := hrel
  cases gk with
  | zero => exact absurd HA.out (by simp [spec_l20Two.l0])
  | succ k1 =>
   have H := HA.out
   clear HA
   simp only [spec_l20Two.l0] at H
   by_cases c8 : x9_1 > 0
   ·rw [if_pos c8] at H
    have c8b0 : decide (0 < x9_1) = true := decide_eq_true c8
    clear c8
    replace H := Option.bind_eq_some_iff.mp H
    obtain ⟨⟨t535, t538, t539, t540⟩, A90, H⟩ := H
    replace H : (spec_l20Two.l0 k1 t535 t531 t538 (wrap64 (x9_1 - 1)) t525 t540) = some (r1, r2, r3) := H
    have A9 := Aside0.mk A90
    clear A90
    have H' := Aside0.mk H
    clear H
    obtain ⟨Ao10, co10, eo10⟩ := Kd.V_slice HO_6.out
    subst eo10
    go_wp2_with (first | ((with_reducible refine gate_callee (f := 14) rfl ?_); refine goesL_ (some 28) rfl rfl Try.func14 (by kernel_rfl) rfl #[.pointer (some ⟨g527, 0, none⟩), .slice Ao10 x6_1.length co10, .int .i64 x8_1] rfl sl_ ?_; (with_reducible refine (spec_l20Step.calls k1 g527 t525 x528001_1 (fun k_ => ((w.heap.size ≤ k_) ∧ k_ ≠ g527)) _ _ x6_1 x8_1 t535 t538 t539 t540 w _ ?side1 ?side2 ?side3 A9.out).mono ?_); (case side1 => repeat (first | (with_reducible first | exact HI527.out | apply IsS51.alloc | apply IsS51.drewN | apply IsS51.drew | apply IsS51.set_1) | exact HI527.out)); (case side2 => repeat (first | (with_reducible first | exact HB.out | apply below_alloc | apply pw_below_drewN | apply below_drew1 | refine below_set ?_ (IsS51.ge HI527.out)) | exact HB.out)); (case side3 => exact Kd.V_mono (HO_6.out) (fun k_ hk_ => ⟨hk_, hk_.2⟩)); rintro e w11 ⟨v536, rfl, ho0, hi, hb, hk⟩; refine ⟨_, rfl, ?_⟩; have n0_ := Aside0.mk (Kd.V_mono (Kd.V_keep (Kd.V_mono (ok := fun k_ => (((w.heap.size ≤ k_)) ∧ k_ ≠ g527)) (kV_ HO_6.out) (fun k_ hk_ => (⟨hk_, hk_.2⟩ : _ ∧ k_ ≠ g527))) hk (fun _ h => h.2)) (fun _ h => h.1)); have n1_ := Aside0.mk (Kd.V_lower (Kd.V_mono (ok' := fun k_ => (w.heap.size ≤ k_) ∧ k_ ≠ g527) ho0 (fun k_ hk_ => ⟨Or.elim hk_ (fun hs_ => hs_.1) (fun hn_ => (Nat.le_trans (below_size (by repeat (first | (with_reducible first | exact HB.out | apply below_alloc | apply pw_below_drewN | apply below_drew1 | refine below_set ?_ (IsS51.ge HI527.out)) | exact HB.out))) hn_)), Or.elim hk_ (fun hs_ => hs_.2) (fun hn_ => (IsS51.fresh (by repeat (first | (with_reducible first | exact HI527.out | apply IsS51.alloc | apply IsS51.drewN | apply IsS51.drew | apply IsS51.set_1) | exact HI527.out)) k_ hn_))⟩)) (below_size (by repeat (first | (with_reducible first | exact HB.out | apply below_alloc | apply pw_below_drewN | apply below_drew1 | refine below_set ?_ (IsS51.ge HI527.out)) | exact HB.out)))); have n2_ := Aside0.mk (hb); have n3_ := Aside0.mk (hi); clear HO_6; clear HB; clear HI527; have HO_6 := n0_; have HO537 := n1_; have HB := n2_; have HI527 := n3_; clear n0_ n1_ n2_ n3_; (try clear hb); (try clear hk); (try clear hi); (try clear ho0)))
    go_roundg k1
    case measure => have := HK1.out; omega
    case rel => exact ⟨(t535), (t538), (wrap64 (x9_1 - 1)), (t540), rs_, rs_, H', ⟨by have := HK1.out; omega⟩, ⟨by (with_reducible repeat (first | apply Kd.V_alloc | apply Kd.V_drewN | apply Kd.V_drew)); exact HO537.out⟩, ⟨by repeat (first | (with_reducible first | exact HI527.out | apply IsS51.alloc | apply IsS51.drewN | apply IsS51.drew | apply IsS51.set_1) | exact HI527.out)⟩, ⟨by repeat (first | (with_reducible first | exact HB.out | apply below_alloc | apply pw_below_drewN | apply below_drew1 | refine below_set ?_ (IsS51.ge HI527.out)) | exact HB.out)⟩⟩
   ·rw [if_neg c8] at H
    have c8b0 : decide (0 < x9_1) = false := decide_eq_false c8
    clear c8
    replace H := Option.bind_eq_some_iff.mp H
    obtain ⟨⟨t541, t542⟩, A120, H⟩ := H
    replace H : (if t541 = true then ((some (([] : List (S45)) : List (S45))).bind fun y543 => (if y543.length + x6_1.length < 5864062014805 then ((some (y543 ++ x6_1 : List (S45))).bind fun y546 => (if 0 < (y546.length : Int) then (some ((y546.set (0 : Int).toNat (⟨(rd_T45 y546 0).f0, (⟨#[116, 117, 114, 110, 101, 100]⟩ : ByteArray)⟩ : S45)), t531, x8_1)) else (none))) else (none))) else (some (x6_1, t531, x8_1))) = some (r1, r2, r3) := H
    have A12 := Aside0.mk A120
    clear A120
    by_cases c13 : t541 = true
    ·subst c13
     have H1 : ((some (([] : List (S45)) : List (S45))).bind fun y543 => (if y543.length + x6_1.length < 5864062014805 then ((some (y543 ++ x6_1 : List (S45))).bind fun y546 => (if 0 < (y546.length : Int) then (some ((y546.set (0 : Int).toNat (⟨(rd_T45 y546 0).f0, (⟨#[116, 117, 114, 110, 101, 100]⟩ : ByteArray)⟩ : S45)), t531, x8_1)) else (none))) else (none))) = some (r1, r2, r3) := by rw [if_pos rfl] at H; exact H
     clear H
     have H := H1
     clear H1
     obtain ⟨y543, hy543⟩ : ∃ y_ : List (S45), y_ = (([] : List (S45))) := ⟨_, rfl⟩
     replace H : (if y543.length + x6_1.length < 5864062014805 then ((some (y543 ++ x6_1 : List (S45))).bind fun y546 => (if 0 < (y546.length : Int) then (some ((y546.set (0 : Int).toNat (⟨(rd_T45 y546 0).f0, (⟨#[116, 117, 114, 110, 101, 100]⟩ : ByteArray)⟩ : S45)), t531, x8_1)) else (none))) else (none)) = some (r1, r2, r3) := hq_ hy543 H
     have Ny543 := Aside0.mk hy543
     clear hy543
     by_cases c14 : y543.length + x6_1.length < 5864062014805; rotate_left
     ·rw [if_neg c14] at H; exact absurd H (by simp)
     rw [if_pos c14] at H
     have LMc14 := Aside0.mk c14
     clear c14
     obtain ⟨y546, hy546⟩ : ∃ y_ : List (S45), y_ = (y543 ++ x6_1) := ⟨_, rfl⟩
     replace H : (if 0 < (y546.length : Int) then (some ((y546.set (0 : Int).toNat (⟨(rd_T45 y546 0).f0, (⟨#[116, 117, 114, 110, 101, 100]⟩ : ByteArray)⟩ : S45)), t531, x8_1)) else (none)) = some (r1, r2, r3) := hq_ hy546 H
     have Ny546 := Aside0.mk hy546
     clear hy546
     by_cases c15 : 0 < (y546.length : Int); rotate_left
     ·rw [if_neg c15] at H; exact absurd H (by simp)
     rw [if_pos c15] at H
     have c15b0 : decide (0 < (y546.length : Int)) = true := decide_eq_true c15
     have c15b1 : decide (0 < y546.length) = true := decide_eq_true (by omega)
     clear c15
     obtain ⟨y549, hy549⟩ : ∃ y_ : List (S45), y_ = (y546.set (0 : Int).toNat (⟨(rd_T45 y546 0).f0, (⟨#[116, 117, 114, 110, 101, 100]⟩ : ByteArray)⟩ : S45)) := ⟨_, rfl⟩
     replace H : (some (y549, t531, x8_1)) = some (r1, r2, r3) := hq_ hy549 H
     have Ny549 := Aside0.mk hy549
     clear hy549
     simp only [Option.some.injEq, Prod.mk.injEq] at H
     obtain ⟨rfl, rfl, rfl⟩ := H
     go_wp2_with (first | ((with_reducible refine gate_callee (f := 15) rfl ?_); refine goesL_ (some 33) rfl rfl Try.func15 (by kernel_rfl) rfl #[.pointer (some ⟨g527, 0, none⟩), .int .i64 12] rfl sl_ ?_; (with_reducible refine (spec_l20Rd_odd.calls k1 g527 t525 x528001_1 12 true t542 w _ ?side1 ?side2 A12.out).mono ?_); (case side1 => repeat (first | (with_reducible first | exact HI527.out | apply IsS51.alloc | apply IsS51.drewN | apply IsS51.drew | apply IsS51.set_1) | exact HI527.out)); (case side2 => repeat (first | (with_reducible first | exact HB.out | apply below_alloc | apply pw_below_drewN | apply below_drew1 | refine below_set ?_ (IsS51.ge HI527.out)) | exact HB.out)); rintro e w17 ⟨rfl, hi, hb, hk⟩; refine ⟨_, rfl, ?_⟩; have n0_ := Aside0.mk (Kd.V_mono (Kd.V_keep (Kd.V_mono (ok := fun k_ => (((w.heap.size ≤ k_)) ∧ k_ ≠ g527)) (kV_ HO_6.out) (fun k_ hk_ => (⟨hk_, hk_.2⟩ : _ ∧ k_ ≠ g527))) hk (fun _ h => h.2)) (fun _ h => h.1)); have n1_ := Aside0.mk (hb); have n2_ := Aside0.mk (hi); clear HO_6; clear HB; clear HI527; have HO_6 := n0_; have HB := n1_; have HI527 := n2_; clear n0_ n1_ n2_; (try clear hb); (try clear hk); (try clear hi)) | ((with_reducible refine gate_dst (N := 34) rfl ?_); refine Kd.R_lit k45 _ 45 ?hg (N := 34) ?hd (xs := ([] : List (S45))) (inner := []) (ok := fun _ => True) (okp := fun _ => True) ?hr ?hp (fun _ hk => hk) trivial (Below.refl _ _) (Nat.le_refl _) (by simp) ?_; (case hd => rfl); (case hg => rfl); (case hr => first | (go_simp; done) | (go_simp; rfl)); (case hp => exact (Reps.none _ _)); intro v544 w18 ho19 hb hg_ hnew_; clear hg_ hnew_; (first | rw [← Ny543.out] at ho19 | (simp only [Int.reduceToNat] at ho19; rw [← Ny543.out] at ho19)); have n0_ := Aside0.mk (Kd.V_elder' (kV_ HO_6.out) (Kd.R_base ho19) hb); have n1_ := Aside0.mk (Kd.R_lower (Kd.R_newM (M := fun k_ => (w.heap.size ≤ k_)) ho19 (below_size (by repeat (first | (with_reducible first | exact HB.out | apply below_alloc | apply pw_below_drewN | apply below_drew1 | refine below_set ?_ (IsS51.ge HI527.out)) | exact HB.out))) (fun k_ h_ => h_)) (below_size (by repeat (first | (with_reducible first | exact HB.out | apply below_alloc | apply pw_below_drewN | apply below_drew1 | refine below_set ?_ (IsS51.ge HI527.out)) | exact HB.out)))); have n2_ := Aside0.mk (IsS51.below (by repeat (first | (with_reducible first | exact HI527.out | apply IsS51.alloc | apply IsS51.drewN | apply IsS51.drew | apply IsS51.set_1) | exact HI527.out)) hb); have n3_ := Aside0.mk (below_step (by repeat (first | (with_reducible first | exact HB.out | apply below_alloc | apply pw_below_drewN | apply below_drew1 | refine below_set ?_ (IsS51.ge HI527.out)) | exact HB.out)) hb); clear HO_6; clear HI527; clear HB; have HO_6 := n0_; have HO545 := n1_; have HI527 := n2_; have HB := n3_; clear n0_ n1_ n2_ n3_; clear hb ho19; obtain ⟨Ao21, co21, eo21⟩ := Kd.V_slice HO_6.out; subst eo21) | ((with_reducible refine gate_builtin (b := .append) (xs := #[.tmp 34, .tmp 35]) rfl ?_); at_builtin; refine Kd.R_append_rows k45 (w0 := w) w.heap.size rfl (.tmp 34) (.tmp 35) 29 45 (.agg #[(.int .i64 0), (.string ⟨#[]⟩)]) 24 rfl Try.underlying29 info45 rfl (by decide) (by omega) v544 y543 x6_1 _ _ _ (fun k_ => (w.heap.size ≤ k_)) (fun _ => False) rfl rfl ?aO ?aR (fun _ _ h => h) (fun _ h => h.elim) ?aF ?aB ?aS ?aL ?_; (case aR => repeat (first | exact (Kd.V_reads' HO_6.out).2.2 | (with_reducible refine Kd.C_alloc ?_ _) | (with_reducible refine Kd.C_drewN ?_ _) | (with_reducible refine Kd.C_drew ?_))); (case aB => exact (by repeat (first | (with_reducible first | exact HB.out | apply below_alloc | apply pw_below_drewN | apply below_drew1 | refine below_set ?_ (IsS51.ge HI527.out)) | exact HB.out))); (case aF => exact (fun k_ hk => (Nat.le_trans (below_size (by repeat (first | (with_reducible first | exact HB.out | apply below_alloc | apply pw_below_drewN | apply below_drew1 | refine below_set ?_ (IsS51.ge HI527.out)) | exact HB.out))) hk))); (case aO => exact (by refine kR_ ?_; exact Kd.R_mono HO545.out (fun _ hk => hk.1))); (case aS => exact (below_size (by repeat (first | (with_reducible first | exact HB.out | apply below_alloc | apply pw_below_drewN | apply below_drew1 | refine below_set ?_ (IsS51.ge HI527.out)) | exact HB.out)))); (case aL => have := LMc14.out; omega); intro v547 w20 ho hb hg hat; rw [← Ny546.out] at ho; have n0_ := Aside0.mk (Kd.V_afterv (ok := (fun k_ => (w.heap.size ≤ k_) ∧ k_ ≠ g527)) (kV_ HO_6.out) hg hat); have n1_ := Aside0.mk (IsS51.grown (by repeat (first | (with_reducible first | exact HI527.out | apply IsS51.alloc | apply IsS51.drewN | apply IsS51.drew | apply IsS51.set_1) | exact HI527.out)) hg (IsS51.own_ne HI527.out HO545.out (by decide))); have n2_ := Aside0.mk (hb); have n3_ := Aside0.mk (ho); clear HO_6; clear HI527; clear HB; clear HO545; have HO_6 := n0_; have HI527 := n1_; have HB := n2_; have HO548 := n3_; clear n0_ n1_ n2_ n3_; clear ho hb hg hat; have p16 : 0 ≤ (0 : Int) := (by omega); have q16 : (0 : Int) < ((y546.length : Int) : Int) := dt_; have qi16 : (0 < y546.length) = True := eq_true (by omega); obtain ⟨go16, co16, eo16, gb16, gl16, cl16, HG16⟩ := Kd.R_form HO548.out (by omega); (first | cases eo16 | (injection eo16 with ea_ en_ ec_; (first | subst ea_ | (injection ea_ with ea_; subst ea_)); subst ec_; clear en_)); have GB16 := Aside0.mk gb16; have GG16 := Aside0.mk HG16; clear gb16 gl16 HG16; obtain ⟨ce16, hcl16, hM16, hcc16, hfr16⟩ := Kd.R_elem HO548.out z45 (0 : Int) p16 q16; obtain rfl := k45_openM hM16; have hx16_0 : w20.cell? ⟨go16, (0 : Int).toNat * 2, none⟩ = some (.int .i64 ((rd_T45 y546 0).f0)) := hcc16 0 _ rfl; have hx16_1 : w20.cell? ⟨go16, (0 : Int).toNat * 2 + 1, none⟩ = some (.string ((rd_T45 y546 0).f1)) := hcc16 1 _ rfl; have hf16_0 : w20.frozen? ⟨go16, (0 : Int).toNat * 2, none⟩ = false := hfr16 0; have hf16_1 : w20.frozen? ⟨go16, (0 : Int).toNat * 2 + 1, none⟩ = false := hfr16 1; clear hcl16 hcc16 hfr16 hM16; (try rw [show ((0 : Int)).toNat = 0 from rfl] at hx16_0); (try simp only [Nat.reduceMul, Nat.zero_mul, Nat.zero_add, Nat.reduceAdd] at hx16_0); (try rw [show ((0 : Int)).toNat = 0 from rfl] at hf16_0); (try simp only [Nat.reduceMul, Nat.zero_mul, Nat.zero_add, Nat.reduceAdd] at hf16_0); (try rw [show ((0 : Int)).toNat = 0 from rfl] at hx16_1); (try simp only [Nat.reduceMul, Nat.zero_mul, Nat.zero_add, Nat.reduceAdd] at hx16_1); (try rw [show ((0 : Int)).toNat = 0 from rfl] at hf16_1); (try simp only [Nat.reduceMul, Nat.zero_mul, Nat.zero_add, Nat.reduceAdd] at hf16_1); replace p16 := eq_true p16; replace q16 := eq_true q16; have HX22 := Aside0.mk (show Kd.R k45 45 w20 w.heap.size (fun k_ => (w.heap.size ≤ k_)) (.slice (some ⟨go16, 0, none⟩) y546.length co16) y546 from (kR_ HO548.out)); obtain ⟨ce22, hcl22, hM22, hcc22, hfr22⟩ := Kd.R_elem HX22.out z45 (0 : Int) (by omega) (by have h_ : (0 : Int) < ((y546.length : Int) : Int) := dt_; first | exact h_ | (have e_ := (Kd.R_reads' HO548.out).1; omega) | simpa using h_); obtain rfl := k45_openM hM22; have HP22 := Kd.R_seg HX22.out (0 : Int) (by omega) (by have h_ : (0 : Int) < ((y546.length : Int) : Int) := dt_; first | exact h_ | (have e_ := (Kd.R_reads' HO548.out).1; omega) | simpa using h_) (seg := [.string (⟨#[116, 117, 114, 110, 101, 100]⟩ : ByteArray)]) (j := 1) hcl22 hcc22 (show 2 ≤ 2 from by decide) (x' := (⟨(rd_T45 y546 0).f0, (⟨#[116, 117, 114, 110, 101, 100]⟩ : ByteArray)⟩ : S45)) (k45_mkM _ _ _ (⟨(rd_T45 y546 0).f0, (⟨#[116, 117, 114, 110, 101, 100]⟩ : ByteArray)⟩ : S45) ) (fun _ hk => hk); have hx22_1 := hcc22 1 _ rfl; (try simp only [show (k45).sz = 2 from rfl, Nat.mul_one, Nat.add_zero] at hx22_1); (try rw [show ((0 : Int)).toNat = 0 from rfl] at hx22_1); (try simp only [Nat.reduceMul, Nat.zero_mul, Nat.zero_add, Nat.reduceAdd] at hx22_1); have hf22_1 := hfr22 1; (try simp only [show (k45).sz = 2 from rfl, Nat.mul_one, Nat.add_zero] at hf22_1); (try rw [show ((0 : Int)).toNat = 0 from rfl] at hf22_1); (try simp only [Nat.reduceMul, Nat.zero_mul, Nat.zero_add, Nat.reduceAdd] at hf22_1); clear hcl22 hcc22 hfr22 hM22) | ((with_reducible refine gate_store (t := 9) (p := 39) rfl ?_); refine store_event (t := 9) (p := 39) (v := ?vo_w23) (w1 := (w20.setCell ⟨go16, 1, none⟩ (.string (⟨#[116, 117, 114, 110, 101, 100]⟩ : ByteArray)))) ?hg ?ho ?hn ?hr ?_; (case ho => rfl); (case hg => rfl); (case hn => rfl); (case hr => first | (go_simp; done) | (go_simp; rfl)); intro w23 hw; have hg : w20.grownBy w23 (some go16) := (by rw [hw]; exact HP22.2); have hp_ : Kd.R k45 45 w23 w.heap.size (fun k_ => (w.heap.size ≤ k_)) (.slice (some ⟨go16, 0, none⟩) y546.length co16) y549 := (by rw [hw, Ny549.out]; exact HP22.1); clear HP22; have n0_ := Aside0.mk (Kd.V_afterv (v := (.slice (some ⟨go16, 0, none⟩) y546.length co16)) (v1 := (.slice (some ⟨go16, 0, none⟩) y546.length co16)) (ok := (fun k_ => (w.heap.size ≤ k_) ∧ k_ ≠ g527)) (kV_ HO_6.out) hg (.inl rfl)); have n1_ := Aside0.mk (IsS51.grown (by repeat (first | (with_reducible first | exact HI527.out | apply IsS51.alloc | apply IsS51.drewN | apply IsS51.drew | apply IsS51.set_1) | exact HI527.out)) hg (IsS51.own_ne HI527.out HO548.out (by decide))); have n2_ := Aside0.mk (hp_); have n3_ := Aside0.mk ((by rw [hw]; exact below_set (HB.out) GB16.out : Below w.heap.size w w23)); clear HO_6; clear HI527; clear HO548; clear HB; have HO_6 := n0_; have HI527 := n1_; have HO548 := n2_; have HB := n3_; clear n0_ n1_ n2_ n3_; clear hg hw hp_))
     go_ret3
     exact ⟨_, er_, Kd.R_V (kR_ HO548.out), by repeat (first | (with_reducible first | exact HB.out | apply below_alloc | apply pw_below_drewN | apply below_drew1 | refine below_set ?_ (IsS51.ge HI527.out)) | exact HB.out)⟩
    ·replace c13 := Bool.eq_false_iff.mpr c13
     subst c13
     have H1 : (some (x6_1, t531, x8_1)) = some (r1, r2, r3) := by rw [if_neg (show ¬ (false = true) by decide)] at H; exact H
     clear H
     have H := H1
     clear H1
     simp only [Option.some.injEq, Prod.mk.injEq] at H
     obtain ⟨rfl, rfl, rfl⟩ := H
     go_wp2_with (first | ((with_reducible refine gate_callee (f := 15) rfl ?_); refine goesL_ (some 33) rfl rfl Try.func15 (by kernel_rfl) rfl #[.pointer (some ⟨g527, 0, none⟩), .int .i64 12] rfl sl_ ?_; (with_reducible refine (spec_l20Rd_odd.calls k1 g527 t525 x528001_1 12 false t542 w _ ?side1 ?side2 A12.out).mono ?_); (case side1 => repeat (first | (with_reducible first | exact HI527.out | apply IsS51.alloc | apply IsS51.drewN | apply IsS51.drew | apply IsS51.set_1) | exact HI527.out)); (case side2 => repeat (first | (with_reducible first | exact HB.out | apply below_alloc | apply pw_below_drewN | apply below_drew1 | refine below_set ?_ (IsS51.ge HI527.out)) | exact HB.out)); rintro e w24 ⟨rfl, hi, hb, hk⟩; refine ⟨_, rfl, ?_⟩; have n0_ := Aside0.mk (Kd.V_mono (Kd.V_keep (Kd.V_mono (ok := fun k_ => (((w.heap.size ≤ k_)) ∧ k_ ≠ g527)) (kV_ HO_6.out) (fun k_ hk_ => (⟨hk_, hk_.2⟩ : _ ∧ k_ ≠ g527))) hk (fun _ h => h.2)) (fun _ h => h.1)); have n1_ := Aside0.mk (hb); have n2_ := Aside0.mk (hi); clear HO_6; clear HB; clear HI527; have HO_6 := n0_; have HB := n1_; have HI527 := n2_; clear n0_ n1_ n2_; (try clear hb); (try clear hk); (try clear hi)))
     go_ret3
     exact ⟨_, er_, by (with_reducible repeat (first | apply Kd.V_alloc | apply Kd.V_drewN | apply Kd.V_drew)); exact Kd.V_mono HO_6.out (fun _ hk => hk.1), by repeat (first | (with_reducible first | exact HB.out | apply below_alloc | apply pw_below_drewN | apply below_drew1 | refine below_set ?_ (IsS51.ge HI527.out)) | exact HB.out)⟩
/-! ### spec_l11Files: function 26 -/
mutual
def spec_l11Files.j0 : Nat → List (S45) → List ByteArray → ByteArray → Bool → Bool → Option (List ByteArray)
 | 0, _, _, _, _, _ => none
 | k + 1, x0, x2, x7, x8, x34 => if x34 = true then ((spec_JoinPath.f k x2).bind fun t554 => (some (([t554] : List ByteArray)))) else ((spec_ReadFolder.f k x7).bind fun bt561 => (spec_l11Files.l0 k x0 x2 x8 (([] : List ByteArray)) bt561.1 bt561.2 0))
def spec_l11Files.l0 : Nat → List (S45) → List ByteArray → Bool → List ByteArray → List (S79) → Bool → Int → Option (List ByteArray)
 | 0, _, _, _, _, _, _, _ => none
 | k + 1, x0, x2, x8, x11, x12, x13, x14 => if x14 < (x12.length : Int) then (if x8 = true then (if x13 = true then (spec_l11Files.j2 k x0 x2 x8 x11 x12 x13 x14 (decide ((x2.length : Int) < 3))) else (spec_l11Files.j2 k x0 x2 x8 x11 x12 x13 x14 false)) else (spec_l11Files.j2 k x0 x2 x8 x11 x12 x13 x14 false)) else (spec_l11Files.j2 k x0 x2 x8 x11 x12 x13 x14 false)
def spec_l11Files.j2 : Nat → List (S45) → List ByteArray → Bool → List ByteArray → List (S79) → Bool → Int → Bool → Option (List ByteArray)
 | 0, _, _, _, _, _, _, _, _ => none
 | k + 1, x0, x2, x8, x11, x12, x13, x14, x58 => if x58 = true then (if 0 ≤ x14 then (if x14 < (x12.length : Int) then ((some (([] : List ByteArray) : List ByteArray)).bind fun y566 => (if y566.length + x2.length < 8796093022208 then ((some (y566 ++ x2 : List ByteArray)).bind fun y569 => ((some (([(rd_T79 x12 x14).f0] : List ByteArray) : List ByteArray)).bind fun y573 => (if y569.length + y573.length < 8796093022208 then ((spec_l11Files.f k x0 ((rd_T79 x12 x14).f1) (y569 ++ y573)).bind fun t579 => (if x11.length + t579.length < 8796093022208 then (spec_l11Files.l0 k x0 x2 x8 (x11 ++ t579) x12 x13 (wrap64 (x14 + 1))) else (none))) else (none)))) else (none))) else (none)) else (none)) else (some x11)
def spec_l11Files.f : Nat → List (S45) → Int → List ByteArray → Option (List ByteArray)
 | 0, _, _, _ => none
 | k + 1, l0, a1, l2 => (spec_l4Get.f k l0 a1).bind fun bt550 => ((spec_ReadFile.f k bt550.1).bind fun bt552 => (if bt550.2 = true then (if bt552.2 = true then (spec_l11Files.j0 k l0 l2 bt550.1 bt550.2 (decide ((l2.length : Int) > 0))) else (spec_l11Files.j0 k l0 l2 bt550.1 bt550.2 false)) else (spec_l11Files.j0 k l0 l2 bt550.1 bt550.2 false)))
end
theorem spec_l11Files.mono_l : ∀ k, (∀ y0 y1 y2, LeO (spec_l11Files.f k y0 y1 y2) (spec_l11Files.f (k + 1) y0 y1 y2)) ∧ (∀ y0 y1 y2 y3 y4, LeO (spec_l11Files.j0 k y0 y1 y2 y3 y4) (spec_l11Files.j0 (k + 1) y0 y1 y2 y3 y4)) ∧ (∀ y0 y1 y2 y3 y4 y5 y6, LeO (spec_l11Files.l0 k y0 y1 y2 y3 y4 y5 y6) (spec_l11Files.l0 (k + 1) y0 y1 y2 y3 y4 y5 y6)) ∧ (∀ y0 y1 y2 y3 y4 y5 y6 y7, LeO (spec_l11Files.j2 k y0 y1 y2 y3 y4 y5 y6 y7) (spec_l11Files.j2 (k + 1) y0 y1 y2 y3 y4 y5 y6 y7))
 | 0 => ⟨fun _ _ _ r h => by simp [spec_l11Files.f] at h, fun _ _ _ _ _ r h => by simp [spec_l11Files.j0] at h, fun _ _ _ _ _ _ _ r h => by simp [spec_l11Files.l0] at h, fun _ _ _ _ _ _ _ _ r h => by simp [spec_l11Files.j2] at h⟩
 | k + 1 => by
  obtain ⟨ih0, ih1, ih2, ih3⟩ := spec_l11Files.mono_l k
  refine ⟨?_, ?_, ?_, ?_⟩
  ·intro y0 y1 y2
   unfold spec_l11Files.f
   repeat' first
   | (with_reducible exact ih0 _ _ _)
   | (with_reducible exact ih1 _ _ _ _ _)
   | (with_reducible exact ih2 _ _ _ _ _ _ _)
   | (with_reducible exact ih3 _ _ _ _ _ _ _ _)
   | (with_reducible exact spec_JoinPath.mono _ _)
   | (with_reducible exact spec_ReadFile.mono _ _)
   | (with_reducible exact spec_ReadFolder.mono _ _)
   | (with_reducible exact spec_l4Get.mono _ _ _)
   | (with_reducible exact LeO.refl _)
   | (with_reducible exact LeO.none _)
   | (with_reducible refine LeO.ite ?_ ?_)
   | (with_reducible refine LeO.bind ?_ (fun _ => ?_))
   | exact ih0 _ _ _
   | exact ih1 _ _ _ _ _
   | exact ih2 _ _ _ _ _ _ _
   | exact ih3 _ _ _ _ _ _ _ _
   | exact spec_JoinPath.mono _ _
   | exact spec_ReadFile.mono _ _
   | exact spec_ReadFolder.mono _ _
   | exact spec_l4Get.mono _ _ _
   | exact LeO.none _
   | refine LeO.ite ?_ ?_
   | refine LeO.bind ?_ (fun _ => ?_)
  ·intro y0 y1 y2 y3 y4
   unfold spec_l11Files.j0
   repeat' first
   | (with_reducible exact ih0 _ _ _)
   | (with_reducible exact ih1 _ _ _ _ _)
   | (with_reducible exact ih2 _ _ _ _ _ _ _)
   | (with_reducible exact ih3 _ _ _ _ _ _ _ _)
   | (with_reducible exact spec_JoinPath.mono _ _)
   | (with_reducible exact spec_ReadFile.mono _ _)
   | (with_reducible exact spec_ReadFolder.mono _ _)
   | (with_reducible exact spec_l4Get.mono _ _ _)
   | (with_reducible exact LeO.refl _)
   | (with_reducible exact LeO.none _)
   | (with_reducible refine LeO.ite ?_ ?_)
   | (with_reducible refine LeO.bind ?_ (fun _ => ?_))
   | exact ih0 _ _ _
   | exact ih1 _ _ _ _ _
   | exact ih2 _ _ _ _ _ _ _
   | exact ih3 _ _ _ _ _ _ _ _
   | exact spec_JoinPath.mono _ _
   | exact spec_ReadFile.mono _ _
   | exact spec_ReadFolder.mono _ _
   | exact spec_l4Get.mono _ _ _
   | exact LeO.none _
   | refine LeO.ite ?_ ?_
   | refine LeO.bind ?_ (fun _ => ?_)
  ·intro y0 y1 y2 y3 y4 y5 y6
   unfold spec_l11Files.l0
   repeat' first
   | (with_reducible exact ih0 _ _ _)
   | (with_reducible exact ih1 _ _ _ _ _)
   | (with_reducible exact ih2 _ _ _ _ _ _ _)
   | (with_reducible exact ih3 _ _ _ _ _ _ _ _)
   | (with_reducible exact spec_JoinPath.mono _ _)
   | (with_reducible exact spec_ReadFile.mono _ _)
   | (with_reducible exact spec_ReadFolder.mono _ _)
   | (with_reducible exact spec_l4Get.mono _ _ _)
   | (with_reducible exact LeO.refl _)
   | (with_reducible exact LeO.none _)
   | (with_reducible refine LeO.ite ?_ ?_)
   | (with_reducible refine LeO.bind ?_ (fun _ => ?_))
   | exact ih0 _ _ _
   | exact ih1 _ _ _ _ _
   | exact ih2 _ _ _ _ _ _ _
   | exact ih3 _ _ _ _ _ _ _ _
   | exact spec_JoinPath.mono _ _
   | exact spec_ReadFile.mono _ _
   | exact spec_ReadFolder.mono _ _
   | exact spec_l4Get.mono _ _ _
   | exact LeO.none _
   | refine LeO.ite ?_ ?_
   | refine LeO.bind ?_ (fun _ => ?_)
  ·intro y0 y1 y2 y3 y4 y5 y6 y7
   unfold spec_l11Files.j2
   repeat' first
   | (with_reducible exact ih0 _ _ _)
   | (with_reducible exact ih1 _ _ _ _ _)
   | (with_reducible exact ih2 _ _ _ _ _ _ _)
   | (with_reducible exact ih3 _ _ _ _ _ _ _ _)
   | (with_reducible exact spec_JoinPath.mono _ _)
   | (with_reducible exact spec_ReadFile.mono _ _)
   | (with_reducible exact spec_ReadFolder.mono _ _)
   | (with_reducible exact spec_l4Get.mono _ _ _)
   | (with_reducible exact LeO.refl _)
   | (with_reducible exact LeO.none _)
   | (with_reducible refine LeO.ite ?_ ?_)
   | (with_reducible refine LeO.bind ?_ (fun _ => ?_))
   | exact ih0 _ _ _
   | exact ih1 _ _ _ _ _
   | exact ih2 _ _ _ _ _ _ _
   | exact ih3 _ _ _ _ _ _ _ _
   | exact spec_JoinPath.mono _ _
   | exact spec_ReadFile.mono _ _
   | exact spec_ReadFolder.mono _ _
   | exact spec_l4Get.mono _ _ _
   | exact LeO.none _
   | refine LeO.ite ?_ ?_
   | refine LeO.bind ?_ (fun _ => ?_)
theorem spec_l11Files.mono : ∀ a0 a1 a2 k, LeO (spec_l11Files.f k a0 a1 a2) (spec_l11Files.f (k + 1) a0 a1 a2) := by
 intro a0 a1 a2 k
 obtain ⟨ih0, ih1, ih2, ih3⟩ := spec_l11Files.mono_l k
 exact ih0 a0 a1 a2
def spec_l11Files.T10 : Bool × List (List Nat × List Nat) := (true, [([], []), ([], []), ([], []), ([], []), ([2, 3], [2, 3]), ([4], [4]), ([5], [5]), ([], []), ([], []), ([7, 8], [7, 8]), ([], []), ([], []), ([10, 11], [10, 11]), ([12], [12]), ([13], [13]), ([14], [14]), ([9, 15, 9], [9, 15]), ([1, 6, 16, 16], [1, 6, 16]), ([0, 17, 17], [0, 17]), ([18, 18, 0, 1, 2, 3, 4, 5, 6, 7, 8, 9, 10, 11, 12, 13, 14, 15, 16, 17, 18], [0, 18])])
def spec_l11Files.B10 : List Nat := [0, 0, 0, 0, 12, 28, 60, 0, 0, 384, 0, 0, 3072, 7168, 15360, 31744, 65408, 131070, 262143, 524287]
theorem spec_l11Files.tab10 : rtab .any (opsOf Try.f26 10) = spec_l11Files.T10 := by kernel_rfl
theorem spec_l11Files.bits10 : waitsOk spec_l11Files.T10.2 spec_l11Files.B10 = true := by kernel_rfl
set_option maxHeartbeats 8000000 in
set_option maxRecDepth 100000 in
theorem spec_l11Files.calls (k : Nat) : ∀ (A0 : Option Addr) (c0 : Nat) (l0 : List (S45)) (a1 : Int) (A2 : Option Addr) (c2 : Nat) (l2 : List ByteArray) (r : List ByteArray) (w : World) (hr0 : Kd.C k45 w A0 l0.length l0) (hc0 : l0.length ≤ c0) (hr2 : Kd.C Kd.string w A2 l2.length l2) (hc2 : l2.length ≤ c2) (h : spec_l11Files.f k l0 a1 l2 = some r),
  Calls Try.prog 26 #[.slice A0 l0.length c0, .int .i64 a1, .slice A2 l2.length c2] w fun e w' => ∃ v0_ : Value, e = .returned (v0_) ∧ Kd.R Kd.string 9 w' w.heap.size (fun _ => True) v0_ r ∧ Below w.heap.size w w' := by
 induction k using Nat.strongRecOn with
 | _ k ih =>
 intro A0 c0 l0 a1 A2 c2 l2 r w hr0 hc0 hr2 hc2 h
 cases k with
 | zero => exact absurd h (by simp [spec_l11Files.f])
 | succ k =>
 simp only [spec_l11Files.f] at h
 have HR0 := Aside0.mk hr0
 have HC0 := Aside0.mk hc0
 clear hr0 hc0
 have HR2 := Aside0.mk hr2
 have HC2 := Aside0.mk hc2
 clear hr2 hc2
 have HB := Aside0.mk (Below.refl w.heap.size w)
 have H : ((spec_l4Get.f k l0 a1).bind fun bt550 => ((spec_ReadFile.f k bt550.1).bind fun bt552 => (if bt550.2 = true then (if bt552.2 = true then (spec_l11Files.j0 k l0 l2 bt550.1 bt550.2 (decide ((l2.length : Int) > 0))) else (spec_l11Files.j0 k l0 l2 bt550.1 bt550.2 false)) else (spec_l11Files.j0 k l0 l2 bt550.1 bt550.2 false)))) = some r := h
 clear h
 replace H := Option.bind_eq_some_iff.mp H
 obtain ⟨⟨t550, t551⟩, A40, H⟩ := H
 replace H : ((spec_ReadFile.f k t550).bind fun bt552 => (if t551 = true then (if bt552.2 = true then (spec_l11Files.j0 k l0 l2 t550 t551 (decide ((l2.length : Int) > 0))) else (spec_l11Files.j0 k l0 l2 t550 t551 false)) else (spec_l11Files.j0 k l0 l2 t550 t551 false))) = some r := H
 have A4 := Aside0.mk A40
 clear A40
 replace H := Option.bind_eq_some_iff.mp H
 obtain ⟨⟨t552, t553⟩, A50, H⟩ := H
 replace H : (if t551 = true then (if t553 = true then (spec_l11Files.j0 k l0 l2 t550 t551 (decide ((l2.length : Int) > 0))) else (spec_l11Files.j0 k l0 l2 t550 t551 false)) else (spec_l11Files.j0 k l0 l2 t550 t551 false)) = some r := H
 have A5 := Aside0.mk A50
 clear A50
 have HC6 := Aside0.mk H
 clear H
 go_enter Try.func26, Try.ntmps26
 go_upto_region 3 with (first | ((with_reducible refine gate_callee (f := 36) rfl ?_); refine goesL_ (some 18) rfl rfl Try.func36 (by kernel_rfl) rfl #[.slice A0 l0.length c0, .int .i64 a1] rfl sl_ ?_; (with_reducible refine (spec_l4Get.calls k _ _ l0 a1 t550 t551 _ ?side1 ?side2 A4.out).mono ?_); (case side1 => exact kC_ HR0.out); (case side2 => exact HC0.out); rintro e w' ⟨rfl, ⟨nd, rfl⟩⟩; refine ⟨_, rfl, ?_⟩) | ((with_reducible refine gate_callee (f := 29) rfl ?_); refine goesL_ (some 23) rfl rfl Try.func29 (by kernel_rfl) rfl #[.string t550] rfl sl_ ?_; (with_reducible refine (spec_ReadFile.calls k t550 t552 t553 _ A5.out).mono ?_); rintro e w' ⟨rfl, ⟨nd, rfl⟩⟩; refine ⟨_, rfl, ?_⟩))
 (try simp only [Act.put, List.setIfInBounds_toArray, List.set_cons_zero, List.set_cons_succ])
 go_cut [34] (fun v34 wc => ∃ (kq : Nat) (x34_5 : Bool), v34 = .bool x34_5 ∧ Aside0 (spec_l11Files.j0 kq l0 l2 t550 t551 x34_5 = some r) ∧ Aside0 (kq ≤ k) ∧ Aside0 (Below w.heap.size w wc))
 case first =>
  have H := HC6.out
  clear HC6
  by_cases c7 : t551 = true
  ·subst c7
   have H1 : (if t553 = true then (spec_l11Files.j0 k l0 l2 t550 true (decide ((l2.length : Int) > 0))) else (spec_l11Files.j0 k l0 l2 t550 true false)) = some r := by rw [if_pos rfl] at H; exact H
   clear H
   have H := H1
   clear H1
   by_cases c8 : t553 = true
   ·subst c8
    have H1 : (spec_l11Files.j0 k l0 l2 t550 true (decide ((l2.length : Int) > 0))) = some r := by rw [if_pos rfl] at H; exact H
    clear H
    have H := H1
    clear H1
    have H' := Aside0.mk H
    clear H
    go_wp2
    go_meet
    case rel => exact ⟨_, (decide ((l2.length : Int) > 0)), rs_, H', ⟨by first | omega | exact Nat.le_refl _⟩, ⟨hb_⟩⟩
   ·replace c8 := Bool.eq_false_iff.mpr c8
    subst c8
    have H1 : (spec_l11Files.j0 k l0 l2 t550 true false) = some r := by rw [if_neg (show ¬ (false = true) by decide)] at H; exact H
    clear H
    have H := H1
    clear H1
    have H' := Aside0.mk H
    clear H
    go_wp2
    go_meet
    case rel => exact ⟨_, (false), rs_, H', ⟨by first | omega | exact Nat.le_refl _⟩, ⟨hb_⟩⟩
  ·replace c7 := Bool.eq_false_iff.mpr c7
   subst c7
   have H1 : (spec_l11Files.j0 k l0 l2 t550 false false) = some r := by rw [if_neg (show ¬ (false = true) by decide)] at H; exact H
   clear H
   have H := H1
   clear H1
   have H' := Aside0.mk H
   clear H
   go_wp2
   go_meet
   case rel => exact ⟨_, (false), rs_, H', ⟨by first | omega | exact Nat.le_refl _⟩, ⟨hb_⟩⟩
 case rest =>
  clear HC6
  try clear c2
  try clear p2
  try clear c3
  try clear c7
  try clear c8
  obtain ⟨kq, x34_5, rfl, HA, HJ5, HB⟩ := hcut
  cases kq with
  | zero => exact absurd HA.out (by simp [spec_l11Files.j0])
  | succ kj5 =>
   have H := HA.out
   clear HA
   simp only [spec_l11Files.j0] at H
   by_cases c9 : x34_5 = true
   ·subst c9
    have H1 : ((spec_JoinPath.f kj5 l2).bind fun t554 => (some (([t554] : List ByteArray)))) = some r := by rw [if_pos rfl] at H; exact H
    clear H
    have H := H1
    clear H1
    replace H := Option.bind_eq_some_iff.mp H
    obtain ⟨t554, A100, H⟩ := H
    replace H : (some (([t554] : List ByteArray))) = some r := H
    have A10 := Aside0.mk A100
    clear A100
    obtain ⟨y555, hy555⟩ : ∃ y_ : List ByteArray, y_ = (([t554] : List ByteArray)) := ⟨_, rfl⟩
    replace H : (some y555) = some r := hq_ hy555 H
    have Ny555 := Aside0.mk hy555
    clear hy555
    obtain rfl := Option.some.inj H
    go_wp2_with (first | ((with_reducible refine gate_callee (f := 41) rfl ?_); refine goesL_ (some 36) rfl rfl Try.func41 (by kernel_rfl) rfl #[.slice A2 l2.length c2] rfl sl_ ?_; (with_reducible refine (spec_JoinPath.calls kj5 _ _ l2 t554 _ ?side1 ?side2 A10.out).mono ?_); (case side1 => exact kC_ (Kd.C_below HR2.out HB.out)); (case side2 => exact HC2.out); rintro e w' ⟨rfl, ⟨nd, rfl⟩⟩; refine ⟨_, rfl, ?_⟩) | ((with_reducible refine gate_dst (N := 37) rfl ?_); refine Kd.R_lit Kd.string _ 9 ?hg (N := 37) ?hd (xs := ([t554] : List ByteArray)) (inner := [.string t554]) (ok := fun _ => True) (okp := fun _ => True) ?hr ?hp (fun _ hk => hk) trivial (Below.refl _ _) (Nat.le_refl _) (by simp) ?_; (case hd => rfl); (case hg => rfl); (case hr => first | (go_simp; done) | (go_simp; rfl)); (case hp => exact (Reps.one (show Kd.M Kd.string _ _ _ t554 [.string t554] from rfl) (Reps.none _ _))); intro v556 w11 ho12 hb hg_ hnew_; clear hg_ hnew_; (first | rw [← Ny555.out] at ho12 | (simp only [Int.reduceToNat] at ho12; rw [← Ny555.out] at ho12)); have HO557 := Aside0.mk (Kd.R_lower ho12 (below_size hb_)); replace HB := Aside0.mk (below_step hb_ hb); clear hb ho12))
    go_ret
    exact ⟨_, er_, by (with_reducible repeat (first | apply Kd.R_alloc | apply Kd.R_drewN | apply Kd.R_drew)); exact HO557.out, hb_⟩
   ·replace c9 := Bool.eq_false_iff.mpr c9
    subst c9
    have H1 : ((spec_ReadFolder.f kj5 t550).bind fun bt561 => (spec_l11Files.l0 kj5 l0 l2 t551 (([] : List ByteArray)) bt561.1 bt561.2 0)) = some r := by rw [if_neg (show ¬ (false = true) by decide)] at H; exact H
    clear H
    have H := H1
    clear H1
    obtain ⟨y558, hy558⟩ : ∃ y_ : List ByteArray, y_ = (([] : List ByteArray)) := ⟨_, rfl⟩
    replace H : ((spec_ReadFolder.f kj5 t550).bind fun bt561 => (spec_l11Files.l0 kj5 l0 l2 t551 y558 bt561.1 bt561.2 0)) = some r := hq_ hy558 H
    have Ny558 := Aside0.mk hy558
    clear hy558
    replace H := Option.bind_eq_some_iff.mp H
    obtain ⟨⟨t561, t562⟩, A130, H⟩ := H
    replace H : (spec_l11Files.l0 kj5 l0 l2 t551 y558 t561 t562 0) = some r := H
    have A13 := Aside0.mk A130
    clear A130
    have H' := Aside0.mk H
    clear H
    go_wp2_with (first | ((with_reducible refine gate_dst (N := 38) rfl ?_); refine Kd.R_lit Kd.string _ 9 ?hg (N := 38) ?hd (xs := ([] : List ByteArray)) (inner := []) (ok := fun _ => True) (okp := fun _ => True) ?hr ?hp (fun _ hk => hk) trivial (Below.refl _ _) (Nat.le_refl _) (by simp) ?_; (case hd => rfl); (case hg => rfl); (case hr => first | (go_simp; done) | (go_simp; rfl)); (case hp => exact (Reps.none _ _)); intro v559 w14 ho15 hb hg_ hnew_; clear hg_ hnew_; (first | rw [← Ny558.out] at ho15 | (simp only [Int.reduceToNat] at ho15; rw [← Ny558.out] at ho15)); have HO560 := Aside0.mk (Kd.R_lower ho15 (below_size hb_)); replace HB := Aside0.mk (below_step hb_ hb); clear hb ho15) | ((with_reducible refine gate_callee (f := 42) rfl ?_); refine goesL_ (some 41) rfl rfl Try.func42 (by kernel_rfl) rfl #[.string t550] rfl sl_ ?_; (with_reducible refine (spec_ReadFolder.calls kj5 t550 t561 t562 _ A13.out).mono ?_); rintro e w16 ⟨v563, rfl, ho0, hb⟩; refine ⟨_, rfl, ?_⟩; replace HO560 := Aside0.mk (Kd.R_below (kR_ HO560.out) hb); have HO564 := Aside0.mk (Kd.R_lower ho0 (below_size hb_)); replace HB := Aside0.mk (below_step hb_ hb); (try clear hb); (try clear hk); (try clear ho0)))
    go_loopg [11, 14] kj5 (fun kq v11 v14 w' => ∃ (x11_2 : List ByteArray) (x14_2 : Int), v14 = .int .i64 x14_2 ∧ Aside0 (spec_l11Files.l0 kq l0 l2 t551 x11_2 t561 t562 x14_2 = some r) ∧ Aside0 (kq ≤ kj5) ∧ Aside0 (Kd.R Kd.string 9 w' w.heap.size (fun _ => True) v11 x11_2) ∧ Aside0 (Kd.R k79 79 w' w.heap.size (fun _ => True) v563 t561) ∧ Aside0 (Below w.heap.size w w'))
    case atStart => exact ⟨(y558), (0), rs_, H', ⟨Nat.le_refl _⟩, ⟨by (with_reducible repeat (first | apply Kd.R_alloc | apply Kd.R_drewN | apply Kd.R_drew)); exact HO560.out⟩, ⟨by (with_reducible repeat (first | apply Kd.R_alloc | apply Kd.R_drewN | apply Kd.R_drew)); exact HO564.out⟩, ⟨hb_⟩⟩
    case round =>
     clear H'
     try clear c2
     try clear p2
     try clear c3
     try clear c4
     try clear c7
     try clear c8
     try clear c9
     try clear p2
     obtain ⟨x11_2, x14_2, rfl, HA, HK2, HO_11, HO_12, HB⟩ := hrel
     cases gk with
     | zero => exact absurd HA.out (by simp [spec_l11Files.l0])
     | succ k2 =>
      have H := HA.out
      clear HA
      simp only [spec_l11Files.l0] at H
      have HC17 := Aside0.mk H
      clear H
      go_upto_region 8 with (fail)
      go_cut [58] (fun v58 wc => ∃ (kq : Nat) (x58_16 : Bool), v58 = .bool x58_16 ∧ Aside0 (spec_l11Files.j2 kq l0 l2 t551 x11_2 t561 t562 x14_2 x58_16 = some r) ∧ Aside0 (kq ≤ k2) ∧ Aside0 (Kd.R Kd.string 9 wc w.heap.size (fun _ => True) u11 x11_2) ∧ Aside0 (Kd.R k79 79 wc w.heap.size (fun _ => True) v563 t561) ∧ Aside0 (Below w.heap.size w wc))
      case first =>
       have H := HC17.out
       clear HC17
       by_cases c18 : x14_2 < (t561.length : Int)
       ·rw [if_pos c18] at H
        have c18b0 : decide (x14_2 < (t561.length : Int)) = true := decide_eq_true c18
        clear c18
        (first | rw [c18b0] | (simp only [i64_w, i32_w]; rw [c18b0]) | skip)
        by_cases c19 : t551 = true
        ·subst c19
         have H1 : (if t562 = true then (spec_l11Files.j2 k2 l0 l2 true x11_2 t561 t562 x14_2 (decide ((l2.length : Int) < 3))) else (spec_l11Files.j2 k2 l0 l2 true x11_2 t561 t562 x14_2 false)) = some r := by rw [if_pos rfl] at H; exact H
         clear H
         have H := H1
         clear H1
         by_cases c20 : t562 = true
         ·subst c20
          have H1 : (spec_l11Files.j2 k2 l0 l2 true x11_2 t561 true x14_2 (decide ((l2.length : Int) < 3))) = some r := by rw [if_pos rfl] at H; exact H
          clear H
          have H := H1
          clear H1
          have H' := Aside0.mk H
          clear H
          obtain ⟨Ao21, co21, eo21⟩ := Kd.R_slice HO_12.out
          subst eo21
          go_wp2
          go_meet
          case rel => exact ⟨_, (decide ((l2.length : Int) < 3)), rs_, H', ⟨by have := HJ5.out; have := HK2.out; first | omega | exact Nat.le_refl _⟩, ⟨by (with_reducible repeat (first | apply Kd.R_alloc | apply Kd.R_drewN | apply Kd.R_drew)); exact HO_11.out⟩, ⟨by (with_reducible repeat (first | apply Kd.R_alloc | apply Kd.R_drewN | apply Kd.R_drew)); exact HO_12.out⟩, ⟨hb_⟩⟩
         ·replace c20 := Bool.eq_false_iff.mpr c20
          subst c20
          have H1 : (spec_l11Files.j2 k2 l0 l2 true x11_2 t561 false x14_2 false) = some r := by rw [if_neg (show ¬ (false = true) by decide)] at H; exact H
          clear H
          have H := H1
          clear H1
          have H' := Aside0.mk H
          clear H
          obtain ⟨Ao22, co22, eo22⟩ := Kd.R_slice HO_12.out
          subst eo22
          go_wp2
          go_meet
          case rel => exact ⟨_, (false), rs_, H', ⟨by have := HJ5.out; have := HK2.out; first | omega | exact Nat.le_refl _⟩, ⟨by (with_reducible repeat (first | apply Kd.R_alloc | apply Kd.R_drewN | apply Kd.R_drew)); exact HO_11.out⟩, ⟨by (with_reducible repeat (first | apply Kd.R_alloc | apply Kd.R_drewN | apply Kd.R_drew)); exact HO_12.out⟩, ⟨hb_⟩⟩
        ·replace c19 := Bool.eq_false_iff.mpr c19
         subst c19
         have H1 : (spec_l11Files.j2 k2 l0 l2 false x11_2 t561 t562 x14_2 false) = some r := by rw [if_neg (show ¬ (false = true) by decide)] at H; exact H
         clear H
         have H := H1
         clear H1
         have H' := Aside0.mk H
         clear H
         obtain ⟨Ao23, co23, eo23⟩ := Kd.R_slice HO_12.out
         subst eo23
         go_wp2
         go_meet
         case rel => exact ⟨_, (false), rs_, H', ⟨by have := HJ5.out; have := HK2.out; first | omega | exact Nat.le_refl _⟩, ⟨by (with_reducible repeat (first | apply Kd.R_alloc | apply Kd.R_drewN | apply Kd.R_drew)); exact HO_11.out⟩, ⟨by (with_reducible repeat (first | apply Kd.R_alloc | apply Kd.R_drewN | apply Kd.R_drew)); exact HO_12.out⟩, ⟨hb_⟩⟩
       ·rw [if_neg c18] at H
        have c18b0 : decide (x14_2 < (t561.length : Int)) = false := decide_eq_false c18
        clear c18
        (first | rw [c18b0] | (simp only [i64_w, i32_w]; rw [c18b0]) | skip)
        have H' := Aside0.mk H
        clear H
        obtain ⟨Ao24, co24, eo24⟩ := Kd.R_slice HO_12.out
        subst eo24
        go_wp2
        go_meet
        case rel => exact ⟨_, (false), rs_, H', ⟨by have := HJ5.out; have := HK2.out; first | omega | exact Nat.le_refl _⟩, ⟨by (with_reducible repeat (first | apply Kd.R_alloc | apply Kd.R_drewN | apply Kd.R_drew)); exact HO_11.out⟩, ⟨by (with_reducible repeat (first | apply Kd.R_alloc | apply Kd.R_drewN | apply Kd.R_drew)); exact HO_12.out⟩, ⟨hb_⟩⟩
      case rest =>
       clear HC17
       try clear c1
       try clear c2
       try clear p2
       try clear c3
       try clear c4
       try clear c7
       try clear c8
       try clear c9
       try clear c18
       try clear c18b0
       try clear c19
       try clear c20
       try clear p2
       obtain ⟨kq, x58_16, rfl, HA, HJ16, HO_11, HO_12, HB⟩ := hcut
       cases kq with
       | zero => exact absurd HA.out (by simp [spec_l11Files.j2])
       | succ kj16 =>
        have H := HA.out
        clear HA
        simp only [spec_l11Files.j2] at H
        by_cases c25 : x58_16 = true
        ·subst c25
         have H1 : (if 0 ≤ x14_2 then (if x14_2 < (t561.length : Int) then ((some (([] : List ByteArray) : List ByteArray)).bind fun y566 => (if y566.length + l2.length < 8796093022208 then ((some (y566 ++ l2 : List ByteArray)).bind fun y569 => ((some (([(rd_T79 t561 x14_2).f0] : List ByteArray) : List ByteArray)).bind fun y573 => (if y569.length + y573.length < 8796093022208 then ((spec_l11Files.f kj16 l0 ((rd_T79 t561 x14_2).f1) (y569 ++ y573)).bind fun t579 => (if x11_2.length + t579.length < 8796093022208 then (spec_l11Files.l0 kj16 l0 l2 t551 (x11_2 ++ t579) t561 t562 (wrap64 (x14_2 + 1))) else (none))) else (none)))) else (none))) else (none)) else (none)) = some r := by rw [if_pos rfl] at H; exact H
         clear H
         have H := H1
         clear H1
         by_cases c26 : 0 ≤ x14_2; rotate_left
         ·rw [if_neg c26] at H; exact absurd H (by simp)
         rw [if_pos c26] at H
         have c26b0 : decide (0 ≤ x14_2) = true := decide_eq_true c26
         clear c26
         by_cases c27 : x14_2 < (t561.length : Int); rotate_left
         ·rw [if_neg c27] at H; exact absurd H (by simp)
         rw [if_pos c27] at H
         have c27b0 : decide (x14_2 < (t561.length : Int)) = true := decide_eq_true c27
         clear c27
         obtain ⟨y566, hy566⟩ : ∃ y_ : List ByteArray, y_ = (([] : List ByteArray)) := ⟨_, rfl⟩
         replace H : (if y566.length + l2.length < 8796093022208 then ((some (y566 ++ l2 : List ByteArray)).bind fun y569 => ((some (([(rd_T79 t561 x14_2).f0] : List ByteArray) : List ByteArray)).bind fun y573 => (if y569.length + y573.length < 8796093022208 then ((spec_l11Files.f kj16 l0 ((rd_T79 t561 x14_2).f1) (y569 ++ y573)).bind fun t579 => (if x11_2.length + t579.length < 8796093022208 then (spec_l11Files.l0 kj16 l0 l2 t551 (x11_2 ++ t579) t561 t562 (wrap64 (x14_2 + 1))) else (none))) else (none)))) else (none)) = some r := hq_ hy566 H
         have Ny566 := Aside0.mk hy566
         clear hy566
         by_cases c28 : y566.length + l2.length < 8796093022208; rotate_left
         ·rw [if_neg c28] at H; exact absurd H (by simp)
         rw [if_pos c28] at H
         have LMc28 := Aside0.mk c28
         clear c28
         obtain ⟨y569, hy569⟩ : ∃ y_ : List ByteArray, y_ = (y566 ++ l2) := ⟨_, rfl⟩
         replace H : ((some (([(rd_T79 t561 x14_2).f0] : List ByteArray) : List ByteArray)).bind fun y573 => (if y569.length + y573.length < 8796093022208 then ((spec_l11Files.f kj16 l0 ((rd_T79 t561 x14_2).f1) (y569 ++ y573)).bind fun t579 => (if x11_2.length + t579.length < 8796093022208 then (spec_l11Files.l0 kj16 l0 l2 t551 (x11_2 ++ t579) t561 t562 (wrap64 (x14_2 + 1))) else (none))) else (none))) = some r := hq_ hy569 H
         have Ny569 := Aside0.mk hy569
         clear hy569
         obtain ⟨y573, hy573⟩ : ∃ y_ : List ByteArray, y_ = (([(rd_T79 t561 x14_2).f0] : List ByteArray)) := ⟨_, rfl⟩
         replace H : (if y569.length + y573.length < 8796093022208 then ((spec_l11Files.f kj16 l0 ((rd_T79 t561 x14_2).f1) (y569 ++ y573)).bind fun t579 => (if x11_2.length + t579.length < 8796093022208 then (spec_l11Files.l0 kj16 l0 l2 t551 (x11_2 ++ t579) t561 t562 (wrap64 (x14_2 + 1))) else (none))) else (none)) = some r := hq_ hy573 H
         have Ny573 := Aside0.mk hy573
         clear hy573
         by_cases c29 : y569.length + y573.length < 8796093022208; rotate_left
         ·rw [if_neg c29] at H; exact absurd H (by simp)
         rw [if_pos c29] at H
         have LMc29 := Aside0.mk c29
         clear c29
         obtain ⟨y576, hy576⟩ : ∃ y_ : List ByteArray, y_ = (y569 ++ y573) := ⟨_, rfl⟩
         replace H : ((spec_l11Files.f kj16 l0 ((rd_T79 t561 x14_2).f1) y576).bind fun t579 => (if x11_2.length + t579.length < 8796093022208 then (spec_l11Files.l0 kj16 l0 l2 t551 (x11_2 ++ t579) t561 t562 (wrap64 (x14_2 + 1))) else (none))) = some r := hq_ hy576 H
         have Ny576 := Aside0.mk hy576
         clear hy576
         replace H := Option.bind_eq_some_iff.mp H
         obtain ⟨t579, A300, H⟩ := H
         replace H : (if x11_2.length + t579.length < 8796093022208 then (spec_l11Files.l0 kj16 l0 l2 t551 (x11_2 ++ t579) t561 t562 (wrap64 (x14_2 + 1))) else (none)) = some r := H
         have A30 := Aside0.mk A300
         clear A300
         by_cases c31 : x11_2.length + t579.length < 8796093022208; rotate_left
         ·rw [if_neg c31] at H; exact absurd H (by simp)
         rw [if_pos c31] at H
         have LMc31 := Aside0.mk c31
         clear c31
         obtain ⟨y582, hy582⟩ : ∃ y_ : List ByteArray, y_ = (x11_2 ++ t579) := ⟨_, rfl⟩
         replace H : (spec_l11Files.l0 kj16 l0 l2 t551 y582 t561 t562 (wrap64 (x14_2 + 1))) = some r := hq_ hy582 H
         have Ny582 := Aside0.mk hy582
         clear hy582
         have H' := Aside0.mk H
         clear H
         obtain ⟨Ao32, co32, eo32⟩ := Kd.R_slice HO_11.out
         subst eo32
         try go_wp2
         replace HO_11 := Aside0.mk (Kd.R_drew HO_11.out)
         replace HO_12 := Aside0.mk (Kd.R_drew HO_12.out)
         replace HB := Aside0.mk (below_drew1 HB.out)
         obtain ⟨Ao34, co34, eo34⟩ := Kd.R_slice HO_12.out
         (first | subst eo34 | (injection eo34 with f1_ f2_ f3_; have f4_ := f1_.symm; have f5_ := f3_.symm; clear f1_ f2_ f3_; subst f4_; subst f5_))
         have p565 : 0 ≤ (x14_2 : Int) := dt_
         have q565 : x14_2 < (t561.length : Int) := dt_
         obtain ⟨ad565, e565, hx565_0, hx565_1⟩ := at_T79 (Kd.R_reads' HO_12.out).2.2 x14_2 p565 q565
         cases e565
         replace p565 := eq_true p565
         replace q565 := eq_true q565
         have p572 : 0 ≤ (x14_2 : Int) := dt_
         have q572 : x14_2 < (t561.length : Int) := dt_
         obtain ⟨ad572, e572, hx572_0, hx572_1⟩ := at_T79 (Kd.R_reads' HO_12.out).2.2 x14_2 p572 q572
         obtain rfl : ad565 = ad572 := (by injection e572)
         replace p572 := eq_true p572
         replace q572 := eq_true q572
         refine start_ (n := 20) (S := fun w' => w'.cell? (ad565.add ((x14_2).toNat * 2)) = some (.string ((rd_T79 t561 x14_2).f0)) ∧ w'.cell? ⟨(ad565.add ((x14_2).toNat * 2)).block, (ad565.add ((x14_2).toNat * 2)).off + 1, none⟩ = some (.int .i64 ((rd_T79 t561 x14_2).f1)) ∧ w'.cell? (ad565.add ((x14_2).toNat * 2)) = some (.string ((rd_T79 t561 x14_2).f0)) ∧ w'.cell? ⟨(ad565.add ((x14_2).toNat * 2)).block, (ad565.add ((x14_2).toNat * 2)).off + 1, none⟩ = some (.int .i64 ((rd_T79 t561 x14_2).f1))) (ds := []) (tf_ 0 20) (by kernel_rfl) rfl rfl ⟨hx565_0, hx565_1, hx572_0, hx572_1⟩ (fun hHeld => ?_); refine with_tabW spec_l11Files.tab10 spec_l11Files.bits10 (fun HT_ HW_ => ?_)
         generalize wc.drew = w33 at HO_11 HO_12 HB hx565_0 hx565_1 hx572_0 hx572_1 hHeld ⊢
         refine paA_ 0 61 1 19 ?_
         refine paA_ 1 62 2 18 ?_
         refine paA_ 2 63 3 17 ?_
         refine paA_ 3 64 4 16 ?_
         refine paA_ 4 65 5 15 ?_
         refine paA_ 5 66 6 14 ?_
         refine pa_ (i := 8) (N := some 69) (tb_ 20 319) ?_
         refine pa_ (i := 10) (N := some 71) (tb_ 20 1343) ?_
         refine pa_ (i := 11) (N := some 72) (tb_ 20 3391) ?_
         refine pa_ (i := 12) (N := some 73) (tb_ 20 7487) ?_
         refine pa_ (i := 13) (N := some 74) (tb_ 20 15679) ?_
         refine ta4_ (i := 6) (N := some 67) (tb_ 20 15743) ?_
         refine ta4_ (i := 14) (N := some 75) (tb_ 20 32127) ?_
         refine join_ (σ := Value × Value × Value) 4 (tf_ 16 4) (fun s_ => [(68, s_.1), (70, s_.2.1), (76, s_.2.2)]) (fun s_ w' => (w'.cell? (ad565.add ((x14_2).toNat * 2)) = some (.string ((rd_T79 t561 x14_2).f0)) ∧ w'.cell? ⟨(ad565.add ((x14_2).toNat * 2)).block, (ad565.add ((x14_2).toNat * 2)).off + 1, none⟩ = some (.int .i64 ((rd_T79 t561 x14_2).f1)) ∧ w'.cell? (ad565.add ((x14_2).toNat * 2)) = some (.string ((rd_T79 t561 x14_2).f0)) ∧ w'.cell? ⟨(ad565.add ((x14_2).toNat * 2)).block, (ad565.add ((x14_2).toNat * 2)).off + 1, none⟩ = some (.int .i64 ((rd_T79 t561 x14_2).f1))) ∧ (Kd.R Kd.string 9 w' w.heap.size (fun k_ => some k_ ≠ (s_.2.2 : Value).ownBlock ∧ some k_ ≠ (.slice Ao32 x11_2.length co32 : Value).ownBlock) s_.2.1 y569) ∧ (Kd.R Kd.string 9 w' w.heap.size (fun k_ => some k_ ≠ (s_.2.1 : Value).ownBlock ∧ some k_ ≠ (.slice Ao32 x11_2.length co32 : Value).ownBlock) s_.2.2 y573) ∧ (Kd.R Kd.string 9 w' w.heap.size (fun k_ => some k_ ≠ (s_.2.1 : Value).ownBlock ∧ some k_ ≠ (s_.2.2 : Value).ownBlock) (.slice Ao32 x11_2.length co32) x11_2) ∧ (Kd.R k79 79 w' w.heap.size (fun _ => True) (.slice (some ad565) t561.length co34) t561) ∧ (Below w.heap.size w w')) ?_ ?_
         rotate_left
         ·intro hCont
          refine two_ (i := 7) (j := 15) (Ni := some 68) (Nj := some 76) (tb_ 20 32255) (tb_ 20 64895) rfl rfl rfl rfl (two_of HT_.out (by kernel_rfl)) (by decide) (by decide) (fun K hK => ?_) (fun K hK => ?_)
          ·skip
           refine Kd.R_lit_step Kd.string _ 9 ?hg (N := 68) ?hd (xs := ([] : List ByteArray)) (inner := []) (ok := fun _ => True) (okp := fun _ => True) ?hr ?hp (fun _ hk => hk) trivial (Below.refl _ _) (Nat.le_refl _) (by simp) ?_; (case hd => rfl); (case hg => rfl); (case hr => first | (go_simp; done) | (go_simp; rfl)); (case hp => exact (Reps.none _ _))
           intro v567 w35 ho36 hb hg_ hnew_
           have HS0_ := (hb.cell (World.block_lt_of_cell? _ _ (hHeld.1))).trans (hHeld.1)
           have HS1_ := (hb.cell (World.block_lt_of_cell? _ _ (hHeld.2.1))).trans (hHeld.2.1)
           have HS2_ := (hb.cell (World.block_lt_of_cell? _ _ (hHeld.2.2.1))).trans (hHeld.2.2.1)
           have HS3_ := (hb.cell (World.block_lt_of_cell? _ _ (hHeld.2.2.2))).trans (hHeld.2.2.2)
           clear hg_ hnew_
           (first | rw [← Ny566.out] at ho36 | (simp only [Int.reduceToNat] at ho36; rw [← Ny566.out] at ho36))
           replace HO_12 := Aside0.mk (Kd.R_below (kR_ HO_12.out) hb)
           have HO568 := Aside0.mk (Kd.R_lower (Kd.R_new' ho36 (Kd.R_lt (kR_ HO_11.out))) (below_size hb_))
           replace HO_11 := Aside0.mk (Kd.R_elder' (kR_ HO_11.out) (Kd.R_base ho36) hb)
           replace HB := Aside0.mk (below_step hb_ hb)
           clear hb ho36
           refine hK.out _ _ ⟨HS0_, HS1_, HS2_, HS3_⟩ (fun hHeld => ?_)
           clear hK K
           refine norm_ (a' := ?_) ?_ ?_
           rotate_left
           ·show Act.put _ (some 68) _ = _
            simp only [Act.put, List.setIfInBounds_toArray, List.set_cons_zero, List.set_cons_succ, i64_w, i32_w]
            rfl
           refine two_ (i := 9) (j := 15) (Ni := some 70) (Nj := some 76) (tf_ 15 5) (tb_ 20 65023) rfl rfl rfl rfl (two_of HT_.out (by kernel_rfl)) (by decide) (by decide) (fun K hK => ?_) (fun K hK => ?_)
           ·skip
            refine Kd.R_append_rows_step Kd.string (w0 := w) w.heap.size (by rfl) (.tmp 68) (.tmp 69) 46 9 (.string ⟨#[]⟩) 16 rfl Try.underlying46 info9 rfl (by decide) (by omega) v567 y566 l2 _ _ _ (fun k_ => some k_ ≠ (.slice Ao32 x11_2.length co32 : Value).ownBlock) (fun _ => False) rfl rfl ?aO ?aR (fun _ _ h => h) (fun _ h => h.elim) ?aF ?aB ?aS ?aL ?_
            (case aR => repeat (first | exact (Kd.C_below HR2.out HB.out) | (with_reducible refine Kd.C_alloc ?_ _) | (with_reducible refine Kd.C_drewN ?_ _) | (with_reducible refine Kd.C_drew ?_)))
            (case aB => exact hb_)
            (case aF => exact (fun k_ hk => Kd.fresh' (Kd.R_lt (kR_ HO_11.out)) k_ hk))
            (case aO => exact (by refine kR_ ?_; exact Kd.R_mono HO568.out (fun _ hk => hk.2)))
            (case aS => exact (below_size hb_))
            (case aL => have := LMc28.out; omega)
            intro v570 w37 ho hb hg hat
            rw [← Ny569.out] at ho
            have n0_ := Aside0.mk (Kd.R_after (ok := (fun _ => True)) (kR_ HO_11.out) hg hat)
            have n1_ := Aside0.mk (Kd.R_over' (kR_ HO_12.out) (Kd.R_typed (kR_ HO568.out)) (by decide) hg)
            have n2_ := Aside0.mk (hb)
            have n3_ := Aside0.mk (ho)
            clear HO_11
            clear HO_12
            clear HB
            clear HO568
            have HO_11 := n0_
            have HO_12 := n1_
            have HB := n2_
            have HO571 := n3_
            clear n0_ n1_ n2_ n3_
            clear ho hb hg hat
            obtain ⟨adz0_, ez0_, HZ0_0_, HZ0_1_⟩ := at_T79 (Kd.R_reads' HO_12.out).2.2 x14_2 (by first | exact p565 | exact of_eq_true p565) (by first | exact q565 | exact of_eq_true q565)
            cases ez0_
            obtain ⟨adz1_, ez1_, HZ1_0_, HZ1_1_⟩ := at_T79 (Kd.R_reads' HO_12.out).2.2 x14_2 (by first | exact p572 | exact of_eq_true p572) (by first | exact q572 | exact of_eq_true q572)
            cases ez1_
            refine hK.out _ _ ⟨HZ0_0_, HZ0_1_, HZ1_0_, HZ1_1_⟩ (fun hHeld => ?_)
            clear hK K
            refine norm_ (a' := ?_) ?_ ?_
            rotate_left
            ·show Act.put _ (some 70) _ = _
             simp only [Act.put, List.setIfInBounds_toArray, List.set_cons_zero, List.set_cons_succ, i64_w, i32_w]
             rfl
            refine one_ (i := 15) (N := some 76) (tf_ 16 4) rfl rfl (one_of HT_.out (by kernel_rfl)) (by decide) (fun K hK => ?_)
            refine Kd.R_lit_step Kd.string _ 9 ?hg (N := 76) ?hd (xs := ([(rd_T79 t561 x14_2).f0] : List ByteArray)) (inner := [.string ((rd_T79 t561 x14_2).f0)]) (ok := fun _ => True) (okp := fun _ => True) ?hr ?hp (fun _ hk => hk) trivial (Below.refl _ _) (Nat.le_refl _) (by simp) ?_; (case hd => rfl); (case hg => rfl); (case hr => first | (go_simp; done) | (go_simp; rfl)); (case hp => exact (Reps.one (show Kd.M Kd.string _ _ _ ((rd_T79 t561 x14_2).f0) [.string ((rd_T79 t561 x14_2).f0)] from rfl) (Reps.none _ _)))
            intro v574 w38 ho39 hb hg_ hnew_
            have HS0_ := (hb.cell (World.block_lt_of_cell? _ _ (hHeld.1))).trans (hHeld.1)
            have HS1_ := (hb.cell (World.block_lt_of_cell? _ _ (hHeld.2.1))).trans (hHeld.2.1)
            have HS2_ := (hb.cell (World.block_lt_of_cell? _ _ (hHeld.2.2.1))).trans (hHeld.2.2.1)
            have HS3_ := (hb.cell (World.block_lt_of_cell? _ _ (hHeld.2.2.2))).trans (hHeld.2.2.2)
            clear hg_ hnew_
            (first | rw [← Ny573.out] at ho39 | (simp only [Int.reduceToNat] at ho39; rw [← Ny573.out] at ho39))
            replace HO_12 := Aside0.mk (Kd.R_below (kR_ HO_12.out) hb)
            have HO575 := Aside0.mk (Kd.R_lower (Kd.R_new' (Kd.R_new' ho39 (Kd.R_lt (kR_ HO_11.out))) (Kd.R_lt (kR_ HO571.out))) (below_size hb_))
            replace HO_11 := Aside0.mk (Kd.R_elder' (kR_ HO_11.out) (Kd.R_base ho39) hb)
            replace HO571 := Aside0.mk (Kd.R_elder' (kR_ HO571.out) (Kd.R_base ho39) hb)
            replace HB := Aside0.mk (below_step hb_ hb)
            clear hb ho39
            refine hK.out _ _ ⟨HS0_, HS1_, HS2_, HS3_⟩ (fun hHeld => ?_)
            clear hK K
            refine norm_ (a' := ?_) ?_ ?_
            rotate_left
            ·show Act.put _ (some 76) _ = _
             simp only [Act.put, List.setIfInBounds_toArray, List.set_cons_zero, List.set_cons_succ, i64_w, i32_w]
             rfl
            exact norm_ (by simp only [putAll, Act.put, List.setIfInBounds_toArray, List.set_cons_zero, List.set_cons_succ]) (hCont (v567, v570, v574) _ ⟨hHeld, (by refine kR_ ?_; exact Kd.R_mono HO571.out (fun _ hk => ⟨hk.2, hk.1⟩)), (by refine kR_ ?_; exact Kd.R_mono HO575.out (fun _ hk => ⟨hk.2, hk.1.2⟩)), (by refine kR_ ?_; exact Kd.R_mono HO_11.out (fun _ hk => ⟨hk.1.2, hk.2⟩)), (kR_ HO_12.out), hb_⟩)
           ·skip
            refine Kd.R_lit_step Kd.string _ 9 ?hg (N := 76) ?hd (xs := ([(rd_T79 t561 x14_2).f0] : List ByteArray)) (inner := [.string ((rd_T79 t561 x14_2).f0)]) (ok := fun _ => True) (okp := fun _ => True) ?hr ?hp (fun _ hk => hk) trivial (Below.refl _ _) (Nat.le_refl _) (by simp) ?_; (case hd => rfl); (case hg => rfl); (case hr => first | (go_simp; done) | (go_simp; rfl)); (case hp => exact (Reps.one (show Kd.M Kd.string _ _ _ ((rd_T79 t561 x14_2).f0) [.string ((rd_T79 t561 x14_2).f0)] from rfl) (Reps.none _ _)))
            intro v574 w37 ho38 hb hg_ hnew_
            have HS0_ := (hb.cell (World.block_lt_of_cell? _ _ (hHeld.1))).trans (hHeld.1)
            have HS1_ := (hb.cell (World.block_lt_of_cell? _ _ (hHeld.2.1))).trans (hHeld.2.1)
            have HS2_ := (hb.cell (World.block_lt_of_cell? _ _ (hHeld.2.2.1))).trans (hHeld.2.2.1)
            have HS3_ := (hb.cell (World.block_lt_of_cell? _ _ (hHeld.2.2.2))).trans (hHeld.2.2.2)
            clear hg_ hnew_
            (first | rw [← Ny573.out] at ho38 | (simp only [Int.reduceToNat] at ho38; rw [← Ny573.out] at ho38))
            replace HO_12 := Aside0.mk (Kd.R_below (kR_ HO_12.out) hb)
            have HO575 := Aside0.mk (Kd.R_lower (Kd.R_new' (Kd.R_new' ho38 (Kd.R_lt (kR_ HO_11.out))) (Kd.R_lt (kR_ HO568.out))) (below_size hb_))
            replace HO_11 := Aside0.mk (Kd.R_elder' (kR_ HO_11.out) (Kd.R_base ho38) hb)
            replace HO568 := Aside0.mk (Kd.R_elder' (kR_ HO568.out) (Kd.R_base ho38) hb)
            replace HB := Aside0.mk (below_step hb_ hb)
            clear hb ho38
            refine hK.out _ _ ⟨HS0_, HS1_, HS2_, HS3_⟩ (fun hHeld => ?_)
            clear hK K
            refine norm_ (a' := ?_) ?_ ?_
            rotate_left
            ·show Act.put _ (some 76) _ = _
             simp only [Act.put, List.setIfInBounds_toArray, List.set_cons_zero, List.set_cons_succ, i64_w, i32_w]
             rfl
            refine one_ (i := 9) (N := some 70) (tf_ 16 4) rfl rfl (one_of HT_.out (by kernel_rfl)) (by decide) (fun K hK => ?_)
            refine Kd.R_append_rows_step Kd.string (w0 := w) w.heap.size (by rfl) (.tmp 68) (.tmp 69) 46 9 (.string ⟨#[]⟩) 16 rfl Try.underlying46 info9 rfl (by decide) (by omega) v567 y566 l2 _ _ _ (fun k_ => some k_ ≠ (.slice Ao32 x11_2.length co32 : Value).ownBlock ∧ some k_ ≠ (v574 : Value).ownBlock) (fun _ => False) rfl rfl ?aO ?aR (fun _ _ h => h) (fun _ h => h.elim) ?aF ?aB ?aS ?aL ?_
            (case aR => repeat (first | exact (Kd.C_below HR2.out HB.out) | (with_reducible refine Kd.C_alloc ?_ _) | (with_reducible refine Kd.C_drewN ?_ _) | (with_reducible refine Kd.C_drew ?_)))
            (case aB => exact hb_)
            (case aF => exact (fun k_ hk => ⟨Kd.fresh' (Kd.R_lt (kR_ HO_11.out)) k_ hk, Kd.fresh' (Kd.R_lt (kR_ HO575.out)) k_ hk⟩))
            (case aO => exact (by refine kR_ ?_; exact Kd.R_mono HO568.out (fun _ hk => ⟨hk.1.2, hk.2⟩)))
            (case aS => exact (below_size hb_))
            (case aL => have := LMc28.out; omega)
            intro v570 w39 ho hb hg hat
            rw [← Ny569.out] at ho
            have n0_ := Aside0.mk (Kd.R_after (ok := (fun k_ => some k_ ≠ (v574 : Value).ownBlock)) (by refine kR_ ?_; exact Kd.R_mono HO_11.out (fun _ hk => ⟨hk.2, hk.1.2⟩)) hg hat)
            have n1_ := Aside0.mk (Kd.R_over' (kR_ HO_12.out) (Kd.R_typed (kR_ HO568.out)) (by decide) hg)
            have n2_ := Aside0.mk (Kd.R_after (ok := (fun k_ => some k_ ≠ (.slice Ao32 x11_2.length co32 : Value).ownBlock)) (by refine kR_ ?_; exact Kd.R_mono HO575.out (fun _ hk => ⟨hk.1.2, hk.2⟩)) hg hat)
            have n3_ := Aside0.mk (hb)
            have n4_ := Aside0.mk (ho)
            clear HO_11
            clear HO_12
            clear HO575
            clear HB
            clear HO568
            have HO_11 := n0_
            have HO_12 := n1_
            have HO575 := n2_
            have HB := n3_
            have HO571 := n4_
            clear n0_ n1_ n2_ n3_ n4_
            clear ho hb hg hat
            obtain ⟨adz0_, ez0_, HZ0_0_, HZ0_1_⟩ := at_T79 (Kd.R_reads' HO_12.out).2.2 x14_2 (by first | exact p565 | exact of_eq_true p565) (by first | exact q565 | exact of_eq_true q565)
            cases ez0_
            obtain ⟨adz1_, ez1_, HZ1_0_, HZ1_1_⟩ := at_T79 (Kd.R_reads' HO_12.out).2.2 x14_2 (by first | exact p572 | exact of_eq_true p572) (by first | exact q572 | exact of_eq_true q572)
            cases ez1_
            refine hK.out _ _ ⟨HZ0_0_, HZ0_1_, HZ1_0_, HZ1_1_⟩ (fun hHeld => ?_)
            clear hK K
            refine norm_ (a' := ?_) ?_ ?_
            rotate_left
            ·show Act.put _ (some 70) _ = _
             simp only [Act.put, List.setIfInBounds_toArray, List.set_cons_zero, List.set_cons_succ, i64_w, i32_w]
             rfl
            exact norm_ (by simp only [putAll, Act.put, List.setIfInBounds_toArray, List.set_cons_zero, List.set_cons_succ]) (hCont (v567, v570, v574) _ ⟨hHeld, (by refine kR_ ?_; exact Kd.R_mono HO571.out (fun _ hk => ⟨hk.2, hk.1⟩)), (by refine kR_ ?_; exact Kd.R_mono HO575.out (fun _ hk => ⟨hk.2, hk.1⟩)), (by refine kR_ ?_; exact Kd.R_mono HO_11.out (fun _ hk => ⟨hk.2, hk.1⟩)), (kR_ HO_12.out), hb_⟩)
          ·skip
           refine Kd.R_lit_step Kd.string _ 9 ?hg (N := 76) ?hd (xs := ([(rd_T79 t561 x14_2).f0] : List ByteArray)) (inner := [.string ((rd_T79 t561 x14_2).f0)]) (ok := fun _ => True) (okp := fun _ => True) ?hr ?hp (fun _ hk => hk) trivial (Below.refl _ _) (Nat.le_refl _) (by simp) ?_; (case hd => rfl); (case hg => rfl); (case hr => first | (go_simp; done) | (go_simp; rfl)); (case hp => exact (Reps.one (show Kd.M Kd.string _ _ _ ((rd_T79 t561 x14_2).f0) [.string ((rd_T79 t561 x14_2).f0)] from rfl) (Reps.none _ _)))
           intro v574 w35 ho36 hb hg_ hnew_
           have HS0_ := (hb.cell (World.block_lt_of_cell? _ _ (hHeld.1))).trans (hHeld.1)
           have HS1_ := (hb.cell (World.block_lt_of_cell? _ _ (hHeld.2.1))).trans (hHeld.2.1)
           have HS2_ := (hb.cell (World.block_lt_of_cell? _ _ (hHeld.2.2.1))).trans (hHeld.2.2.1)
           have HS3_ := (hb.cell (World.block_lt_of_cell? _ _ (hHeld.2.2.2))).trans (hHeld.2.2.2)
           clear hg_ hnew_
           (first | rw [← Ny573.out] at ho36 | (simp only [Int.reduceToNat] at ho36; rw [← Ny573.out] at ho36))
           replace HO_12 := Aside0.mk (Kd.R_below (kR_ HO_12.out) hb)
           have HO575 := Aside0.mk (Kd.R_lower (Kd.R_new' ho36 (Kd.R_lt (kR_ HO_11.out))) (below_size hb_))
           replace HO_11 := Aside0.mk (Kd.R_elder' (kR_ HO_11.out) (Kd.R_base ho36) hb)
           replace HB := Aside0.mk (below_step hb_ hb)
           clear hb ho36
           refine hK.out _ _ ⟨HS0_, HS1_, HS2_, HS3_⟩ (fun hHeld => ?_)
           clear hK K
           refine norm_ (a' := ?_) ?_ ?_
           rotate_left
           ·show Act.put _ (some 76) _ = _
            simp only [Act.put, List.setIfInBounds_toArray, List.set_cons_zero, List.set_cons_succ, i64_w, i32_w]
            rfl
           refine one_ (i := 7) (N := some 68) (tb_ 20 65023) rfl rfl (one_of HT_.out (by kernel_rfl)) (by decide) (fun K hK => ?_)
           refine Kd.R_lit_step Kd.string _ 9 ?hg (N := 68) ?hd (xs := ([] : List ByteArray)) (inner := []) (ok := fun _ => True) (okp := fun _ => True) ?hr ?hp (fun _ hk => hk) trivial (Below.refl _ _) (Nat.le_refl _) (by simp) ?_; (case hd => rfl); (case hg => rfl); (case hr => first | (go_simp; done) | (go_simp; rfl)); (case hp => exact (Reps.none _ _))
           intro v567 w37 ho38 hb hg_ hnew_
           have HS0_ := (hb.cell (World.block_lt_of_cell? _ _ (hHeld.1))).trans (hHeld.1)
           have HS1_ := (hb.cell (World.block_lt_of_cell? _ _ (hHeld.2.1))).trans (hHeld.2.1)
           have HS2_ := (hb.cell (World.block_lt_of_cell? _ _ (hHeld.2.2.1))).trans (hHeld.2.2.1)
           have HS3_ := (hb.cell (World.block_lt_of_cell? _ _ (hHeld.2.2.2))).trans (hHeld.2.2.2)
           clear hg_ hnew_
           (first | rw [← Ny566.out] at ho38 | (simp only [Int.reduceToNat] at ho38; rw [← Ny566.out] at ho38))
           replace HO_12 := Aside0.mk (Kd.R_below (kR_ HO_12.out) hb)
           have HO568 := Aside0.mk (Kd.R_lower (Kd.R_new' (Kd.R_new' ho38 (Kd.R_lt (kR_ HO_11.out))) (Kd.R_lt (kR_ HO575.out))) (below_size hb_))
           replace HO_11 := Aside0.mk (Kd.R_elder' (kR_ HO_11.out) (Kd.R_base ho38) hb)
           replace HO575 := Aside0.mk (Kd.R_elder' (kR_ HO575.out) (Kd.R_base ho38) hb)
           replace HB := Aside0.mk (below_step hb_ hb)
           clear hb ho38
           refine hK.out _ _ ⟨HS0_, HS1_, HS2_, HS3_⟩ (fun hHeld => ?_)
           clear hK K
           refine norm_ (a' := ?_) ?_ ?_
           rotate_left
           ·show Act.put _ (some 68) _ = _
            simp only [Act.put, List.setIfInBounds_toArray, List.set_cons_zero, List.set_cons_succ, i64_w, i32_w]
            rfl
           refine one_ (i := 9) (N := some 70) (tf_ 16 4) rfl rfl (one_of HT_.out (by kernel_rfl)) (by decide) (fun K hK => ?_)
           refine Kd.R_append_rows_step Kd.string (w0 := w) w.heap.size (by rfl) (.tmp 68) (.tmp 69) 46 9 (.string ⟨#[]⟩) 16 rfl Try.underlying46 info9 rfl (by decide) (by omega) v567 y566 l2 _ _ _ (fun k_ => some k_ ≠ (.slice Ao32 x11_2.length co32 : Value).ownBlock ∧ some k_ ≠ (v574 : Value).ownBlock) (fun _ => False) rfl rfl ?aO ?aR (fun _ _ h => h) (fun _ h => h.elim) ?aF ?aB ?aS ?aL ?_
           (case aR => repeat (first | exact (Kd.C_below HR2.out HB.out) | (with_reducible refine Kd.C_alloc ?_ _) | (with_reducible refine Kd.C_drewN ?_ _) | (with_reducible refine Kd.C_drew ?_)))
           (case aB => exact hb_)
           (case aF => exact (fun k_ hk => ⟨Kd.fresh' (Kd.R_lt (kR_ HO_11.out)) k_ hk, Kd.fresh' (Kd.R_lt (kR_ HO575.out)) k_ hk⟩))
           (case aO => exact (by refine kR_ ?_; exact Kd.R_mono HO568.out (fun _ hk => ⟨hk.1.2, hk.2⟩)))
           (case aS => exact (below_size hb_))
           (case aL => have := LMc28.out; omega)
           intro v570 w39 ho hb hg hat
           rw [← Ny569.out] at ho
           have n0_ := Aside0.mk (Kd.R_after (ok := (fun k_ => some k_ ≠ (v574 : Value).ownBlock)) (by refine kR_ ?_; exact Kd.R_mono HO_11.out (fun _ hk => ⟨hk.1.2, hk.2⟩)) hg hat)
           have n1_ := Aside0.mk (Kd.R_over' (kR_ HO_12.out) (Kd.R_typed (kR_ HO568.out)) (by decide) hg)
           have n2_ := Aside0.mk (Kd.R_after (ok := (fun k_ => some k_ ≠ (.slice Ao32 x11_2.length co32 : Value).ownBlock)) (by refine kR_ ?_; exact Kd.R_mono HO575.out (fun _ hk => ⟨hk.1.2, hk.2⟩)) hg hat)
           have n3_ := Aside0.mk (hb)
           have n4_ := Aside0.mk (ho)
           clear HO_11
           clear HO_12
           clear HO575
           clear HB
           clear HO568
           have HO_11 := n0_
           have HO_12 := n1_
           have HO575 := n2_
           have HB := n3_
           have HO571 := n4_
           clear n0_ n1_ n2_ n3_ n4_
           clear ho hb hg hat
           obtain ⟨adz0_, ez0_, HZ0_0_, HZ0_1_⟩ := at_T79 (Kd.R_reads' HO_12.out).2.2 x14_2 (by first | exact p565 | exact of_eq_true p565) (by first | exact q565 | exact of_eq_true q565)
           cases ez0_
           obtain ⟨adz1_, ez1_, HZ1_0_, HZ1_1_⟩ := at_T79 (Kd.R_reads' HO_12.out).2.2 x14_2 (by first | exact p572 | exact of_eq_true p572) (by first | exact q572 | exact of_eq_true q572)
           cases ez1_
           refine hK.out _ _ ⟨HZ0_0_, HZ0_1_, HZ1_0_, HZ1_1_⟩ (fun hHeld => ?_)
           clear hK K
           refine norm_ (a' := ?_) ?_ ?_
           rotate_left
           ·show Act.put _ (some 70) _ = _
            simp only [Act.put, List.setIfInBounds_toArray, List.set_cons_zero, List.set_cons_succ, i64_w, i32_w]
            rfl
           exact norm_ (by simp only [putAll, Act.put, List.setIfInBounds_toArray, List.set_cons_zero, List.set_cons_succ]) (hCont (v567, v570, v574) _ ⟨hHeld, (by refine kR_ ?_; exact Kd.R_mono HO571.out (fun _ hk => ⟨hk.2, hk.1⟩)), (by refine kR_ ?_; exact Kd.R_mono HO575.out (fun _ hk => ⟨hk.2, hk.1⟩)), (by refine kR_ ?_; exact Kd.R_mono HO_11.out (fun _ hk => ⟨hk.2, hk.1⟩)), (kR_ HO_12.out), hb_⟩)
         rintro ⟨v567, v570, v574⟩ w40 ⟨hS_, h0_, h1_, h2_, h3_, h4_⟩
         have n0_ : Aside0 (Kd.R Kd.string 9 w40 w.heap.size (fun k_ => some k_ ≠ (v574 : Value).ownBlock ∧ some k_ ≠ (.slice Ao32 x11_2.length co32 : Value).ownBlock) v570 y569) := ⟨h0_⟩
         have n1_ : Aside0 (Kd.R Kd.string 9 w40 w.heap.size (fun k_ => some k_ ≠ (v570 : Value).ownBlock ∧ some k_ ≠ (.slice Ao32 x11_2.length co32 : Value).ownBlock) v574 y573) := ⟨h1_⟩
         have n2_ : Aside0 (Kd.R Kd.string 9 w40 w.heap.size (fun k_ => some k_ ≠ (v570 : Value).ownBlock ∧ some k_ ≠ (v574 : Value).ownBlock) (.slice Ao32 x11_2.length co32) x11_2) := ⟨h2_⟩
         have n3_ : Aside0 (Kd.R k79 79 w40 w.heap.size (fun _ => True) (.slice (some ad565) t561.length co34) t561) := ⟨h3_⟩
         have n4_ : Aside0 (Below w.heap.size w w40) := ⟨h4_⟩
         clear HO_11
         clear HO_12
         clear HB
         clear h0_ h1_ h2_ h3_ h4_
         have HO571 := n0_
         have HO575 := n1_
         have HO_11 := n2_
         have HO_12 := n3_
         have HB := n4_
         clear n0_ n1_ n2_ n3_ n4_
         have hHeld : w40.cell? (ad565.add ((x14_2).toNat * 2)) = some (.string ((rd_T79 t561 x14_2).f0)) ∧ w40.cell? ⟨(ad565.add ((x14_2).toNat * 2)).block, (ad565.add ((x14_2).toNat * 2)).off + 1, none⟩ = some (.int .i64 ((rd_T79 t561 x14_2).f1)) ∧ w40.cell? (ad565.add ((x14_2).toNat * 2)) = some (.string ((rd_T79 t561 x14_2).f0)) ∧ w40.cell? ⟨(ad565.add ((x14_2).toNat * 2)).block, (ad565.add ((x14_2).toNat * 2)).off + 1, none⟩ = some (.int .i64 ((rd_T79 t561 x14_2).f1)) := hS_
         obtain ⟨Ao42, co42, eo42⟩ := Kd.R_slice HO575.out
         (first | subst eo42 | (injection eo42 with f1_ f2_ f3_; have f4_ := f1_.symm; have f5_ := f3_.symm; clear f1_ f2_ f3_; subst f4_; subst f5_))
         refine norm_ (a' := ?_) ?_ ?_
         rotate_left
         ·simp only [putAll, Act.put, List.setIfInBounds_toArray, List.set_cons_zero, List.set_cons_succ]
          rfl
         refine one_ (i := 16) (N := some 77) (tf_ 17 3) rfl rfl (one_of HT_.out (by kernel_rfl)) (by decide) (fun K hK => ?_)
         refine Kd.R_append_rows_step Kd.string (w0 := w) w.heap.size (by rfl) (.tmp 70) (.tmp 76) 46 9 (.string ⟨#[]⟩) 16 rfl Try.underlying46 info9 rfl (by decide) (by omega) v570 y569 y573 _ _ _ (fun k_ => some k_ ≠ (.slice Ao32 x11_2.length co32 : Value).ownBlock ∧ some k_ ≠ (.slice Ao42 y573.length co42 : Value).ownBlock) (fun _ => False) rfl rfl ?aO ?aR (fun _ _ h => h) (fun _ h => h.elim) ?aF ?aB ?aS ?aL ?_
         (case aR => repeat (first | exact (Kd.R_reads' HO575.out).2.2 | (with_reducible refine Kd.C_alloc ?_ _) | (with_reducible refine Kd.C_drewN ?_ _) | (with_reducible refine Kd.C_drew ?_)))
         (case aB => exact hb_)
         (case aF => exact (fun k_ hk => ⟨Kd.fresh' (Kd.R_lt (kR_ HO_11.out)) k_ hk, Kd.fresh' (Kd.R_lt (kR_ HO575.out)) k_ hk⟩))
         (case aO => exact (by refine kR_ ?_; exact Kd.R_mono HO571.out (fun _ hk => ⟨hk.2, hk.1⟩)))
         (case aS => exact (below_size hb_))
         (case aL => have := LMc29.out; omega)
         intro v577 w41 ho hb hg hat
         rw [← Ny576.out] at ho
         have n0_ := Aside0.mk (Kd.R_after (ok := (fun k_ => some k_ ≠ (.slice Ao42 y573.length co42 : Value).ownBlock)) (by refine kR_ ?_; exact Kd.R_mono HO_11.out (fun _ hk => ⟨hk.2, hk.1⟩)) hg hat)
         have n1_ := Aside0.mk (Kd.R_over' (kR_ HO_12.out) (Kd.R_typed (kR_ HO571.out)) (by decide) hg)
         have n2_ := Aside0.mk (Kd.R_after (ok := (fun k_ => some k_ ≠ (.slice Ao32 x11_2.length co32 : Value).ownBlock)) (by refine kR_ ?_; exact Kd.R_mono HO575.out (fun _ hk => ⟨hk.2, hk.1⟩)) hg hat)
         have n3_ := Aside0.mk (hb)
         have n4_ := Aside0.mk (ho)
         clear HO_11
         clear HO_12
         clear HO575
         clear HB
         clear HO571
         have HO_11 := n0_
         have HO_12 := n1_
         have HO575 := n2_
         have HB := n3_
         have HO578 := n4_
         clear n0_ n1_ n2_ n3_ n4_
         clear ho hb hg hat
         obtain ⟨Ao43, co43, eo43⟩ := Kd.R_slice HO578.out
         (first | subst eo43 | (injection eo43 with f1_ f2_ f3_; have f4_ := f1_.symm; have f5_ := f3_.symm; clear f1_ f2_ f3_; subst f4_; subst f5_))
         obtain ⟨adz0_, ez0_, HZ0_0_, HZ0_1_⟩ := at_T79 (Kd.R_reads' HO_12.out).2.2 x14_2 (by first | exact p565 | exact of_eq_true p565) (by first | exact q565 | exact of_eq_true q565)
         cases ez0_
         obtain ⟨adz1_, ez1_, HZ1_0_, HZ1_1_⟩ := at_T79 (Kd.R_reads' HO_12.out).2.2 x14_2 (by first | exact p572 | exact of_eq_true p572) (by first | exact q572 | exact of_eq_true q572)
         cases ez1_
         refine hK.out _ _ ⟨HZ0_0_, HZ0_1_, HZ1_0_, HZ1_1_⟩ (fun hHeld => ?_)
         clear hK K
         refine norm_ (a' := ?_) ?_ ?_
         rotate_left
         ·show Act.put _ (some 77) _ = _
          simp only [Act.put, List.setIfInBounds_toArray, List.set_cons_zero, List.set_cons_succ, i64_w, i32_w]
          rfl
         refine one_ (i := 17) (N := some 78) (tf_ 18 2) rfl rfl (one_of HT_.out (by kernel_rfl)) (by decide) (fun K hK => ?_)
         refine goes_ Try.func26 (by kernel_rfl) rfl #[.slice A0 l0.length c0, .int .i64 ((rd_T79 t561 x14_2).f1), .slice Ao43 y576.length co43] (by rfl) rfl rfl sl_ ?_
         with_reducible refine (ih kj16 (by have := HJ5.out; have := HK2.out; have := HJ16.out; omega) _ _ l0 ((rd_T79 t561 x14_2).f1) _ _ y576 t579 _ ?side1 ?side2 ?side3 ?side4 A30.out).mono ?_
         (case side1 => exact kC_ (Kd.C_below HR0.out HB.out))
         (case side2 => exact HC0.out)
         (case side3 => exact kC_ ((Kd.R_reads' HO578.out).2.2))
         (case side4 => exact (Kd.R_reads' HO578.out).2.1)
         rintro e w44 ⟨v580, rfl, ho0, hb⟩
         have HS0_ := (hb.cell (World.block_lt_of_cell? _ _ (hHeld.1))).trans (hHeld.1)
         have HS1_ := (hb.cell (World.block_lt_of_cell? _ _ (hHeld.2.1))).trans (hHeld.2.1)
         have HS2_ := (hb.cell (World.block_lt_of_cell? _ _ (hHeld.2.2.1))).trans (hHeld.2.2.1)
         have HS3_ := (hb.cell (World.block_lt_of_cell? _ _ (hHeld.2.2.2))).trans (hHeld.2.2.2)
         refine ⟨_, rfl, ?_⟩
         replace HO_12 := Aside0.mk (Kd.R_below (kR_ HO_12.out) hb)
         have HO581 := Aside0.mk (Kd.R_lower (Kd.R_new' (Kd.R_new' (Kd.R_new' ho0 (Kd.R_lt (kR_ HO_11.out))) (Kd.R_lt (kR_ HO575.out))) (Kd.R_lt (kR_ HO578.out))) (below_size hb_))
         replace HO_11 := Aside0.mk (Kd.R_elder' (kR_ HO_11.out) (Kd.R_base ho0) hb)
         replace HO575 := Aside0.mk (Kd.R_elder' (kR_ HO575.out) (Kd.R_base ho0) hb)
         replace HO578 := Aside0.mk (Kd.R_elder' (kR_ HO578.out) (Kd.R_base ho0) hb)
         replace HB := Aside0.mk (below_step hb_ hb)
         (try clear hb)
         (try clear hb2)
         (try clear hk)
         (try clear hi)
         (try clear ho0)
         obtain ⟨Ao46, co46, eo46⟩ := Kd.R_slice HO581.out
         (first | subst eo46 | (injection eo46 with f1_ f2_ f3_; have f4_ := f1_.symm; have f5_ := f3_.symm; clear f1_ f2_ f3_; subst f4_; subst f5_))
         refine hK.out _ _ ⟨HS0_, HS1_, HS2_, HS3_⟩ (fun hHeld => ?_)
         clear hK K
         refine norm_ (a' := ?_) ?_ ?_
         rotate_left
         ·show Act.put _ (some 78) _ = _
          simp only [Act.put, List.setIfInBounds_toArray, List.set_cons_zero, List.set_cons_succ, i64_w, i32_w]
          rfl
         refine one_ (i := 18) (N := some 79) (tf_ 19 1) rfl rfl (one_of HT_.out (by kernel_rfl)) (by decide) (fun K hK => ?_)
         refine Kd.R_append_rows_step Kd.string (w0 := w) w.heap.size (by rfl) (.tmp 61) (.tmp 78) 46 9 (.string ⟨#[]⟩) 16 rfl Try.underlying46 info9 rfl (by decide) (by omega) (.slice Ao32 x11_2.length co32) x11_2 t579 _ _ _ (fun k_ => some k_ ≠ (.slice Ao42 y573.length co42 : Value).ownBlock ∧ some k_ ≠ (.slice Ao43 y576.length co43 : Value).ownBlock ∧ some k_ ≠ (.slice Ao46 t579.length co46 : Value).ownBlock) (fun _ => False) rfl rfl ?aO ?aR (fun _ _ h => h) (fun _ h => h.elim) ?aF ?aB ?aS ?aL ?_
         (case aR => repeat (first | exact (Kd.R_reads' HO581.out).2.2 | (with_reducible refine Kd.C_alloc ?_ _) | (with_reducible refine Kd.C_drewN ?_ _) | (with_reducible refine Kd.C_drew ?_)))
         (case aB => exact hb_)
         (case aF => exact (fun k_ hk => ⟨Kd.fresh' (Kd.R_lt (kR_ HO575.out)) k_ hk, Kd.fresh' (Kd.R_lt (kR_ HO578.out)) k_ hk, Kd.fresh' (Kd.R_lt (kR_ HO581.out)) k_ hk⟩))
         (case aO => exact (by refine kR_ ?_; exact Kd.R_mono HO_11.out (fun _ hk => ⟨hk.1.1, ⟨hk.1.2, hk.2⟩⟩)))
         (case aS => exact (below_size hb_))
         (case aL => have := LMc31.out; omega)
         intro v583 w45 ho hb hg hat
         rw [← Ny582.out] at ho
         have n0_ := Aside0.mk (Kd.R_over' (kR_ HO_12.out) (Kd.R_typed (kR_ HO_11.out)) (by decide) hg)
         have n1_ := Aside0.mk (Kd.R_after (ok := (fun k_ => some k_ ≠ (.slice Ao43 y576.length co43 : Value).ownBlock ∧ some k_ ≠ (.slice Ao46 t579.length co46 : Value).ownBlock)) (by refine kR_ ?_; exact Kd.R_mono HO575.out (fun _ hk => ⟨⟨hk.1.2, hk.2⟩, hk.1.1⟩)) hg hat)
         have n2_ := Aside0.mk (Kd.R_after (ok := (fun k_ => some k_ ≠ (.slice Ao42 y573.length co42 : Value).ownBlock ∧ some k_ ≠ (.slice Ao46 t579.length co46 : Value).ownBlock)) (by refine kR_ ?_; exact Kd.R_mono HO578.out (fun _ hk => ⟨⟨hk.1.2, hk.2⟩, hk.1.1⟩)) hg hat)
         have n3_ := Aside0.mk (Kd.R_after (ok := (fun k_ => some k_ ≠ (.slice Ao42 y573.length co42 : Value).ownBlock ∧ some k_ ≠ (.slice Ao43 y576.length co43 : Value).ownBlock)) (by refine kR_ ?_; exact Kd.R_mono HO581.out (fun _ hk => ⟨⟨hk.1.2, hk.2⟩, hk.1.1.2⟩)) hg hat)
         have n4_ := Aside0.mk (hb)
         have n5_ := Aside0.mk (ho)
         clear HO_12
         clear HO575
         clear HO578
         clear HO581
         clear HB
         clear HO_11
         have HO_12 := n0_
         have HO575 := n1_
         have HO578 := n2_
         have HO581 := n3_
         have HB := n4_
         have HO584 := n5_
         clear n0_ n1_ n2_ n3_ n4_ n5_
         clear ho hb hg hat
         obtain ⟨adz0_, ez0_, HZ0_0_, HZ0_1_⟩ := at_T79 (Kd.R_reads' HO_12.out).2.2 x14_2 (by first | exact p565 | exact of_eq_true p565) (by first | exact q565 | exact of_eq_true q565)
         cases ez0_
         obtain ⟨adz1_, ez1_, HZ1_0_, HZ1_1_⟩ := at_T79 (Kd.R_reads' HO_12.out).2.2 x14_2 (by first | exact p572 | exact of_eq_true p572) (by first | exact q572 | exact of_eq_true q572)
         cases ez1_
         refine hK.out _ _ ⟨HZ0_0_, HZ0_1_, HZ1_0_, HZ1_1_⟩ (fun hHeld => ?_)
         clear hK K
         refine norm_ (a' := ?_) ?_ ?_
         rotate_left
         ·show Act.put _ (some 79) _ = _
          simp only [Act.put, List.setIfInBounds_toArray, List.set_cons_zero, List.set_cons_succ, i64_w, i32_w]
          rfl
         refine paA_ 19 11 20 0 ?_
         refine done_ (done_of HT_.out (by kernel_rfl)) ?_
         try go_wp2
         go_roundg kj16
         case measure => have := HJ5.out; have := HK2.out; have := HJ16.out; omega
         case rel => exact ⟨(y582), (wrap64 (x14_2 + 1)), rs_, H', ⟨by have := HJ5.out; have := HK2.out; have := HJ16.out; omega⟩, ⟨by (with_reducible repeat (first | apply Kd.R_alloc | apply Kd.R_drewN | apply Kd.R_drew)); exact Kd.R_mono HO584.out (fun _ hk => trivial)⟩, ⟨by (with_reducible repeat (first | apply Kd.R_alloc | apply Kd.R_drewN | apply Kd.R_drew)); exact HO_12.out⟩, ⟨hb_⟩⟩
        ·replace c25 := Bool.eq_false_iff.mpr c25
         subst c25
         have H1 : (some x11_2) = some r := by rw [if_neg (show ¬ (false = true) by decide)] at H; exact H
         clear H
         have H := H1
         clear H1
         obtain rfl := Option.some.inj H
         go_wp2
         go_ret
         exact ⟨_, er_, by (with_reducible repeat (first | apply Kd.R_alloc | apply Kd.R_drewN | apply Kd.R_drew)); exact HO_11.out, hb_⟩
/-! ### spec_AllFiles: function 16 -/
def spec_AllFiles.f (k : Nat) (l0 : List (S45)) (a1 : Int) : Option (List ByteArray) := (spec_StoreValid.f k l0).bind fun t585 => (if t585 = true then ((spec_l11Files.f k l0 a1 (([] : List ByteArray))).bind fun t589 => (some t589)) else (some (([] : List ByteArray))))
theorem spec_AllFiles.mono : ∀ a0 a1 k, LeO (spec_AllFiles.f k a0 a1) (spec_AllFiles.f (k + 1) a0 a1) := by
 intro a0 a1 k
 unfold spec_AllFiles.f
 repeat' first
   | (with_reducible exact spec_StoreValid.mono _ _)
   | (with_reducible exact spec_l11Files.mono _ _ _ _)
   | (with_reducible exact LeO.refl _)
   | (with_reducible exact LeO.none _)
   | (with_reducible refine LeO.ite ?_ ?_)
   | (with_reducible refine LeO.bind ?_ (fun _ => ?_))
   | exact spec_StoreValid.mono _ _
   | exact spec_l11Files.mono _ _ _ _
   | exact LeO.none _
   | refine LeO.ite ?_ ?_
   | refine LeO.bind ?_ (fun _ => ?_)
set_option maxHeartbeats 8000000 in
set_option maxRecDepth 100000 in
theorem spec_AllFiles.calls (k : Nat) (A0 : Option Addr) (c0 : Nat) (l0 : List (S45)) (a1 : Int) (r : List ByteArray) (w : World) (hr0 : Kd.C k45 w A0 l0.length l0) (hc0 : l0.length ≤ c0) (h : spec_AllFiles.f k l0 a1 = some r) :
  Calls Try.prog 16 #[.slice A0 l0.length c0, .int .i64 a1] w fun e w' => ∃ v0_ : Value, e = .returned (v0_) ∧ Kd.R Kd.string 9 w' w.heap.size (fun _ => True) v0_ r ∧ Below w.heap.size w w' := by
 have HR0 := Aside0.mk hr0
 have HC0 := Aside0.mk hc0
 clear hr0 hc0
 have HB := Aside0.mk (Below.refl w.heap.size w)
 have H : ((spec_StoreValid.f k l0).bind fun t585 => (if t585 = true then ((spec_l11Files.f k l0 a1 (([] : List ByteArray))).bind fun t589 => (some t589)) else (some (([] : List ByteArray))))) = some r := h
 clear h
 replace H := Option.bind_eq_some_iff.mp H
 obtain ⟨t585, A30, H⟩ := H
 replace H : (if t585 = true then ((spec_l11Files.f k l0 a1 (([] : List ByteArray))).bind fun t589 => (some t589)) else (some (([] : List ByteArray)))) = some r := H
 have A3 := Aside0.mk A30
 clear A30
 by_cases c4 : t585 = true
 ·subst c4
  have H1 : ((spec_l11Files.f k l0 a1 (([] : List ByteArray))).bind fun t589 => (some t589)) = some r := by rw [if_pos rfl] at H; exact H
  clear H
  have H := H1
  clear H1
  obtain ⟨y586, hy586⟩ : ∃ y_ : List ByteArray, y_ = (([] : List ByteArray)) := ⟨_, rfl⟩
  replace H : ((spec_l11Files.f k l0 a1 y586).bind fun t589 => (some t589)) = some r := hq_ hy586 H
  have Ny586 := Aside0.mk hy586
  clear hy586
  replace H := Option.bind_eq_some_iff.mp H
  obtain ⟨t589, A50, H⟩ := H
  replace H : (some t589) = some r := H
  have A5 := Aside0.mk A50
  clear A50
  obtain rfl := Option.some.inj H
  go_enter Try.func16, Try.ntmps16
  go_wp2_with (first | ((with_reducible refine gate_callee (f := 25) rfl ?_); refine goesL_ (some 6) rfl rfl Try.func25 (by kernel_rfl) rfl #[.slice A0 l0.length c0] rfl sl_ ?_; (with_reducible refine (spec_StoreValid.calls k _ _ l0 true _ ?side1 ?side2 A3.out).mono ?_); (case side1 => exact kC_ HR0.out); (case side2 => exact HC0.out); rintro e w6 ⟨rfl, hb⟩; refine ⟨_, rfl, ?_⟩; replace HB := Aside0.mk (below_step hb_ hb); (try clear hb); (try clear hk)) | ((with_reducible refine gate_dst (N := 11) rfl ?_); refine Kd.R_lit Kd.string _ 9 ?hg (N := 11) ?hd (xs := ([] : List ByteArray)) (inner := []) (ok := fun _ => True) (okp := fun _ => True) ?hr ?hp (fun _ hk => hk) trivial (Below.refl _ _) (Nat.le_refl _) (by simp) ?_; (case hd => rfl); (case hg => rfl); (case hr => first | (go_simp; done) | (go_simp; rfl)); (case hp => exact (Reps.none _ _)); intro v587 w7 ho8 hb hg_ hnew_; clear hg_ hnew_; (first | rw [← Ny586.out] at ho8 | (simp only [Int.reduceToNat] at ho8; rw [← Ny586.out] at ho8)); have HO588 := Aside0.mk (Kd.R_lower ho8 (below_size hb_)); replace HB := Aside0.mk (below_step hb_ hb); clear hb ho8; obtain ⟨Ao9, co9, eo9⟩ := Kd.R_slice HO588.out; subst eo9) | ((with_reducible refine gate_callee (f := 26) rfl ?_); refine goesL_ (some 12) rfl rfl Try.func26 (by kernel_rfl) rfl #[.slice A0 l0.length c0, .int .i64 a1, .slice Ao9 y586.length co9] rfl sl_ ?_; (with_reducible refine (spec_l11Files.calls k _ _ l0 a1 _ _ y586 t589 _ ?side1 ?side2 ?side3 ?side4 A5.out).mono ?_); (case side1 => exact kC_ (Kd.C_below HR0.out HB.out)); (case side2 => exact HC0.out); (case side3 => exact kC_ ((Kd.R_reads' HO588.out).2.2)); (case side4 => exact (Kd.R_reads' HO588.out).2.1); rintro e w10 ⟨v590, rfl, ho0, hb⟩; refine ⟨_, rfl, ?_⟩; have HO591 := Aside0.mk (Kd.R_lower (Kd.R_new' ho0 (Kd.R_lt (kR_ HO588.out))) (below_size hb_)); replace HO588 := Aside0.mk (Kd.R_elder' (kR_ HO588.out) (Kd.R_base ho0) hb); replace HB := Aside0.mk (below_step hb_ hb); (try clear hb); (try clear hk); (try clear ho0)))
  go_ret
  exact ⟨_, er_, by (with_reducible repeat (first | apply Kd.R_alloc | apply Kd.R_drewN | apply Kd.R_drew)); exact Kd.R_mono HO591.out (fun _ hk => trivial), hb_⟩
 ·replace c4 := Bool.eq_false_iff.mpr c4
  subst c4
  have H1 : (some (([] : List ByteArray))) = some r := by rw [if_neg (show ¬ (false = true) by decide)] at H; exact H
  clear H
  have H := H1
  clear H1
  obtain ⟨y592, hy592⟩ : ∃ y_ : List ByteArray, y_ = (([] : List ByteArray)) := ⟨_, rfl⟩
  replace H : (some y592) = some r := hq_ hy592 H
  have Ny592 := Aside0.mk hy592
  clear hy592
  obtain rfl := Option.some.inj H
  go_enter Try.func16, Try.ntmps16
  go_wp2_with (first | ((with_reducible refine gate_callee (f := 25) rfl ?_); refine goesL_ (some 6) rfl rfl Try.func25 (by kernel_rfl) rfl #[.slice A0 l0.length c0] rfl sl_ ?_; (with_reducible refine (spec_StoreValid.calls k _ _ l0 false _ ?side1 ?side2 A3.out).mono ?_); (case side1 => exact kC_ HR0.out); (case side2 => exact HC0.out); rintro e w11 ⟨rfl, hb⟩; refine ⟨_, rfl, ?_⟩; replace HB := Aside0.mk (below_step hb_ hb); (try clear hb); (try clear hk)) | ((with_reducible refine gate_dst (N := 8) rfl ?_); refine Kd.R_lit Kd.string _ 9 ?hg (N := 8) ?hd (xs := ([] : List ByteArray)) (inner := []) (ok := fun _ => True) (okp := fun _ => True) ?hr ?hp (fun _ hk => hk) trivial (Below.refl _ _) (Nat.le_refl _) (by simp) ?_; (case hd => rfl); (case hg => rfl); (case hr => first | (go_simp; done) | (go_simp; rfl)); (case hp => exact (Reps.none _ _)); intro v593 w12 ho13 hb hg_ hnew_; clear hg_ hnew_; (first | rw [← Ny592.out] at ho13 | (simp only [Int.reduceToNat] at ho13; rw [← Ny592.out] at ho13)); have HO594 := Aside0.mk (Kd.R_lower ho13 (below_size hb_)); replace HB := Aside0.mk (below_step hb_ hb); clear hb ho13))
  go_ret
  exact ⟨_, er_, by (with_reducible repeat (first | apply Kd.R_alloc | apply Kd.R_drewN | apply Kd.R_drew)); exact HO594.out, hb_⟩
/-! ### spec_WalkTo: function 27 -/
def spec_WalkTo.f (k : Nat) (l0 : List (S45)) (a1 : Int) (a2 : ByteArray) : Option (Int × Bool) := (spec_PathParts.f k a2).bind fun bt595 => (if bt595.2 = true then ((spec_StoreValid.f k l0).bind fun t599 => (if t599 = true then ((spec_l9Walk.f k l0 a1 bt595.1).bind fun bt600 => (some (bt600.1, bt600.2))) else (some ((-1), false)))) else (some ((-1), false)))
theorem spec_WalkTo.mono : ∀ a0 a1 a2 k, LeO (spec_WalkTo.f k a0 a1 a2) (spec_WalkTo.f (k + 1) a0 a1 a2) := by
 intro a0 a1 a2 k
 unfold spec_WalkTo.f
 repeat' first
   | (with_reducible exact spec_PathParts.mono _ _)
   | (with_reducible exact spec_StoreValid.mono _ _)
   | (with_reducible exact spec_l9Walk.mono _ _ _ _)
   | (with_reducible exact LeO.refl _)
   | (with_reducible exact LeO.none _)
   | (with_reducible refine LeO.ite ?_ ?_)
   | (with_reducible refine LeO.bind ?_ (fun _ => ?_))
   | exact spec_PathParts.mono _ _
   | exact spec_StoreValid.mono _ _
   | exact spec_l9Walk.mono _ _ _ _
   | exact LeO.none _
   | refine LeO.ite ?_ ?_
   | refine LeO.bind ?_ (fun _ => ?_)
set_option maxHeartbeats 8000000 in
set_option maxRecDepth 100000 in
theorem spec_WalkTo.calls (k : Nat) (A0 : Option Addr) (c0 : Nat) (l0 : List (S45)) (a1 : Int) (a2 : ByteArray) (r1 : Int) (r2 : Bool) (w : World) (hr0 : Kd.C k45 w A0 l0.length l0) (hc0 : l0.length ≤ c0) (h : spec_WalkTo.f k l0 a1 a2 = some (r1, r2)) :
  Calls Try.prog 27 #[.slice A0 l0.length c0, .int .i64 a1, .string a2] w fun e w' => e = .returned (.tuple #[.int .i64 r1, .bool r2]) ∧ Below w.heap.size w w' := by
 have HR0 := Aside0.mk hr0
 have HC0 := Aside0.mk hc0
 clear hr0 hc0
 have HB := Aside0.mk (Below.refl w.heap.size w)
 have H : ((spec_PathParts.f k a2).bind fun bt595 => (if bt595.2 = true then ((spec_StoreValid.f k l0).bind fun t599 => (if t599 = true then ((spec_l9Walk.f k l0 a1 bt595.1).bind fun bt600 => (some (bt600.1, bt600.2))) else (some ((-1), false)))) else (some ((-1), false)))) = some (r1, r2) := h
 clear h
 replace H := Option.bind_eq_some_iff.mp H
 obtain ⟨⟨t595, t596⟩, A40, H⟩ := H
 replace H : (if t596 = true then ((spec_StoreValid.f k l0).bind fun t599 => (if t599 = true then ((spec_l9Walk.f k l0 a1 t595).bind fun bt600 => (some (bt600.1, bt600.2))) else (some ((-1), false)))) else (some ((-1), false))) = some (r1, r2) := H
 have A4 := Aside0.mk A40
 clear A40
 by_cases c5 : t596 = true
 ·subst c5
  have H1 : ((spec_StoreValid.f k l0).bind fun t599 => (if t599 = true then ((spec_l9Walk.f k l0 a1 t595).bind fun bt600 => (some (bt600.1, bt600.2))) else (some ((-1), false)))) = some (r1, r2) := by rw [if_pos rfl] at H; exact H
  clear H
  have H := H1
  clear H1
  replace H := Option.bind_eq_some_iff.mp H
  obtain ⟨t599, A60, H⟩ := H
  replace H : (if t599 = true then ((spec_l9Walk.f k l0 a1 t595).bind fun bt600 => (some (bt600.1, bt600.2))) else (some ((-1), false))) = some (r1, r2) := H
  have A6 := Aside0.mk A60
  clear A60
  by_cases c7 : t599 = true
  ·subst c7
   have H1 : ((spec_l9Walk.f k l0 a1 t595).bind fun bt600 => (some (bt600.1, bt600.2))) = some (r1, r2) := by rw [if_pos rfl] at H; exact H
   clear H
   have H := H1
   clear H1
   replace H := Option.bind_eq_some_iff.mp H
   obtain ⟨⟨t600, t601⟩, A80, H⟩ := H
   replace H : (some (t600, t601)) = some (r1, r2) := H
   have A8 := Aside0.mk A80
   clear A80
   simp only [Option.some.injEq, Prod.mk.injEq] at H
   obtain ⟨rfl, rfl⟩ := H
   go_enter Try.func27, Try.ntmps27
   go_wp2_with (first | ((with_reducible refine gate_callee (f := 32) rfl ?_); refine goesL_ (some 12) rfl rfl Try.func32 (by kernel_rfl) rfl #[.string a2] rfl sl_ ?_; (with_reducible refine (spec_PathParts.calls k a2 t595 true _ A4.out).mono ?_); rintro e w9 ⟨v597, rfl, ho0, hb⟩; refine ⟨_, rfl, ?_⟩; have HO598 := Aside0.mk (Kd.R_lower ho0 (below_size hb_)); replace HB := Aside0.mk (below_step hb_ hb); (try clear hb); (try clear ho0)) | (go_at_call 25; (with_reducible refine (spec_StoreValid.calls k _ _ l0 true _ ?side1 ?side2 A6.out).mono ?_); (case side1 => exact kC_ (Kd.C_below HR0.out HB.out)); (case side2 => exact HC0.out); rintro e w10 ⟨rfl, hb⟩; replace HO598 := Aside0.mk (Kd.R_below (kR_ HO598.out) hb); replace HB := Aside0.mk (below_step hb_ hb); (try clear hb); obtain ⟨Ao11, co11, eo11⟩ := Kd.R_slice HO598.out; subst eo11) | ((with_reducible refine gate_callee (f := 33) rfl ?_); refine goesL_ (some 25) rfl rfl Try.func33 (by kernel_rfl) rfl #[.slice A0 l0.length c0, .int .i64 a1, .slice Ao11 t595.length co11] rfl sl_ ?_; (with_reducible refine (spec_l9Walk.calls k _ _ l0 a1 _ _ t595 t600 t601 _ ?side1 ?side2 ?side3 ?side4 A8.out).mono ?_); (case side1 => exact kC_ (Kd.C_below HR0.out HB.out)); (case side2 => exact HC0.out); (case side3 => exact kC_ ((Kd.R_reads' HO598.out).2.2)); (case side4 => exact (Kd.R_reads' HO598.out).2.1); rintro e w12 ⟨rfl, hb⟩; refine ⟨_, rfl, ?_⟩; replace HO598 := Aside0.mk (Kd.R_below (kR_ HO598.out) hb); replace HB := Aside0.mk (below_step hb_ hb); (try clear hb)))
   go_ret2
   exact ⟨er_, hb_⟩
  ·replace c7 := Bool.eq_false_iff.mpr c7
   subst c7
   have H1 : (some ((-1), false)) = some (r1, r2) := by rw [if_neg (show ¬ (false = true) by decide)] at H; exact H
   clear H
   have H := H1
   clear H1
   simp only [Option.some.injEq, Prod.mk.injEq] at H
   obtain ⟨rfl, rfl⟩ := H
   go_enter Try.func27, Try.ntmps27
   go_wp2_with (first | ((with_reducible refine gate_callee (f := 32) rfl ?_); refine goesL_ (some 12) rfl rfl Try.func32 (by kernel_rfl) rfl #[.string a2] rfl sl_ ?_; (with_reducible refine (spec_PathParts.calls k a2 t595 true _ A4.out).mono ?_); rintro e w13 ⟨v597, rfl, ho0, hb⟩; refine ⟨_, rfl, ?_⟩; have HO598 := Aside0.mk (Kd.R_lower ho0 (below_size hb_)); replace HB := Aside0.mk (below_step hb_ hb); (try clear hb); (try clear ho0)) | (go_at_call 25; (with_reducible refine (spec_StoreValid.calls k _ _ l0 false _ ?side1 ?side2 A6.out).mono ?_); (case side1 => exact kC_ (Kd.C_below HR0.out HB.out)); (case side2 => exact HC0.out); rintro e w14 ⟨rfl, hb⟩; replace HO598 := Aside0.mk (Kd.R_below (kR_ HO598.out) hb); replace HB := Aside0.mk (below_step hb_ hb); (try clear hb)))
   go_ret2
   exact ⟨er_, hb_⟩
 ·replace c5 := Bool.eq_false_iff.mpr c5
  subst c5
  have H1 : (some ((-1), false)) = some (r1, r2) := by rw [if_neg (show ¬ (false = true) by decide)] at H; exact H
  clear H
  have H := H1
  clear H1
  simp only [Option.some.injEq, Prod.mk.injEq] at H
  obtain ⟨rfl, rfl⟩ := H
  go_enter Try.func27, Try.ntmps27
  go_wp2_with (first | ((with_reducible refine gate_callee (f := 32) rfl ?_); refine goesL_ (some 12) rfl rfl Try.func32 (by kernel_rfl) rfl #[.string a2] rfl sl_ ?_; (with_reducible refine (spec_PathParts.calls k a2 t595 false _ A4.out).mono ?_); rintro e w15 ⟨v597, rfl, ho0, hb⟩; refine ⟨_, rfl, ?_⟩; have HO598 := Aside0.mk (Kd.R_lower ho0 (below_size hb_)); replace HB := Aside0.mk (below_step hb_ hb); (try clear hb); (try clear ho0)))
  go_ret2
  exact ⟨er_, hb_⟩
/-! ### spec_GetText: function 28 -/
def spec_GetText.f (k : Nat) (l0 : List (S45)) (a1 : Int) : Option (ByteArray × Bool) := (spec_StoreValid.f k l0).bind fun t602 => (if t602 = true then ((spec_l4Get.f k l0 a1).bind fun bt603 => (some (bt603.1, bt603.2))) else (some ((⟨#[]⟩ : ByteArray), false)))
theorem spec_GetText.mono : ∀ a0 a1 k, LeO (spec_GetText.f k a0 a1) (spec_GetText.f (k + 1) a0 a1) := by
 intro a0 a1 k
 unfold spec_GetText.f
 repeat' first
   | (with_reducible exact spec_StoreValid.mono _ _)
   | (with_reducible exact spec_l4Get.mono _ _ _)
   | (with_reducible exact LeO.refl _)
   | (with_reducible exact LeO.none _)
   | (with_reducible refine LeO.ite ?_ ?_)
   | (with_reducible refine LeO.bind ?_ (fun _ => ?_))
   | exact spec_StoreValid.mono _ _
   | exact spec_l4Get.mono _ _ _
   | exact LeO.none _
   | refine LeO.ite ?_ ?_
   | refine LeO.bind ?_ (fun _ => ?_)
set_option maxHeartbeats 8000000 in
set_option maxRecDepth 100000 in
theorem spec_GetText.calls (k : Nat) (A0 : Option Addr) (c0 : Nat) (l0 : List (S45)) (a1 : Int) (r1 : ByteArray) (r2 : Bool) (w : World) (hr0 : Kd.C k45 w A0 l0.length l0) (hc0 : l0.length ≤ c0) (h : spec_GetText.f k l0 a1 = some (r1, r2)) :
  Calls Try.prog 28 #[.slice A0 l0.length c0, .int .i64 a1] w fun e w' => e = .returned (.tuple #[.string r1, .bool r2]) ∧ Below w.heap.size w w' := by
 have HR0 := Aside0.mk hr0
 have HC0 := Aside0.mk hc0
 clear hr0 hc0
 have HB := Aside0.mk (Below.refl w.heap.size w)
 have H : ((spec_StoreValid.f k l0).bind fun t602 => (if t602 = true then ((spec_l4Get.f k l0 a1).bind fun bt603 => (some (bt603.1, bt603.2))) else (some ((⟨#[]⟩ : ByteArray), false)))) = some (r1, r2) := h
 clear h
 replace H := Option.bind_eq_some_iff.mp H
 obtain ⟨t602, A30, H⟩ := H
 replace H : (if t602 = true then ((spec_l4Get.f k l0 a1).bind fun bt603 => (some (bt603.1, bt603.2))) else (some ((⟨#[]⟩ : ByteArray), false))) = some (r1, r2) := H
 have A3 := Aside0.mk A30
 clear A30
 by_cases c4 : t602 = true
 ·subst c4
  have H1 : ((spec_l4Get.f k l0 a1).bind fun bt603 => (some (bt603.1, bt603.2))) = some (r1, r2) := by rw [if_pos rfl] at H; exact H
  clear H
  have H := H1
  clear H1
  replace H := Option.bind_eq_some_iff.mp H
  obtain ⟨⟨t603, t604⟩, A50, H⟩ := H
  replace H : (some (t603, t604)) = some (r1, r2) := H
  have A5 := Aside0.mk A50
  clear A50
  simp only [Option.some.injEq, Prod.mk.injEq] at H
  obtain ⟨rfl, rfl⟩ := H
  go_enter Try.func28, Try.ntmps28
  go_wp2_with (first | ((with_reducible refine gate_callee (f := 25) rfl ?_); refine goesL_ (some 7) rfl rfl Try.func25 (by kernel_rfl) rfl #[.slice A0 l0.length c0] rfl sl_ ?_; (with_reducible refine (spec_StoreValid.calls k _ _ l0 true _ ?side1 ?side2 A3.out).mono ?_); (case side1 => exact kC_ HR0.out); (case side2 => exact HC0.out); rintro e w6 ⟨rfl, hb⟩; refine ⟨_, rfl, ?_⟩; replace HB := Aside0.mk (below_step hb_ hb); (try clear hb)) | ((with_reducible refine gate_callee (f := 36) rfl ?_); refine goesL_ (some 11) rfl rfl Try.func36 (by kernel_rfl) rfl #[.slice A0 l0.length c0, .int .i64 a1] rfl sl_ ?_; (with_reducible refine (spec_l4Get.calls k _ _ l0 a1 t603 t604 _ ?side1 ?side2 A5.out).mono ?_); (case side1 => exact kC_ (Kd.C_below HR0.out HB.out)); (case side2 => exact HC0.out); rintro e w' ⟨rfl, ⟨nd, rfl⟩⟩; refine ⟨_, rfl, ?_⟩))
  go_ret2
  exact ⟨er_, hb_⟩
 ·replace c4 := Bool.eq_false_iff.mpr c4
  subst c4
  have H1 : (some ((⟨#[]⟩ : ByteArray), false)) = some (r1, r2) := by rw [if_neg (show ¬ (false = true) by decide)] at H; exact H
  clear H
  have H := H1
  clear H1
  simp only [Option.some.injEq, Prod.mk.injEq] at H
  obtain ⟨rfl, rfl⟩ := H
  go_enter Try.func28, Try.ntmps28
  go_wp2_with (first | ((with_reducible refine gate_callee (f := 25) rfl ?_); refine goesL_ (some 7) rfl rfl Try.func25 (by kernel_rfl) rfl #[.slice A0 l0.length c0] rfl sl_ ?_; (with_reducible refine (spec_StoreValid.calls k _ _ l0 false _ ?side1 ?side2 A3.out).mono ?_); (case side1 => exact kC_ HR0.out); (case side2 => exact HC0.out); rintro e w7 ⟨rfl, hb⟩; refine ⟨_, rfl, ?_⟩; replace HB := Aside0.mk (below_step hb_ hb); (try clear hb)))
  go_ret2
  exact ⟨er_, hb_⟩
end Go.Proofs.Ytjgbidklkhohfaa.P
